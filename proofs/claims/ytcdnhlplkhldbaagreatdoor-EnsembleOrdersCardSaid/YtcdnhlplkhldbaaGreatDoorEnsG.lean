/- EnsembleOrders: works returns true. -/
import Derived.Test.YtcdnhlplkhldbaaGreatDoorGiN
import Derived.WalkKit
import Derived.ProofKit
import Derived.OpenShut
import Derived.ShutString
import Derived.ChangeOld
import Derived.MakeChecks
import Derived.Deep.Slices
import Derived.Deep.Strs
import Derived.Test.YtcdnhlplkhldbaaGreatDoorCards
import Derived.Test.YtcdnhlplkhldbaaGreatDoorTie
import Derived.Lay
import Derived.LaidOnce
import Derived.SevenTiedAt
import Derived.HandedShaped
open Array renaming mem_of_getElem?->mG,mem_toList_iff->gZ
open List renaming drop_succ_cons->nB,length_drop->fG,replicate->eS,take_left->kD,take_succ_cons->nC,take_zero->oQ
open Nat renaming not_lt_zero->oO,succ_mul->mL
open Option renaming some->eX
set_option linter.all false
set_option maxRecDepth 100000
namespace Go.Proofs.YtcdnhlplkhldbaaGreatDoor
open Go.Z
open Proofs.Tryz RowKit RX GS RZ WD
def XD:∀(lb la z:List Value),z.length=lb.length->Ya (la++z) la.length lb=la++lb
 |[],la,z,h=>by rw[List.length_eq_zero_iff.1 h];rfl
 |y::ys,la,[],h=>by cases h
 |y::ys,la,z0::zs,h=>by
  have ih:=XD ys (la++[y]) zs (by simpa using h);rw[aL,bL,bL]at ih;show Ya ((la++z0::zs).set la.length y) (la.length+1) ys=_;rw[List.set_append_right _ _ (aS _),dS];exact ih
def e1R:j3 prog 53= .agg (eS 16 (.int .u64 0)).toArray:=aB
section
variable {H:PH} {ρ:List Value} {x y:SV}
def e3O:D prog ρ (.z 53)= .agg (eS 16 (.int .u64 0)).toArray:=e1R
def FH {a b:Rat} (hx:D prog ρ x=shR a) (hy:D prog ρ y=shR b):D prog ρ (.put (.cat x 16 (.z 53)) 16 16 y 0 noI)= .agg (shw a++shw b):=by
 have h1:D prog ρ x= .agg (shw a).toList.toArray:=by rw[hx,Di]
 have h2:D prog ρ y= .agg (shw b).toList.toArray:=by rw[hy,Di]
 have h:=WA (n:=16) (o:=16) (Kr (n:=16) h1 e3O) h2;rw[h];congr 1;apply Array.ext';have ha:(shw a).toList.length=16:=by rw[bA,Az]
 have hb:(shw b).toList.length=16:=by rw[bA,Az]
 have e:=XD (shw b).toList (shw a).toList (eS 16 (.int .u64 0)) (by rw[List.length_replicate,hb]);rw[ha]at e;rw[e];simp
def FI:j4 prog 12 [ii 20,ii 1] H (shR 20):=Yc aC aC aC aC aC (by decide+kernel) FG
def XF:j4 prog 12 [ii 30,ii 1] H (shR 30):=Yc aC aC aC aC aC (by decide+kernel) XA
def FK:j4 prog 12 [ii 1,ii 3] H (shR (qN 1 3)):=Yc aC aC aC aC aC rfl (rgT 1 3 aC)
def XG:j4 prog 12 [ii 2,ii 3] H (shR (qN 2 3)):=Yc aC aC aC aC aC rfl (rgT 2 3 aC)
def e5f:j4 prog 12 [ii 1,ii 1] H (shR (qN 1 1)):=Yc aC aC aC aC aC rfl (rgT 1 1 aC)
def XH:j4 prog 12 [ii 0,ii 1] H (shR 0):=Yc aC aC aC aC aC (by decide+kernel) ((show qN 0 3=0 by decide+kernel) ▸ rgT 0 3 aC)
def XI {w rw:Value} {lo:Int} {z:SV} (hx:D prog ρ x=stV dm0 4 2 2 0 0 w rw 10 30) (hz:D prog ρ z=ii lo):D prog ρ (.cat (.sub (.ag x) 0 7 0 noI) 7 (.cat z 1 (.sub (.ag x) 8 4 0 noI)))=stV dm0 4 2 2 0 0 w rw lo 30:=by
 have h:D prog ρ (.ag x)= .agg (stC dm0 4 2 2 0 0 w rw 10 30).toArray:=by show Value.agg (D prog ρ x).cells=_;rw[hx];rfl
 exact Kr (n:=7) (Cj h) (Bt (n:=1) hz rfl (Cj h))
def FM:n8 prog 66=true:=aB
def XJ:n8 prog 70=true:=aB
def e3R:(j3 prog 81)= .agg #[.int .u64 0]:=aB
set_option maxHeartbeats 4000000 in
def d1g (hT:Tb H):j4 prog 4 [] H (.bool true):=by
 refine g5 mixed d7Y ?_;have hS:=so4 (lo:=10) (hi:=30) (.inl rfl);have hz:(2:Nat)=1->s5 us4 4=true:=fun h=>by cases h
 have hp:0<p7 4 2 es4 us4 10 30:=by rw[Nk];decide
 have hN:p7 4 2 es4 us4 10 30<=400:=by rw[Nk];decide
 have hr:=qh hS hz;refine f0 (d1c hT) rfl ?_;rintro _ H0 ⟨l0,w,rw',rfl,hM⟩;refine nmI ?_;simp only[cA,nA];refine b4 (En (t8 hM.gr) hM.ro.one) ?_;refine i8 (FI) rfl fun H1 l1=> ?_;simp only[cA,nA];refine i8 (FK) rfl fun H2 l2=> ?_;simp only[cA,nA];refine b4 (j7 _ _) ?_;refine b4 (j7 _ _) ?_;refine i8 (XF) rfl fun H3 l3=> ?_;simp only[cA,nA];refine i8 (XG) rfl fun H4 l4=> ?_;simp only[cA,nA];refine b4 (j7 _ _) ?_;refine b4 (j7 _ _) ?_;refine Gj ov (l:=[k20,k30]) (vs:=[veM k20,veM k30]) rfl aC aC rfl rfl (i0 (FH rfl rfl) (FH rfl rfl)) fun v5 H5 l5 o5 _=> ?_;simp only[cA,nA];refine f0 (WQ o5.se) rfl ?_;rintro _ H6 ⟨l6,c,rfl,hc⟩;refine nmI ?_;simp only[cA,nA];have m6:=(l1.trans l2).trans ((l3.trans l4).trans (l5.trans l6));refine f0 (qf (gb:=true) (hM.mono m6) hS hz hp hN hr) rfl ?_;rintro _ H7 ⟨l7,pl,rfl,tQ⟩;refine nmI ?_;simp only[cA,nA];refine g7 (g7 (g7 ?_));refine b4 (j7 _ _) ?_;refine f0 (qf (gb:=false) (hM.mono (m6.trans l7)) hS hz hp hN hr) rfl ?_;rintro _ H8 ⟨l8,ql,rfl,hql⟩;refine nmI ?_;simp only[cA,nA];refine g7 (g7 (g7 ?_));refine b4 (j7 _ _) ?_;have m8:=(m6.trans l7).trans l8;refine f0 (oz (hM.mono m8) hS hz hp hN hr) rfl ?_;rintro _ H9 ⟨l9,t9,mm,rfl,hs9,hT9⟩;refine⟨(fun _=>l9),?_⟩;simp only[cA,nA];obtain⟨rfl,ra,rb,rc,rd⟩:=rk4 hT9;have l69:=(l7.trans l8).trans l9;refine g7 (g7 ?_);refine j1 (Aj (f:=66) (caps:= #[.pointer (some ⟨c,0,none⟩)]) (vs:=[t9,ii 0]) rfl rfl rfl FM (EY (l69 _ _ hc) hs9 (o5.se.mono (l6.trans l69)))) rfl ?_;rintro _ _ ⟨rfl,rfl⟩;refine⟨(fun _=>Pl.refl _),?_⟩;simp only[cA,nA];refine b9 ?_;refine Aq rfl ?_;refine f0 (d1f (hM.mono (m8.trans l9)) hS hz hp hN hr e5e) rfl ?_;rintro _ H10 ⟨l10,t10,mm,rfl,a5t,a5u⟩;refine⟨(fun _=>l10),?_⟩;simp only[cA,nA];obtain⟨rfl,-,-,-,-⟩:=rk4 a5u;refine g7 (g7 ?_);refine j1 (Aj (f:=66) (caps:= #[.pointer (some ⟨c,0,none⟩)]) (vs:=[t10,ii 0]) rfl rfl rfl FM (EY ((l69.trans l10) _ _ hc) a5t (o5.se.mono (l6.trans (l69.trans l10))))) rfl ?_;rintro _ _ ⟨rfl,rfl⟩;refine⟨(fun _=>Pl.refl _),?_⟩;simp only[cA,nA];refine b9 ?_;refine Aq rfl ?_;refine i8 (XH) rfl fun H11 l11=> ?_;simp only[cA,nA];refine i8 (FK) rfl fun H12 l12=> ?_;simp only[cA,nA];refine f0 (WR) rfl ?_;rintro _ H13 ⟨l13,c1,d1,rfl,rX,wO⟩;refine⟨(fun _=>l13),?_⟩;simp only[cA,nA];refine pg z6 (N:=4) (l:=[0,0,1,1]) (vs:=[ii 0,ii 0,ii 1,ii 1]) rfl aC aC rfl rfl rfl fun v16 H14 l14 o14=> ?_;simp only[cA,nA];have m14:=(m8.trans l9).trans (l10.trans ((l11.trans l12).trans (l13.trans l14)));refine f0 (qc o14.se (XC (.inl rfl)) (hM.mono m14) hS hz hp hN hr (qg rv4 gv4 hS.hk (hS.mok hz))) rfl ?_;rintro _ H15 ⟨l15,mm,a3h,rfl⟩;refine⟨(fun _=>l15),?_⟩;simp only[cA,nA];rw[(rk4 a3h).2.1,(rk4 a3h).2.2.1];refine g7 (g7 (g7 ?_));refine j1 (Aj (f:=70) (caps:= #[.pointer (some ⟨c1,0,none⟩),.pointer (some ⟨d1,0,none⟩)]) (vs:=[shR 0,shR (qN 1 3),ii 0]) rfl rfl rfl XJ (WT ((l14.trans l15) _ _ rX) ((l14.trans l15) _ _ wO))) rfl ?_;rintro _ _ ⟨rfl,rfl⟩;refine⟨(fun _=>Pl.refl _),?_⟩;simp only[cA,nA];refine b9 ?_;refine Aq rfl ?_;refine i8 (FK) rfl fun H16 l16=> ?_;simp only[cA,nA];refine i8 (XG) rfl fun H17 l17=> ?_;simp only[cA,nA];refine f0 (WR) rfl ?_;rintro _ H18 ⟨l18,c2,d2,rfl,rR,qH⟩;refine⟨(fun _=>l18),?_⟩;simp only[cA,nA];refine pg z6 (N:=4) (l:=[1,0,0,0]) (vs:=[ii 1,ii 0,ii 0,ii 0]) rfl aC aC rfl rfl rfl fun v22 H19 l19 o19=> ?_;simp only[cA,nA];have m19:=(m14.trans l15).trans ((l16.trans l17).trans (l18.trans l19));refine f0 (qc o19.se (XC (.inr rfl)) (hM.mono m19) hS hz hp hN hr (qg rv4 gv4 hS.hk (hS.mok hz))) rfl ?_;rintro _ H20 ⟨l20,mm,a3i,rfl⟩;refine⟨(fun _=>l20),?_⟩;simp only[cA,nA];rw[(rk4 a3i).2.2.2.1,(rk4 a3i).2.2.2.2];refine g7 (g7 (g7 ?_));refine j1 (Aj (f:=70) (caps:= #[.pointer (some ⟨c2,0,none⟩),.pointer (some ⟨d2,0,none⟩)]) (vs:=[shR (qN 1 3),shR (qN 2 3),ii 0]) rfl rfl rfl XJ (WT ((l19.trans l20) _ _ rR) ((l19.trans l20) _ _ qH))) rfl ?_;rintro _ _ ⟨rfl,rfl⟩;refine⟨(fun _=>Pl.refl _),?_⟩;simp only[cA,nA];refine b9 ?_;refine Aq rfl ?_;refine Gj z6 (N:=4) (l:=[0,0,0,1]) (vs:=[ii 0,ii 0,ii 0,ii 1]) rfl aC aC rfl rfl rfl fun v25 H21 l21 o21 _=> ?_;simp only[cA,nA];have m7:=l8.trans (l9.trans (l10.trans ((l11.trans l12).trans (l13.trans l14))));have m721:=m7.trans ((l15.trans ((l16.trans l17).trans (l18.trans l19))).trans (l20.trans l21));have a5v:SI H7 pl [0,0,0,1]:=by have h:=tQ;rw[Xu,Nk,bst4.2.2.1,i1030.1]at h;exact h
 have a5w:SI H8 ql [0,0,1,1]:=by have h:=hql;rw[Xu,Nk,bst4.2.2.2,i1030.2.1]at h;exact h
 refine j9 (PM (a5v.mono m721) o21.se) rfl ?_;simp only[cA,nA];refine b9 ?_;refine Aq rfl ?_;refine i8 (XF) rfl fun H22 l22=> ?_;simp only[cA,nA];refine j8 ((qk 30 rfl rfl rfl).rds _) (i0 (by show Value.agg (shR _).cells=_;rw[Xu,Nk,bst4.1];exact Ib 30) rfl) ?_;simp only[cA,nA];refine b9 ?_;refine Aq rfl ?_;refine b9 ?_;refine Aq rfl ?_;refine Gj z6 (N:=4) (l:=[0,0,1,1]) (vs:=[ii 0,ii 0,ii 1,ii 1]) rfl aC aC rfl rfl rfl fun v29 H23 l23 o23 _=> ?_;simp only[cA,nA];have m823:=(l9.trans (l10.trans ((l11.trans l12).trans (l13.trans l14)))).trans (((l15.trans ((l16.trans l17).trans (l18.trans l19))).trans (l20.trans l21)).trans (l22.trans l23));refine j9 (PM (a5w.mono m823) o23.se) rfl ?_;simp only[cA,nA];refine b9 ?_;refine Aq rfl ?_;refine i8 (FI) rfl fun H24 l24=> ?_;simp only[cA,nA];refine j8 ((qk 20 rfl rfl rfl).rds _) (i0 (by show Value.agg (shR _).cells=_;rw[Xu,Nk,bst4.2.1];exact Ib 20) rfl) ?_;simp only[cA,nA];refine b9 ?_;refine Aq rfl ?_;have m24:=m8.trans (m823.trans l24);refine b9 ?_;refine f0 (c6s (hM.mono m24) (so4 (lo:=21) (hi:=30) (.inr (.inr rfl))) hz e3r) (p6 (XI rfl rfl)) ?_;rintro _ H25 ⟨l25,rfl⟩;refine nmI ?_;simp only[cA,nA];refine g7 (g7 ?_);refine Gj z6 (N:=4) (l:=[0,0,0,0]) (vs:=[ii 0,ii 0,ii 0,ii 0]) rfl aC aC rfl rfl rfl fun v34 H26 l26 o26 _=> ?_;simp only[cA,nA];have m26:=m24.trans (l25.trans l26);refine f0 (c6r o26.se e5d (hM.mono m26) hS hz) rfl ?_;rintro _ H27 ⟨l27,rfl⟩;refine nmI ?_;simp only[cA,nA];refine g7 (g7 (g7 ?_));refine b4 WX ?_;refine b4 WX ?_;refine Gj z6 (N:=4) (l:=[0,0,1,1]) (vs:=[ii 0,ii 0,ii 1,ii 1]) rfl aC aC rfl rfl rfl fun v36 H28 l28 o28 _=> ?_;simp only[cA,nA];have m28:=m26.trans (l27.trans l28);refine f0 (b6a (ch:=j3 prog 81) o28.se (by rw[e3R];exact⟨rfl,fun c hc=>by simp[Value.cells]at hc;subst hc;rfl⟩) (hM.mono m28) hS hz) rfl ?_;rintro _ H29 ⟨l29,ex,ey,ez,rfl,he1,he2⟩;refine nmI ?_;simp only[cA,nA];refine g7 (g7 (g7 (g7 ?_)));refine b4 ⟨he1,he2⟩ ?_;refine Aq rfl ?_;refine i8 (FI) rfl fun H30 l30=> ?_;simp only[cA,nA];refine i8 (e5f) rfl fun H31 l31=> ?_;simp only[cA,nA];refine b4 (j7 _ _) ?_;refine b4 (j7 _ _) ?_;refine Gj ov (N:=1) (l:=[k21]) (vs:=[veM k21]) rfl aC aC rfl rfl (p6 (FH rfl rfl)) fun v40 H32 l32 o32 _=> ?_;simp only[cA,nA];refine f0 (WQ o32.se) rfl ?_;rintro _ H33 ⟨l33,c4,rfl,hc4⟩;refine⟨(fun _=>l33),?_⟩;simp only[cA,nA];have m33:=m28.trans (l29.trans ((l30.trans l31).trans (l32.trans l33)));have hS2:=so4 (lo:=20) (hi:=30) (.inr (.inl rfl));refine f0 (oz (hM.mono m33) hS2 hz (by rw[EI];decide) (by rw[EI];decide) (qh hS2 hz)) (p6 (XI rfl rfl)) ?_;rintro _ H34 ⟨l34,t34,mm,rfl,a5x,a5y⟩;refine⟨(fun _=>l34),?_⟩;simp only[cA,nA];obtain rfl:=m20 a5y;refine g7 (g7 ?_);refine j1 (Aj (f:=66) (caps:= #[.pointer (some ⟨c4,0,none⟩)]) (vs:=[t34,ii 0]) rfl rfl rfl FM (EY (l34 _ _ hc4) a5x (o32.se.mono (l33.trans l34)))) rfl ?_;rintro _ _ ⟨rfl,rfl⟩;refine⟨(fun _=>Pl.refl _),?_⟩;simp only[cA,nA];refine b9 ?_;refine Aq rfl ?_;refine b9 ?_;refine Aq rfl ?_;refine b9 ?_;refine Aq rfl ?_;refine b9 ?_;exact d4 rfl ⟨l0.trans (m33.trans l34),rfl⟩
end
def dz {o:Oper} {x y:Operand} (r:Rat) (ho:o.op= .binOp .neq 53 x y 53) (hx:e8 [x,y] [shR r,shR r] x=shR r) (hy:e8 [x,y] [shR r,shR r] y=shR r):Yld prog o [shR r,shR r] (.bool false):=fun w=>by
 have qE:o.op.operands.toList=[x,y]:=by simp[ho,Op.operands]
 rw[qE];have h1:=run_neq_struct (P:=prog) w 53 (shw r) (shw r);have h2:=run_eqGuard_agg (P:=prog) w .neq 53 x y (shw r) (shw r) aB;have h3:(Op.equalIn 10000 53 (.agg (shw r)) (.agg (shw r))).run prog w= .ok true w:=by
  have:=DU r 9997 w;rw[Di]at this;exact this
 rw[h3]at h1;simp only[execOp,ho,hx,hy,Sem.run_bind];rw[Di];simp only[h2,h1,Result.andThen_ok];rfl
def d1h {l:List Rat} {m:List MaT} {y:MaT} (h:TalP l m) (hy:m[0]? =some y):Jc l y.1.1 m=0:=by
 cases m with
 |nil=>cases hy
 |cons z t=>
  cases hy;have hf:((y::t).filter fun q=>decide (q.1.1<y.1.1))=[]:=List.filter_eq_nil_iff.2 fun q hq=>by
   rcases bG.1 hq with rfl|hq
   ·simpa using Rat.lt_irrefl
   ·have:=(List.pairwise_cons.1 h.1).1 q hq;exact fun hh=>absurd (oDt hh) (Rat.not_lt.2 (Rat.le_of_lt this))
  unfold Jc;rw[hf];rfl
def d8o {n:Nat}:qN 0 n=0:=by unfold qN;exact Rat.zero_divInt _
section
variable {H:PH} {a b c s:Value} {ps ls xs:List Nat} {ms:List (Nat×Nat)} {nn kk g p l wa un le mo me lv wh:Nat}
set_option maxHeartbeats 8000000 in
def d1i (hT:Tb H) (hD:D21 H a b c ps ls ms) (hs:SE H 1 cU8 s xs) (h8:∀x∈xs,x<256) (rT:un<256) (pY:le<256) (xX:mo<256):Con prog 3 [Gw nn kk a b c g p l wa s un le mo me lv wh] H fun r H'=>Pl H H'/\r= .bool true:=by
 refine g5 mixed d7X ?_;refine b4 (WB hD (t8 hs)) ?_;refine i8 (d1g hT) rfl fun H0 l0=> ?_;simp only[cA,nA];refine b9 ?_;refine i7 rfl ?_;refine f0 (b9z (nn:=nn) (kk:=kk) (g:=g) (p:=p) (l:=l) (wa:=wa) (me:=me) (lv:=lv) (wh:=wh) (hT.mono l0) (hD.mono l0) (hs.mono l0) h8 rT pY xX) rfl ?_;rintro _ H1 ⟨l1,n,k,ms,lv,who,w,rw',u,lo,hi,es,us,p,rfl,hM,hS,hu,hO,hp⟩;refine nmI ?_;simp only[cA,nA];refine g7 (g7 ?_);refine b4 (En (t8 hM.gr) hM.ro.one) ?_;refine f0 (c6m hM hS hp) rfl ?_;rintro _ H2 ⟨l2,t,e,rfl,hE⟩;refine nmI ?_;simp only[cA,nA];refine g7 (g7 (b9 ?_));refine y5 (p:=(e≠0)) (bN e 0) (fun he=> ?_) fun he=> ?_
 ·obtain rfl:e=7:=hE.resolve_right (fun h=>he h.1);exact d4 rfl ⟨l0.trans (l1.trans l2),rfl⟩
 ·have he0:e=0:=cL he;obtain⟨hz,m,hm,hTm⟩:=(hE.resolve_left aA).2;subst he0;have hN:=WL hS;have hr:=qh hS hz;have tN:∀q,Rg (An d232 n es us k ms lv who q):=fun q=>qg (p:=q) hS.rv hS.gv hS.hk (hS.mok hz);have uL:(vlL d232 n k ms lv who es us lo hi).length=p7 n k es us lo hi:=Gu;have qJ:vlL d232 n k ms lv who es us lo hi≠[]:=fun e=>by rw[e]at uL;simp at uL;omega
  have a3j:0<m.length:=eD.2 (hTm.ne qJ);have hml:=hm.len;refine m9 el_mass hm ?_;simp only[cA,nA];refine b9 ?_;refine i7 (bz (a:=((m.length:Nat):Int)) aA) ?_;refine i8 (UP hm hTm aA aA) rfl fun H3 l3=> ?_;simp only[cA,nA];refine b9 ?_;refine i7 rfl ?_;have l23:=l2.trans l3;refine f0 (qf (gb:=true) (hM.mono l23) hS hz hp hN hr) rfl ?_;rintro _ H4 ⟨l4,pl1,rfl,_⟩;refine nmI ?_;simp only[cA,nA];refine g7 (g7 (g7 ?_));refine b4 (j7 _ _) ?_;refine f0 (qf (gb:=false) (hM.mono (l23.trans l4)) hS hz hp hN hr) rfl ?_;rintro _ H5 ⟨l5,pl2,rfl,a5z⟩;refine nmI ?_;simp only[cA,nA];refine g7 (g7 (g7 ?_));refine b4 (j7 _ _) ?_;have m5:=(l23.trans l4).trans l5;refine f0 (qc (hu.mono m5) hO (hM.mono m5) hS hz hp hN hr (tN _)) rfl ?_;rintro _ H6 ⟨l6,m3,a6a,rfl⟩;refine nmI ?_;simp only[cA,nA];obtain rfl:=a6a.uniq hTm;refine g7 (g7 (g7 ?_));refine b4 (j7 _ _) ?_;refine b4 (j7 _ _) ?_;refine i8 (WU (hM.mono (m5.trans l6)) hS hz (hu.mono (m5.trans l6)) hO.ok) rfl fun H7 l7=> ?_;simp only[cA,nA];refine g7 (g7 ?_);refine b4 (j7 _ _) ?_;have m7:=(m5.trans l6).trans l7;have m37:=(l3.trans l4).trans (l5.trans (l6.trans l7));refine i8 (US (hm.mono m37) hTm aA aA (tN _)) rfl fun H8 l8=> ?_;simp only[cA,nA];refine g7 (g7 (g7 ?_));refine b4 (j7 _ _) ?_;refine b4 (j7 _ _) ?_;have m8:=m7.trans l8;have a3k:=WG (g:=false) (l:=vlL d232 n k ms lv who es us lo hi) _ hp;have a6b:=d0P (n:=n) (k:=k) (es:=es) (us:=us) (lo:=lo) (hi:=hi) hS.hk hS.gv.n1 (by have:=hS.n6;omega) a3k;refine f0 (qc (a5z.mono ((l6.trans l7).trans l8)) a6b (hM.mono m8) hS hz hp hN hr (tN _)) rfl ?_;rintro _ H9 ⟨l9,m4,zW,rfl⟩;refine nmI ?_;simp only[cA,nA];obtain rfl:=zW.uniq hTm;refine g7 (g7 (g7 ?_));refine b4 (j7 _ _) ?_;refine b4 (j7 _ _) ?_;refine b9 ?_;refine i7 rfl ?_;refine b9 ?_;refine i7 rfl ?_;refine b9 ?_;refine i7 rfl ?_;refine b9 ?_;refine i7 rfl ?_;refine b9 ?_;refine i7 rfl ?_;refine b9 ?_;refine i7 rfl ?_;obtain⟨be0,be1⟩:=d0V zW qJ;rw[uL]at be0 be1;have tW:m4[0]? =some m4[0]:=aG a3j;have hyE:m4[m4.length-1]? =some m4[m4.length-1]:=aG aA;have hz0:rkA d232 n k ms lv who es us lo hi (Aa n k es us lo hi (Dy false (vlL d232 n k ms lv who es us lo hi) (p7 n k es us lo hi))) m4=0:=by
   have e1:=WH (g:=false) (l:=vlL d232 n k ms lv who es us lo hi) (p7 n k es us lo hi) hp aA;rw[cy a3k]at e1;unfold rkA;rw[eX.inj e1,<-be0 _ tW,d1h zW tW,d8o]
  refine j8 ((dz (rkA d232 n k ms lv who es us lo hi p m4) rfl rfl rfl).rds _) (i0 (Ib _) (by show Value.agg (shR _).cells=_;rw[Ib];unfold rkA;rw[uL])) ?_;simp only[cA,nA];refine b9 ?_;refine i7 rfl ?_;refine j8 ((dz (rkB d232 n k ms lv who es us lo hi p m4) rfl rfl rfl).rds _) (i0 (Ib _) (by show Value.agg (shR _).cells=_;rw[Ib];unfold rkB;rw[uL])) ?_;simp only[cA,nA];refine b9 ?_;refine i7 rfl ?_;refine i8 (XH) rfl fun H10 l10=> ?_;simp only[cA,nA];refine j8 ((dz 0 rfl rfl rfl).rds _) (i0 (by show Value.agg (shR _).cells=_;rw[hz0];exact Ib 0) rfl) ?_;simp only[cA,nA];refine b9 ?_;refine i7 rfl ?_;have m10:=(m8.trans l9).trans l10;have hmE:=hm.mono (m37.trans (l8.trans (l9.trans l10)));refine CO el_mass (ws:=(shw m4[0].1.1).toList) DR (Xi m4[0].1.1) (by show((shw m4[0].1.1++shw m4[0].1.2).toList.drop 0).take _=_;rw[cS,eG,kD]) aD rfl rfl rfl rfl rfl aF aF hmE tW rfl aF (fun _ _=>rfl) fun _ _=> ?_;simp only[cA,nA];refine j8 ((dz (z8 false (vlL d232 n k ms lv who es us lo hi) (p7 n k es us lo hi)) rfl rfl rfl).rds _) (i0 (by rw[<-be0 _ tW];exact(Di _).symm) (Ib _)) ?_;simp only[cA,nA];refine b9 ?_;refine i7 rfl ?_;refine m9 el_mass hmE ?_;simp only[cA,nA];refine b9 ?_;refine CO el_mass (ws:=(shw m4[m4.length-1].1.1).toList) DR (Xi m4[m4.length-1].1.1) (by show((shw m4[m4.length-1].1.1++shw m4[m4.length-1].1.2).toList.drop 0).take _=_;rw[cS,eG,kD]) aD rfl rfl rfl rfl rfl aF aF hmE hyE (i0 rfl (pe rfl a3j (by have:=zW.len;omega))) aF (fun _ _=>rfl) fun _ _=> ?_;simp only[cA,nA];refine j8 ((dz (z8 true (vlL d232 n k ms lv who es us lo hi) (p7 n k es us lo hi)) rfl rfl rfl).rds _) (i0 (by rw[<-be1 _ hyE];exact(Di _).symm) (Ib _)) ?_;simp only[cA,nA];refine b9 ?_;refine i7 rfl ?_;refine f0 (d1d (hM.mono m10) hS.rv) rfl ?_;rintro _ H11 ⟨l11,wts,rfl,a6c⟩;refine⟨(fun _=>l11),?_⟩;simp only[cA,nA];have m11:=m10.trans l11;refine f0 (BV (hM.tb.mono m11) (hM.gr.mono m11) hS.gv hS.n6 a6c hS.bd) (i0 (Cj (l:=stC d232 n k ms lv who w rw' lo hi) rfl) rfl) ?_;rintro _ H12 ⟨l12,pv,pm,rfl,rJ,tQ,hpa⟩;refine⟨(fun _=>l12),?_⟩;simp only[cA,nA];refine g7 (g7 (b9 ?_));refine i7 rfl ?_;have a6s:pm.length=p7 n k es us lo hi:=tQ;refine m9 Pe rJ ?_;simp only[cA,nA];refine b9 ?_;refine i7 (bz (a:=((pm.length:Nat):Int)) aA) ?_;refine m9 Pe rJ ?_;simp only[cA,nA];have m12:=m11.trans l12;refine r7 (α:=Nat×Value) (fun⟨j,vv⟩=>[.bool false,vv,ii (j:Nat)]) (fun⟨j,vv⟩=>fun K'=>j<=p7 n k es us lo hi/\Pl H12 K'/\SO H12 K' 53 16 ceQ vv ((vlL d232 n k ms lv who es us lo hi).take j)) (fun⟨j,vv⟩=>p7 n k es us lo hi-j) ((0,.slice none 0 0)) rfl (⟨bK _,Pl.refl _,SO.nil _ _ _ _ _⟩) fun⟨j,vv⟩ K4 wX=> ?_;simp only[cA,nA];obtain⟨hj1,lK4,oV⟩:=wX;refine b9 (b9 ?_);refine g6 (b:=decide (((j:Nat):Int)<(pm.length:Nat))) rfl (fun hjn=> ?_) (fun hjn=> ?_)
  ·replace hjn:=oDt hjn;have hjp:j<p7 n k es us lo hi:=aA;obtain⟨sp,hsp,_⟩:=q8 (show j<pm.length by omega);have l2K:=m12.trans lK4;refine n9 Pe (rJ.mono lK4) hsp fun _=> ?_;simp only[cA,nA];refine i8 (WU (hM.mono l2K) hS hz ((show SI H12 (vs sp) (Aa n k es us lo hi j)from hpa j sp hsp).mono lK4) (Xr hjp)) rfl fun H13 l13=> ?_;simp only[cA,nA];refine g7 (g7 ?_);refine b4 (j7 _ _) ?_;refine b9 ?_;refine i7 rfl ?_;refine Cf Ni rfl rfl rfl aF aF (lK4.trans l13) (oV.mono l13) (by rw[bH];omega) (p6 (Ib _)) aF rfl fun q4 v4 K6 l14 o6=> ?_;simp only[cA,nA];rw[<-take_snoc (cy hjp)]at o6;exact⟨(j+1,v4),by show p7 n k es us lo hi-(j+1)<p7 n k es us lo hi-j;omega,(By rfl rfl (j5 rfl aA)),⟨by show j+1<=p7 n k es us lo hi;omega,l14,o6⟩⟩
  ·replace hjn:=oDf hjn;have hje:j=p7 n k es us lo hi:=aA;rw[hje,aI aA]at oV;refine f0 (d0K oV.se qJ aA hr) rfl ?_;rintro _ H14 ⟨l14,t2,m2,rfl,wV,a6d⟩;refine nmI ?_;simp only[cA,nA];obtain rfl:=a6d.uniq zW;refine g7 (g7 (b9 ?_));refine Aq rfl ?_;refine j9 (b9B wV (hmE.mono (l11.trans (l12.trans (lK4.trans l14))))) rfl ?_;simp only[cA,nA];exact d4 rfl ⟨l0.trans (l1.trans (m12.trans (lK4.trans l14))),rfl⟩
end
end Go.Proofs.YtcdnhlplkhldbaaGreatDoor
namespace Go.OP
open ChangeShapes WideShapes ChangeAt RowKit RX
def d8p {P:Program} {f:FuncId} {args:List Value} {H:PH} {W:World} (h:Con P f args H fun v H'=>v= .bool true/\Pl H H') (hW:H.In W):Calls P f args.toArray W fun e W'=>e= .returned (.bool true)/\Below W.heap.size W W':=
 (h W hW).mono fun _ _ ⟨_,_,he,hs,hv,hl⟩=>⟨by rw[he,hv],(hs.toExt hW hl).os,(hs.toExt hW hl).tape,(hs.toExt hW hl).output,(hs.toExt hW hl).size,(hs.toExt hW hl).blk⟩
def b2p {w:World} {a:Addr} {v:Value} (h:w.cell? a=some v):∃b q cs T fz,a=⟨b,q,none⟩/\w.heap[b]? =some (.cells cs T fz)/\cs[q]? =some v:=by
 obtain⟨b,q,sp⟩:=a;unfold World.cell? at h;split at h
 ·rename_i c T fz hh;cases sp with
  |some s=>simp at h
  |none=>exact⟨b,q,c,T,fz,rfl,hh,by simpa using h⟩
 ·cases h
def c6w {a:Addr} {b q:Nat} (h:a.add 0=⟨b,q,none⟩):a=⟨b,q,none⟩:=by
 obtain⟨b',q',sp⟩:=a;cases sp with
 |none=>rw[Ky]at h;simpa using h
 |some s=>unfold Addr.add at h;split at h<;>simp_all
def e1T {n:Int} (h:(Lit.int .u8 n).wf=true):∃m:Nat,n=(m:Int)/\m<256:=by
 have:=bounds_u8 h;exact⟨n.toNat,aA,aA⟩
def okWide_struct {P:Program} {w:World} {r:Reach} {base:Nat} {t:TypeId} {fs:Array Field} {v:Value} (ht:P.underlying t=some (.struct fs)) (h:Value.okWide P w r base t v):∃cs,v= .agg cs:=by
 simp only[Value.okWide,ht]at h;obtain⟨cs,h1,_⟩:=h;exact⟨cs,h1⟩
section
variable {Hh:Type} {enc:TypeId×Value->Hh} {W:World} {base:Nat} {spare:Nat->Bool} {sP:Bool} {fuel:Nat} {P:Program}
def b9F {w:World} {b q j:Nat} {cs:Array Value} {T:TypeId} {fz:Nat×Nat} {v:Value} (hb:w.heap[b]? =some (.cells cs T fz)) (h:w.cell? ((⟨b,q,none⟩:Addr).add j)=some v):cs[q+j]? =some v:=by
 rw[Ky]at h;simp only[World.cell?,hb]at h;exact h
def XK {t e:TypeId} {sz:Nat} {cs:List Value} {x:DataW Hh×List MemPlace} (ht:P.underlying t=some (.slice e)) (hc:P.cellsOf e=sz) (rN:0<sz) (h:DataW.trod enc P W base spare sP fuel t cs=some x):
  ∃w n xs,cs=[w]/\Sl (fun b=>W.heap[b]?) sz w n xs/\∀i,i<n->∃y m,DataW.trod enc P W base spare sP m e ((xs.drop (i*sz)).take sz)=some y:=by
 rcases Go.Deep.open_slice ht h with⟨rfl,_⟩|⟨a,len,cap,m,n,D,Pl,rfl,_,hlc,uW,hm,_,hV⟩
 ·exact⟨_,0,[],rfl,⟨aD,none,0,rfl,aA,by simp[maxLen],.inl rfl⟩,fun i hi=>absurd hi (oO _)⟩
 ·have hlm:len<=m:=by rw[hm];split<;>omega
  rw[hc]at hV;by_cases h0:len=0
  ·subst h0;exact⟨_,0,[],rfl,⟨aD,a,cap,rfl,aA,uW,.inl rfl⟩,fun i hi=>absurd hi (oO _)⟩
  ·obtain⟨c0,g1,_⟩:=hV 0 aA;obtain⟨_,glen,gcell⟩:=World.cells?_some g1;have vV:=gcell 0 rN;rw[aG aA]at vV;rw[bV,Go.Deep.add_add]at vV;obtain⟨b,q,bc,T,fz,ha,hb,_⟩:=b2p vV;have ha:=c6w ha;subst ha;have key:∀i,i<len->∃ci,ci.length=sz/\(∀j,j<sz->bc[q+(i*sz+j)]? =ci[j]?)/\DataW.trod enc P W base spare sP n e ci=some (D i,Pl i):=fun i hi=>by
    obtain⟨ci,k1,k2⟩:=hV i aA;obtain⟨_,klen,kcell⟩:=World.cells?_some k1;refine⟨ci,klen,fun j hj=> ?_,k2⟩;have:=kcell j hj;rw[aG aA]at this⊢;rw[Go.Deep.add_add]at this;exact b9F hb this
   have a6i:q+len*sz<=bc.size:=by
    obtain⟨ci,klen,kcell,_⟩:=key (len-1) aA;have:=kcell (sz-1) aA;rw[aG aA]at this;have:=(dX.1 this).1;have e1:(len-1)*sz+sz=len*sz:=by rw[<-mL];congr 1;omega
    omega
   refine⟨_,len,(bc.toList.drop q).take (len*sz),rfl,⟨?_,_,cap,rfl,hlc,uW,.inr ⟨b,q,bc,T,fz,rfl,hb,rfl⟩⟩,fun i hi=> ?_⟩
   ·rw[bH,fG,bA];omega
   ·obtain⟨ci,klen,kcell,k2⟩:=key i hi;refine⟨(D i,Pl i),n,?_⟩;rw[<-k2];congr 1;have pY:(i+1)*sz<=len*sz:=bC _ hi;rw[dC,cQ]at pY;apply bP;intro j;rw[eI];split
    ·rename_i hj;rw[dP,eI,if_pos aA,dP,cY,kcell j hj]
    ·rename_i hj;rw[aO aA]
def Dz {t:TypeId} {cs:List Value} {x:DataW Hh×List MemPlace} {k T o c:Nat} (i:Nat) (ht:P.underlying t=some (.struct (fieldsOf P t))) (hk:(fieldsOf P t).size=k) (hi:i<k) (hT:(fieldAt P t i).type=T) (ho:(fieldAt P t i).offset=o) (hc:P.cellsOf T=c) (h:DataW.trod enc P W base spare sP fuel t cs=some x):
  ∃y n,DataW.trod enc P W base spare sP n T ((cs.drop o).take c)=some y:=by
 obtain⟨xs,n,_,rfl,hl,qC,hf⟩:=DataW.trod_struct ht h;have hfi:(fieldsOf P t)[i]? =some (fieldAt P t i):=by
  unfold fieldAt;rw[cG aA];rfl
 have:=hf i _ hfi;rw[hT,ho,hc]at this;rw[aG aA]at this;exact⟨_,n,this⟩
def XL {α:Type} {H:PH} {sz:Nat} {ce:α->List Value} {p:α->Prop} {w:Value}:∀{n:Nat} {xs:List Value},Sl H sz w n xs->(∀i,i<n->∃a,(xs.drop (i*sz)).take sz=ce a/\p a)->∃l:List α,SE H sz ce w l/\∀a∈l,p a:=by
 intro n xs h hc;have key:∀(n:Nat) (xs:List Value),xs.length=n*sz->(∀i,i<n->∃a,(xs.drop (i*sz)).take sz=ce a/\p a)->∃l:List α,l.length=n/\xs=l.flatMap ce/\∀a∈l,p a:=by
  intro n;induction n with
  |zero=>intro xs hl _;exact⟨[],rfl,aT (by simpa using hl),fun a ha=>by cases ha⟩
  |succ n ih=>
   intro xs hl hc;rw[mL]at hl;obtain⟨a,h1,h2⟩:=hc 0 aA;rw[bV,cS]at h1;obtain⟨l,l1,l2,l3⟩:=ih (xs.drop sz) (by rw[fG];omega) fun i hi=>by
    obtain⟨b,g1,g2⟩:=hc (i+1) aA;exact⟨b,by rw[List.drop_drop,<-g1];congr 2;rw[mL];omega,g2⟩
   exact⟨a::l,by simp[l1],by rw[List.flatMap_cons,<-l2,<-h1,dQ],fun b hb=>by
    rcases bG.1 hb with rfl|hb
    ·exact h2
    ·exact l3 b hb⟩
 obtain⟨l,l1,l2,l3⟩:=key n xs h.1 hc;subst l1;subst l2;exact⟨l,h,l3⟩
end
open Go.ChangeShapes Go.WideShapes Go.ChangeAt Go.RowKit Go.RX
def b4D {H:Type} {enc:TypeId×Value->H} {P:Program} {W:World} {base:Nat} {sp:Nat->Bool} {sP:Bool} {fuel n:Nat} {t e:TypeId} {k:IntKind} {cs:List Value} {vals:List Int} {q:List MemPlace}
  (hu:P.underlying t=some (.array n e)) (he:P.underlying e=some (.int k)) (hc:P.cellsOf e=1) (hct:P.cellsOf t=n) (h:DataW.trod enc P W base sp sP fuel t cs=some (.agg (vals.map fun n=> .lit (.int k n)),q)):cs=vals.map fun n=> .int k n:=by
 obtain⟨xs,m,_,hx,hl,sQ,hi⟩:=DataW.trod_array hu h;rw[hct]at hl;rw[hc]at hi;have hx:=congrArg Prod.fst hx;simp only[DataW.agg.injEq]at hx;have uL:vals.length=n:=by have:=congrArg List.length hx;simp only[aR]at this;omega
 apply bP;intro i;by_cases h1:i<n
 ·have h2:=hi i h1;rw[Nat.mul_one]at h2;have hxi:i<xs.length:=aA;rw[aG hxi]at h2;obtain⟨z,h3,h4,_⟩:=DataW.trod_int he h2;have h5:=congrArg (fun l:List Value=>l[0]?) h3;simp only[eI,dP,cJ,List.getElem?_cons_zero]at h5;have h6:=congrArg (fun l:List (DataW H)=>l[i]?) hx;simp only[aX,aG hxi,cR,h4]at h6;have hvi:i<vals.length:=aA;rw[aG hvi]at h6;simp only[cR,cN,DataW.lit.injEq,Lit.int.injEq,true_and]at h6;rw[aX,aG hvi,cR,h6];simpa using h5
 ·rw[aO aA,aO (by simp;omega)]
end Go.OP
namespace Go.Proofs.YtcdnhlplkhldbaaGreatDoor
open Go.Z
open Proofs.Tryz ChangeShapes WideShapes ChangeAt RowKit RX GS OP
def c6y:ownKnob prog.godebug=none:=aB
def d1j:laidOutB prog=true:=aB
def b9G {W:World} (h:laidMet prog Rows.ensembleOrdersRow.laid W):Tb (fun b=>W.heap[b]?):=by
 obtain⟨ps,⟨_,_,_,_,_,_,_,_,_,_,⟨g,t,cs,fuel,p,q,hg,ht,tC,hd,_,_⟩,_⟩,_⟩:=h;have vX:prog.globalNamed "math/bits.deBruijn64tab" =some 0:=aB;obtain rfl:=eX.inj (vX.symm.trans hg);have ht0:(prog.globals[0]?).map (·.type)=some 271:=aB;obtain rfl:=eX.inj (ht0.symm.trans ht);have qR:=b4D (k:= .u8) (e:=5) (n:=64) (vals:=tabL.map fun n:Nat=>(n:Int)) aB aB aB aB hd;unfold World.var? at tC;rw[vX]at tC;simp only[Option.bind_some]at tC;split at tC
 ·rename_i c T fz hh;simp only[cN]at tC;subst tC;refine⟨T,fz,?_⟩;show W.heap[0]? =_;rw[hh];congr 2;rw[<-bS,qR,dO];rfl
 ·cases tC
section
variable {H:Type} {enc:TypeId×Value->H} {W:World} {base:Nat} {spare:Nat->Bool} {sP:Bool} {fuel:Nat}
def Ff {cs:List Value} {x:DataW H×List MemPlace} (h:DataW.trod enc prog W base spare sP fuel 5 cs=some x):∃c,cs=cU8 c/\c<256:=by
 obtain⟨n,e,_,hw⟩:=DataW.trod_int (k:= .u8) aB h;obtain⟨m,rfl,hm⟩:=e1T hw;exact⟨m,e,hm⟩
def d8q {cs:List Value} {x:DataW H×List MemPlace} (h:DataW.trod enc prog W base spare sP fuel 228 cs=some x):∃e:Nat×Nat,cs=cBB e/\e.1<256/\e.2<256:=by
 have hu:prog.underlying 228=some (.array 2 5):=aB;have hc:prog.cellsOf 5=1:=aB;have rR:prog.cellsOf 228=2:=aB;obtain⟨xs,m,_,_,hl,hx,hi⟩:=DataW.trod_array hu h;rw[rR]at hl;rw[hc]at hi
 match cs,hl with
 |[c0,c1],_=>
  have h0:=hi 0 aA;have h1:=hi 1 aA;rw[aG aA]at h0 h1;obtain⟨a,e0,b0⟩:=Ff h0;obtain⟨b,e1,b1⟩:=Ff h1;simp only[bV,cQ,cS,nB,nC,oQ,cU8,List.singleton_inj]at e0 e1;subst e0;subst e1;exact⟨(a,b),rfl,b0,b1⟩
def FN {cs:List Value} {x:DataW H×List MemPlace} (h:DataW.trod enc prog W base spare sP fuel 22 cs=some x):∃w l,cs=[w]/\SE (fun b=>W.heap[b]?) 1 cU8 w l/\∀c∈l,c<256:=by
 obtain⟨w,n,xs,rfl,hs,hd⟩:=XK (e:=5) (sz:=1) aB aB aA h;obtain⟨l,hl,hp⟩:=XL (ce:=cU8) (p:=fun c=>c<256) hs fun i hi=>by
  obtain⟨y,m,hm⟩:=hd i hi;exact Ff hm
 exact⟨w,l,rfl,hl,hp⟩
def d8r {cs:List Value} {x:DataW H×List MemPlace} (h:DataW.trod enc prog W base spare sP fuel 23 cs=some x):∃w l,cs=[w]/\SE (fun b=>W.heap[b]?) 2 cBB w l/\∀e∈l,e.1<256/\e.2<256:=by
 obtain⟨w,n,xs,rfl,hs,hd⟩:=XK (e:=228) (sz:=2) aB aB aA h;obtain⟨l,hl,hp⟩:=XL (ce:=cBB) (p:=fun e=>e.1<256/\e.2<256) hs fun i hi=>by
  obtain⟨y,m,hm⟩:=hd i hi;exact d8q hm
 exact⟨w,l,rfl,hl,hp⟩
def d1k {r:Reach} {b0:Nat} {v:Value} {d:DataW H} {p:List MemPlace} (hv:Value.okWide prog W r b0 29 v) (h:DataW.Trod enc prog W base spare sP 29 v d p):
  ∃nn kk a b c g q l wa s un le mo me lv wh ps ls ms xs,v=Gw nn kk a b c g q l wa s un le mo me lv wh/\D21 (fun b=>W.heap[b]?) a b c ps ls ms/\SE (fun b=>W.heap[b]?) 1 cU8 s xs/\(∀x∈xs,x<256)/\un<256/\le<256/\mo<256:=by
 have ht:prog.underlying 29=some (.struct (fieldsOf prog 29)):=aB;have hg:prog.underlying 25=some (.struct (fieldsOf prog 25)):=aB;have hx:prog.underlying 27=some (.struct (fieldsOf prog 27)):=aB;obtain⟨cs,rfl⟩:=OP.okWide_struct (fs:=fieldsOf prog 29) aB hv;obtain⟨m,hm⟩:=h;have zX:(Value.agg cs).cells.toList.length=16:=by
  obtain⟨xs,n,_,_,hl,qC,hf⟩:=DataW.trod_struct ht hm;rw[hl];kernel_rfl
 obtain⟨yD,mD,hD⟩:=Dz (k:=8) (T:=25) (o:=0) (c:=5) 0 ht aB aA aB aB aB hm;obtain⟨yX,mX,hX⟩:=Dz (k:=8) (T:=27) (o:=5) (c:=5) 1 ht aB aA aB aB aB hm;obtain⟨yun,mun,rT⟩:=Dz (k:=8) (T:=5) (o:=10) (c:=1) 2 ht aB aA aB aB aB hm;obtain⟨yle,mle,pY⟩:=Dz (k:=8) (T:=5) (o:=11) (c:=1) 3 ht aB aA aB aB aB hm;obtain⟨ymo,mmo,xX⟩:=Dz (k:=8) (T:=5) (o:=12) (c:=1) 4 ht aB aA aB aB aB hm;obtain⟨yme,mme,hme⟩:=Dz (k:=8) (T:=5) (o:=13) (c:=1) 5 ht aB aA aB aB aB hm;obtain⟨ylv,mlv,hlv⟩:=Dz (k:=8) (T:=5) (o:=14) (c:=1) 6 ht aB aA aB aB aB hm;obtain⟨ywh,mwh,hwh⟩:=Dz (k:=8) (T:=5) (o:=15) (c:=1) 7 ht aB aA aB aB aB hm;obtain⟨ynn,mnn,hnn⟩:=Dz (k:=5) (T:=5) (o:=0) (c:=1) 0 hg aB aA aB aB aB hD;obtain⟨ya,ma,ha⟩:=Dz (k:=5) (T:=22) (o:=1) (c:=1) 1 hg aB aA aB aB aB hD;obtain⟨yb,mb,hb⟩:=Dz (k:=5) (T:=23) (o:=2) (c:=1) 2 hg aB aA aB aB aB hD;obtain⟨yc,mc,hc⟩:=Dz (k:=5) (T:=22) (o:=3) (c:=1) 3 hg aB aA aB aB aB hD;obtain⟨ykk,mkk,hkk⟩:=Dz (k:=5) (T:=5) (o:=4) (c:=1) 4 hg aB aA aB aB aB hD;obtain⟨yg,mg,hg⟩:=Dz (k:=5) (T:=5) (o:=0) (c:=1) 0 hx aB aA aB aB aB hX;obtain⟨yq,mq,hq⟩:=Dz (k:=5) (T:=5) (o:=1) (c:=1) 1 hx aB aA aB aB aB hX;obtain⟨yl,ml,hl⟩:=Dz (k:=5) (T:=5) (o:=2) (c:=1) 2 hx aB aA aB aB aB hX;obtain⟨ywa,mwa,hwa⟩:=Dz (k:=5) (T:=5) (o:=3) (c:=1) 3 hx aB aA aB aB aB hX;obtain⟨ys,ms,hs⟩:=Dz (k:=5) (T:=22) (o:=4) (c:=1) 4 hx aB aA aB aB aB hX;obtain⟨aun,eun,bun⟩:=Ff rT;obtain⟨ale,ele,ble⟩:=Ff pY;obtain⟨amo,emo,bmo⟩:=Ff xX;obtain⟨ame,eme,bme⟩:=Ff hme;obtain⟨alv,elv,blv⟩:=Ff hlv;obtain⟨awh,ewh,bwh⟩:=Ff hwh;obtain⟨ann,enn,bnn⟩:=Ff hnn;obtain⟨akk,ekk,bkk⟩:=Ff hkk;obtain⟨ag,eg,bg⟩:=Ff hg;obtain⟨aq,eq,bq⟩:=Ff hq;obtain⟨al,el,bl⟩:=Ff hl;obtain⟨awa,ewa,bwa⟩:=Ff hwa;obtain⟨wa',pa,ea,sa,ba'⟩:=FN ha;obtain⟨wb,pb,eb,sb,bb⟩:=d8r hb;obtain⟨wc,pc,ec,sc,bc'⟩:=FN hc;obtain⟨ws,pS,es,ss,bs'⟩:=FN hs;obtain⟨cs⟩:=cs;change cs.length=16 at zX;simp only[Value.cells]at enn ea eb ec ekk eg eq el ewa es eun ele emo eme elv ewh
 match cs,zX with
 |[c0,c1,c2,c3,c4,c5,c6,c7,c8',c9,c10,c11,c12,c13,c14,c15],_=>
  simp only[cS,nB,nC,oQ,cU8,List.cons.injEq,and_true]at enn ea eb ec ekk eg eq el ewa es eun ele emo eme elv ewh;subst enn ea eb ec ekk eg eq el ewa es eun ele emo eme elv ewh;exact⟨_,_,_,_,_,_,_,_,_,_,aun,ale,amo,_,_,_,pa,pc,pb,pS,rfl,⟨sa,sb,sc,ba',bb,bc'⟩,ss,bs',bun,ble,bmo⟩
end
def a2Z {H:Type} {enc:TypeId×Value->H} {a:Assume} {C:Checked} {os:Os} {f:FuncId} {fn:Func} {s:ChangeSpec} {conds:List PathCond} {apart fresh xA again:Bool} {X:World->Array Value->Prop}
  (hX:∀(w w':World) (args:Array Value),w.heap=w'.heap->X w args->X w' args)
  (own:ownKnob C.prog.godebug=none) (started:os.Started) (noInit:C.prog.inits.idxOf? f=none) (hfn:C.prog.funcs[f]? =some fn)
  (witness:∃(w:World) (tape:Tape) (i:Input),w.os=os/\(w.forCall tape i).Shaped C.prog/\i.vars=[]/\Input.okWide C.prog (w.forCall tape i) .any w.heap.size f i/\
   ((s.pre enc C.prog fn conds apart (w.forCall tape i).memory i.args/\X (w.forCall tape i).memory i.args)/\sizedMet enc C.prog fn (OpenSpec.ofChange s) apart (w.forCall tape i).memory i.args)/\a.holds C.prog (lone (Frame.enter C.prog f i.args .normal) [] (w.forCall tape i)))
  (contract:∀(W:World) (base:Nat) (args:Array Value) (ds gs:List (DataW H)) (before:List MemPlace),
   (∀(j:Nat) t v,fn.params[j]? =some t->args[j]? =some v->Value.okWide C.prog W .any base t v)->
   DataW.Whole enc C.prog fn.params.toList s.vars apart W args.toList ds gs before->
   X W args->W.ShapedOpen C.prog->
   Calls C.prog f args W fun e W'=>∃v,e= .returned v/\s.post enc C.prog fn apart fresh xA again W args v W'):
  ReturnsInHanded a C os f .any (fun w args=>(s.pre enc C.prog fn conds apart w args/\X w args)/\sizedMet enc C.prog fn (OpenSpec.ofChange s) apart w args) (s.post enc C.prog fn apart fresh xA again):=by
 refine returnsInHanded_of_calls own started noInit witness ?_;intro w tape i _ hsh _ qQ qD _;obtain⟨_,_,_,fn',a6e,_,_,_,_,a0h⟩:=qQ;have e:fn'=fn:=eX.inj (a6e.symm.trans hfn);subst e;obtain⟨⟨⟨ds,gs,before,hw,_⟩,hx⟩,_⟩:=qD;have rU:=DataW.Whole.of_heap (w':=w.forCall tape i) (by rfl) hw;refine(contract (w.forCall tape i) w.heap.size i.args ds gs before a0h rU (hX _ _ _ (by rfl) hx) hsh).mono fun e W' ⟨v,he,hp⟩=> ?_;subst he;exact ChangeSpec.post_blind hp
def a4H (os:Os) (started:os.Started) (H:Type) (enc:TypeId×Value->H):
  ReturnsInHanded {} Tryz.checked os 3 .any (fun w args=>(Rows.ensembleOrdersSpec.pre enc prog f3 [] false w args/\laidMetH prog Rows.ensembleOrdersRow.laid w)/\sizedMet enc prog f3 (OpenSpec.ofChange Rows.ensembleOrdersSpec) false w args)
   (Rows.ensembleOrdersSpec.post enc prog f3 false true false false):=by
 refine a2Z (C:=Tryz.checked) (X:=fun w _=>laidMetH prog Rows.ensembleOrdersRow.laid w) (fun _ _ _ hh h=>h.of_heap hh) c6y started aB Tryz.func3
  (ChangeSpec.witness_shaped (enc:=enc) (C:=Tryz.checked) (os:=os) (X:=fun w _=>laidMetH prog Rows.ensembleOrdersRow.laid w) false (World.laidAll prog os Rows.ensembleOrdersRow.laid) #[.agg #[.int .u8 0,.slice none 0 0,.slice none 0 0,.slice none 0 0,.int .u8 0,.int .u8 0,.int .u8 0,.int .u8 0,.int .u8 0,.slice none 0 0,.int .u8 0,.int .u8 0,.int .u8 0,.int .u8 0,.int .u8 0,.int .u8 0]] 8 (World.laidAll_os _ _ _)
   (World.shaped_of_ZipB aB aB) aB aB aB
   (by rw[MakeChecks.laidMetH_plain _ _ _ aB];exact laidMet_laidAll _ aB aB)) ?_
 intro W base args ds gs before a0o hW hX hSh;have a0h:∀(j:Nat) t v,f3.params[j]? =some t->args[j]? =some v->Value.okWide prog W .any base t v:=a0o;have hTb:=b9G (W:=W) (by rw[<-MakeChecks.laidMetH_plain _ _ _ aB];exact hX);have hW':=hW;obtain⟨p,q,hA0,hV,rfl,hfz,uA⟩:=hW;have hA:DataW.TrodAll enc prog W 0 (fun _=>true) true f3.params.toList args.toList ds p:=hA0;rw[Tryz.params3]at hA a0h;obtain⟨v0,vs0,d0,ds0,p0,q0,qW,rfl,rfl,h0,r0⟩:=trodAll_cons hA;obtain⟨rfl,rfl,rfl⟩:=trodAll_nil r0;obtain rfl:args= #[v0]:=by cases args;simp_all
 obtain⟨rfl,rfl⟩:=trodVars_none hV;have lt0:∀x∈p0,x.block<W.heap.size:=by obtain⟨m,hm⟩:=h0;exact DataW.trod_lt m _ _ _ hm
 obtain⟨nn,kk,a,b,c,g,q,l,wa,s,un,le,mo,me,lv,wh,ps,ls,ms,xs,rfl,hD,hs,h8,rT,pY,xX⟩:=d1k (a0h 0 _ v0 rfl rfl) h0;clear hA0 a0o;have a6f:Con prog 3 [Gw nn kk a b c g q l wa s un le mo me lv wh] (fun b=>W.heap[b]?) fun v H'=>v= .bool true/\Pl (fun b=>W.heap[b]?) H':=(d1i hTb hD hs h8 rT pY xX).mono fun u H' ⟨g1,g2⟩=>⟨g2,g1⟩;refine(d8p a6f (W:=W) (H:=fun b=>W.heap[b]?) (fun b o hb=>hb)).mono fun e W' ⟨he,bel⟩=> ?_;subst he;exact⟨_,rfl,_,_,_,[],_,[],hW',trodAll_mk1 (shut_bool aB _),(trodAll_cons_mk (Below.trod d1j aB (oDt aB) h0 bel lt0) trodAll_mk0),rfl,bel.frame _,fun h=>by cases h⟩
open Go.ChangeShapes Go.WideShapes Go.ChangeAt Go.RowKit Go.RX Go.GS Go.OP
def kf1:Rows.ensembleOrdersRow.wf (OpenSpec.ofChange Rows.ensembleOrdersSpec)=true:=aB
def kf2:laidOutB prog=true:=aB
def kf3:mapsRowed prog=true:=aB
def kf4:(f3.params.all (prog.readableRec ·))=true:=aB
def kf5:namedTie prog Rows.ensembleOrdersRow.named Rows.ensembleOrdersSpec.vars=true:=aB
def kf6:(Rows.ensembleOrdersRow.stops==[])=true:=aB
def kf7:(prog.stops==[])=true:=aB
def kf8:(Rows.ensembleOrdersRow.knobs==[])=true:=aB
def kf9:(prog.stopKnobs==[])=true:=aB
def e5g:(Rows.ensembleOrdersRow.inPlace==prog.inPlace 3)=true:=aB
def e5h:(Rows.ensembleOrdersRow.unfollowed==prog.unfollowed 3)=true:=aB
def e5i:(Rows.ensembleOrdersRow.recurses==prog.recurses 3)=true:=aB
def e5j:(Rows.ensembleOrdersRow.named==prog.varsNamed 3)=true:=aB
def e5k:(Rows.ensembleOrdersRow.maps==(f3.params.toList++Rows.ensembleOrdersSpec.plain.varTypes prog).any (prog.mapsRec ·))=true:=aB
def e5l:(Rows.ensembleOrdersRow.ifaces==(f3.params.toList++Rows.ensembleOrdersSpec.plain.varTypes prog).any (prog.ifacesRec ·))=true:=aB
def e5m:(Rows.ensembleOrdersRow.mapsOut==prog.mapsAmong f3.resultTypes.toList)=true:=aB
def e5n:(Rows.ensembleOrdersRow.loops==(f3.params.toList++Rows.ensembleOrdersSpec.plain.varTypes prog).any (prog.loopsFrom ·))=true:=aB
def e3S:(Rows.ensembleOrdersRow.wideKeys==(f3.params.toList++Rows.ensembleOrdersSpec.plain.varTypes prog++f3.resultTypes.toList).any (prog.wideKeysFrom ·))=true:=aB
def e5o:(Rows.ensembleOrdersSpec.vars.all (prog.varReadable ·))=true:=aB
def e5p:f3.resultTypes.all (fun t=>prog.readableRec t&&decide (t<prog.types.size))=true:=aB
def e5q:(Rows.ensembleOrdersRow.ifacesOut==f3.resultTypes.toList.any (prog.ifacesRec ·))=true:=aB
def e5r:(Rows.ensembleOrdersRow.loopsOut==f3.resultTypes.toList.any (prog.loopsFrom ·))=true:=aB
def e5s:(Rows.ensembleOrdersRow.plainKeys==prog.plainKeys)=true:=aB
def e5t:Rows.ensembleOrdersRow.shortTexts.isNone=true:=aB
def e3T:prog.stopsHeard=true:=aB
def e5u:prog.mayEnter=true:=aB
def e3U:(Rows.ensembleOrdersRow.lifted==prog.liftsFinal)=true:=aB
def e3V:(prog.make==some Rows.ensembleOrdersRow.make)=true:=aB
def e5v:(Rows.ensembleOrdersRow.kinds==(if Rows.ensembleOrdersRow.domain.isEmpty then[]else f3.params.toList.map fun t=>match prog.underlying t with|some (.int k)=>some k|_=>none))=true:=aB
def e5w:(Rows.ensembleOrdersRow.pinned==Rows.ensembleOrdersRow.pinnedBy)=true:=aB
def e5x:(Rows.ensembleOrdersRow.veiled==(f3.params.toList++Rows.ensembleOrdersSpec.plain.varTypes prog++f3.resultTypes.toList).any (prog.veiledRec ·))=true:=aB
def e5y:Rows.ensembleOrdersRow.veiledFits prog f3.params.toList (f3.params.toList++Rows.ensembleOrdersSpec.plain.varTypes prog++f3.resultTypes.toList)=true:=aB
def e1U:joinedFacts prog 3 f3 Rows.ensembleOrdersSpec Rows.ensembleOrdersRow=true:=by
 unfold joinedFacts;simp only[aQ];exact⟨⟨⟨⟨⟨⟨⟨⟨⟨⟨⟨⟨⟨⟨⟨⟨⟨⟨⟨⟨⟨⟨⟨⟨⟨⟨⟨⟨⟨⟨⟨kf1,kf2⟩,kf3⟩,kf4⟩,kf5⟩,kf6⟩,kf7⟩,kf8⟩,kf9⟩,e5g⟩,e5h⟩,e5i⟩,e5j⟩,e5k⟩,e5l⟩,e5m⟩,e5n⟩,e3S⟩,e5o⟩,e5p⟩,e5q⟩,e5r⟩,e5s⟩,e5t⟩,e3T⟩,e5u⟩,e3U⟩,e3V⟩,e5v⟩,e5w⟩,e5x⟩,e5y⟩
def a5L:Rows.ensembleOrdersRow.holds Tryz.pinned (OpenSpec.ofChange Rows.ensembleOrdersSpec):=
 OpenClaim.holds_of_wide 3 f3 rfl rfl rfl rfl rfl rfl rfl ⟨rfl,rfl,rfl,rfl,rfl⟩ rfl rfl rfl rfl rfl aB Tryz.func3 e1U
  (oDt aB) (by unfold Func.isWrapper;first|(rw[if_pos (by decide+kernel)];kernel_rfl)|(rw[if_neg (by decide+kernel)];exact⟨rfl,rfl⟩))
  (fun os started H enc _=>a4H os started H enc)
open Go.ChangeShapes Go.WideShapes Go.ChangeAt Go.RowKit Go.RX Go.GS Go.OP
def c6z {P:Program} (h:P.funcs.toList.all (fun f=> !f.goes)=true) (f:FuncId):P.goes f=false:=by
 have hg:∀fn:Func,fn∈P.funcs->fn.goes=false:=fun fn hm=>by
  have:=cH.1 h fn (gZ.2 hm);simpa using this
 have h1:((P.closure f).any fun g=>(P.funcs[g]?).any Func.goes)=false:=by
  rw[List.any_eq_false];intro g _;cases e:P.funcs[g]? with
  |none=>simp
  |some fn=>simp[hg fn (mG e)]
 have h2:P.funcs.any Func.goes=false:=by
  rw[Array.any_eq_false];intro i hi;simp[hg _ (Array.getElem_mem hi)]
 unfold Program.goes;rw[h1,h2];simp
def b6d {P:Program} {c:OpenClaim} (hs:c.start= .entering) (h:P.funcs.toList.all (fun f=> !f.goes)=true):false=c.goesBy P:=by
 unfold OpenClaim.goesBy Program.goesAt Program.goesFrom;rw[hs];cases P.funcNamed c.func with
 |none=>rfl
 |some f=>simp[c6z h f]
def d8s:false=Rows.ensembleOrdersRow.goesBy prog:=b6d rfl aB
theorem ensembleOrders_card:Rows.EnsembleOrdersCardSaid:=
 Claim7.holds_tied_plain_at .later [] [.data,.data,.data,.pinned] true (true, "228e8797b81c337b7832faac8cd887a694439cc1d25013893de02ca969e6db06") true a5L (fun _ h=>by cases h) aB (fun _ h=>by cases h) ensembleOrders_row_tie rfl ⟨rfl,rfl⟩ aB rfl
  (fun f fn hf hfn=>by
   obtain rfl:f=3:=eX.inj ((show prog.funcNamed "wardmote/wardmotelaw37.EnsembleOrders" =some 3 by kernel_rfl).symm.trans hf)|>.symm;obtain rfl:fn=f3:=(eX.inj (Tryz.func3.symm.trans hfn)).symm;exact⟨aB,fun j t ht=>by
    have hm:t∈f3.params.toList:=gZ.2 (mG ht);have rK:(f3.params.toList.all fun u=> !prog.wantsStandIn u)=true:=aB;exact(show prog.wantsStandIn t=false by simpa using cH.1 rK t hm)⟩)
  (by exact d8s)
#print axioms ensembleOrders_card
end Go.Proofs.YtcdnhlplkhldbaaGreatDoor

/- Chapter 32: Odds. -/
import Derived.Test.YtmannekkmdockaaGreatDoorGzH
open Bool renaming and_eq_true->aF
open Classical renaming byContradiction->aP,choose->pE,choose_spec->iN
open Int renaming lt_or_le->oZ,toNat_natCast->bB
open List renaming append_nil->dC,eq_nil_of_length_eq_zero->aZ,length_append->aJ,length_map->aR,length_nil->dM,length_singleton->cJ,length_take->cB,map_append->aX,map_cons->aM,map_map->cC,map_nil->cL,mem_append->aV,mem_map->aH,mem_singleton->aQ
open List.Perm renaming append_left->pL,refl->oK
open Nat renaming le_mul_of_pos_right->lP,le_trans->aS,mul_le_mul->cI,mul_pos->fK,pos_of_ne_zero->mZ,pow_le_pow_right->aU
namespace Go.Proofs.Z
open Go.Proofs.Tryz
open Go.RowKit Go.RX Go.GS Go.RZ
open Go.WD (BP Bf wd rs toI HM sgI Rb)
set_option maxRecDepth 100000
def shc (p:Nat×Nat):List Value:=(shv p.1 p.2).cells.toList
theorem Py:El prog 49 58 16 true shc (fun p:Nat×Nat=>shv p.1 p.2) where
 und:=by kernel_rfl
 has:=by kernel_rfl
 cel:=by kernel_rfl
 agg:=by kernel_rfl
 pos:=by decide
 one1:=fun h=>by cases h
 small:=by decide
 inf:=⟨(prog.info? 58).getD default,shv 0 0,by kernel_rfl,by kernel_rfl,by kernel_rfl,rfl,oDt (by kernel_rfl)⟩
 len:=fun p=>by show(shv p.1 p.2).cells.toList.length=16;rw[Array.length_toList];exact(Dz p.1 p.2).1
 val:=fun p=>rfl
 cells:=fun p=>rfl
 one:=fun p c hc=>(Dz p.1 p.2).2 c hc
theorem d8D:Ag prog 112 12:=⟨by kernel_rfl,by kernel_rfl,by kernel_rfl⟩
section
variable {H H0 H':PH} {u v w wts:Value} {p wl:List Int} {n k:Nat} {es:List (Nat×Nat)} {lo hi ds:Int}
theorem d5l:∀x∈Ba es wl lo hi n k p,∃q:List Int,q.length=p.length/\x.1=m7 q:=by
 have h:∀x∈Bt es wl lo hi n k p,∃q:List Int,q.length=p.length/\x.1=m7 q:=fun x hx=>by
  obtain⟨pr,_,a,_,_,_,_,_,h6,_⟩:=(my x hx).ex;exact⟨_,by unfold Bl;rw[Ft];unfold Bj;rw[List.length_mapIdx],h6⟩
 intro x hx;unfold Ba at hx;split at hx
 ·rcases ap (x:=x.1) (y:=x.2) hx with⟨h1,_⟩|⟨_,h2⟩
  ·exact⟨p,rfl,h1⟩
  ·exact h _ h2
 ·exact h _ hx
theorem c9e {q:List Int}:(m7 q).take q.length=q:=by unfold m7;simp
theorem TS {α:Type} {ce:α->List Value} {l:List α} (h:SO H0 H 3 1 ce v l) (hp:H'=H\/∃g ob,H0 g=none/\H'=H.put g ob/\(H g=none\/∃cs,H g=some (.cells cs 33 (0,0)))):SO H0 H' 3 1 ce v l:=by
 rcases hp with rfl|⟨g,ob,_,rfl,hg⟩
 ·exact h
 ·obtain⟨h1,h2|⟨g',cap,cur,h2,h3,h4,h5⟩⟩:=h
  ·exact⟨h1,.inl h2⟩
  ·refine⟨h1,.inr ⟨g',cap,cur,h2,h3,?_,h5⟩⟩;rw[PH.put_ne _ _ (fun e=> ?_)]
   ·exact h4
   ·subst e;rcases hg with hg|⟨cs,hg⟩
    ·rw[hg]at h4;cases h4
    ·rw[hg]at h4
     injection h4 with h4
     injection h4 with _ h4 _
     exact absurd h4 (by decide)
theorem d5m {q r clock:Nat} {E:List (List Int×Value×Nat)} {seen:List Nat} (h:IT kV H q r E clock seen) (hp:H'=H\/∃g ob,H0 g=none/\H'=H.put g ob/\(H g=none\/∃cs,H g=some (.cells cs 33 (0,0)))):IT kV H' q r E clock seen:=by
 rcases hp with rfl|⟨g,ob,_,rfl,hg⟩
 ·exact h
 ·refine⟨?_,?_⟩
  ·rw[PH.put_ne _ _ (fun e=> ?_)]
   ·exact h.1
   ·subst e;rcases hg with hg|⟨cs,hg⟩
    ·have:=h.1;rw[hg]at this;cases this
    ·have:=h.1;rw[hg]at this;cases this
  ·rw[PH.put_ne _ _ (fun e=> ?_)]
   ·exact h.2
   ·subst e;rcases hg with hg|⟨cs,hg⟩
    ·have:=h.2;rw[hg]at this;cases this
    ·have:=h.2;rw[hg]at this;cases this
theorem TT {α:Type} {e:TypeId} {sz q:Nat} {ce:α->List Value} {l:List α} {a:Option Nat} {b c:Nat} {d:Array Nat} {ob:Obj} (h:SO H0 H e sz ce v l) (hq:H q=some (.mapIter a b d c)):SO H0 (H.put q ob) e sz ce v l:=by
 obtain⟨h1,h2|⟨g',cap,cur,h2,h3,h4,h5⟩⟩:=h
 ·exact⟨h1,.inl h2⟩
 ·exact⟨h1,.inr ⟨g',cap,cur,h2,h3,by rw[PH.put_ne _ _ (fun e=>by subst e;rw[hq]at h4;cases h4)];exact h4,h5⟩⟩
theorem d5n:prog.underlying 112=some (.array 12 3):=by kernel_rfl
theorem d5o:z7 prog 3=true:=by kernel_rfl
theorem d8E {b:Nat} {l:List Int} {T:TypeId} (hb:H b=none) (hl:l.length=12) (hn:n<=12):SI (H.put b (.cells (l.map ii).toArray T (0,0))) (.slice (some ⟨b,0,none⟩) (n:Int).toNat 12) (l.take n):=by
 have hm:∀l:List Int,(l.flatMap fun z:Int=>[ii z])=l.map ii:=fun l=>by
  induction l with
  |nil=>rfl
  |cons a l ih=>rw[List.flatMap_cons,ih];rfl
 have yX:(l.take n).length=n:=by rw[cB];omega
 refine⟨by rw[hm];simp,some ⟨b,0,none⟩,12,by rw[yX,bB],by rw[yX];exact hn,by decide,.inr ⟨b,0,_,_,_,rfl,PH.put_self _ _ _,?_⟩⟩;rw[hm,yX,List.toList_toArray,List.drop_zero,Nat.mul_one,List.map_take]
theorem d5p {β:Type} (L:List (List Int×β)) (x:List Int) (y:β):Df L x y≠[]:=fun h=>by
 have:=c8N (L:=L) (k:=x) (v:=y);rw[h]at this;cases this
theorem d8F:Ba es wl lo hi n k p≠[]:=by
 unfold Ba;split
 ·exact d5p _ _ _
 ·rename_i h;intro e;rw[e]at h;exact h (by rw[cL,sQ];grind)
theorem d5q (qN:p.length=n) (hn:n<=12) (uN:k<=8):(Ba es wl lo hi n k p).length<=2^20+1:=by
 have zU:=zu k uN;have hOl:(Bt es wl lo hi n k p).length<=2^20:=by
  refine aS (RA (es:=es) (wl:=wl) (lo:=lo) (hi:=hi) (n:=n) (k:=k) (p:=p) fun pr _=>Wt qN (by omega) pr) ?_;exact aS (cI zU (aU (by decide) hn)) (by decide)
 unfold Ba;split
 ·exact aS (QX _ _ _) (by omega)
 ·omega
theorem d5r {α:Type} {e:TypeId} {sz:Nat} {ce:α->List Value} {l:List α} (h:SO H0 H e sz ce v l) (hl:l≠[]):∃g,H0 g=none/\(∃cur,H g=some (.cells cur e (0,0)))/\SO (j1 H g) H e sz ce v l:=by
 obtain⟨h1,⟨_,h2⟩|⟨g,cap,cur,h2,h3,h4,h5⟩⟩:=h
 ·exact absurd (aZ h2) hl
 ·exact⟨g,h3,⟨cur,h4⟩,h1,.inr ⟨g,cap,cur,h2,by unfold j1;rw[if_pos rfl],h4,h5⟩⟩
theorem d5s (H:PH) (g:Nat):PH.le (j1 H g) H:=fun k o hk=>by
 unfold j1 at hk;split at hk
 ·cases hk
 ·exact hk
theorem d5t {g:Nat} {cur:Array Value} {l:List Int} (h:SO H0 H 3 1 (fun z:Int=>[ii z]) v l) (hg:H g=some (.cells cur 33 (0,0))):SI (j1 H g) v l:=by
 have:SO H0 (j1 H g) 3 1 (fun z:Int=>[ii z]) v l:=by
  obtain⟨h1,h2|⟨g',cap,cur',h2,h3,h4,h5⟩⟩:=h
  ·exact⟨h1,.inl h2⟩
  ·refine⟨h1,.inr ⟨g',cap,cur',h2,h3,?_,h5⟩⟩;unfold j1;rw[if_neg (fun e=> ?_)]
   ·exact h4
   ·subst e;rw[hg]at h4
    injection h4 with h4
    injection h4 with _ h4 _
    exact absurd h4 (by decide)
 exact this.se
open Classical in
noncomputable def Ff (B:PH) (s:Slc):List Int:=if h:∃p,SI B (vs s) p then pE h else[]
theorem Nl {s:Slc} (h:SI H (vs s) p):Ff H s=p:=by
 have he:∃p,SI H (vs s) p:=⟨p,h⟩;unfold Ff;rw[dif_pos he];exact TA (iN he) h
def tok (r:Rat):Bool:=decide ((-(HM:Int)<=r.num/\r.num<HM)/\(r.den:Int)<HM)
def tpr (r:Rat):Nat×Nat:=(rs r.num,rs (r.den:Int))
theorem c9f {r:Rat} (h:tok r=true):Fz r= .tuple #[shv (tpr r).1 (tpr r).2,ii 0]:=if_pos (oDt h)
theorem d5u {r:Rat} (h:tok r=false):Fz r= .tuple #[shv 0 0,ii 6]:=if_neg (oDf h)
theorem c9g (r:Rat):∃(n d:Nat) (e:Int),Fz r= .tuple #[shv n d,ii e]/\((tok r=true/\e=0/\(n,d)=tpr r)\/(tok r=false/\e=6)):=by
 cases h:tok r with
 |true=>exact⟨_,_,0,c9f h,.inl ⟨rfl,rfl,rfl⟩⟩
 |false=>exact⟨_,_,6,d5u h,.inr ⟨rfl,rfl⟩⟩
def bj (H':PH) (n:Nat) (es:List (Nat×Nat)) (wl:List Int) (lo hi ds:Int) (p:List Int) (r:Value):Prop:=
 (smE n es wl lo hi ds [p]≠0/\r= .tuple #[.slice none 0 0,.slice none 0 0,ii (smE n es wl lo hi ds [p])])\/
 (smE n es wl lo hi ds [p]=0/\∃ps:List (List Int),ps.Perm ((Ba es wl lo hi n ds.toNat (n8 p)).map fun x=>x.1.take n)/\ps.Pairwise (fun a b=>¬Aj b a<0)/\
  (((∀q∈ps,tok (vO (Ba es wl lo hi n ds.toNat (n8 p)) (m7 q))=true)/\∃(pv ov:Value) (m:List Slc) (cont:Slc->List Int),r= .tuple #[pv,ov,ii 0]/\SE H' 1 (fun s:Slc=>[vs s]) pv m/\m.map cont=ps/\(∀s∈m,SI H' (vs s) (cont s))/\SE H' 16 shc ov (ps.map fun q=>tpr (vO (Ba es wl lo hi n ds.toNat (n8 p)) (m7 q))))\/
   ((∃q∈ps,tok (vO (Ba es wl lo hi n ds.toNat (n8 p)) (m7 q))=false)/\r= .tuple #[.slice none 0 0,.slice none 0 0,ii 6])))
set_option maxHeartbeats 1000000 in
theorem TU (hT:Tb H) (hw:SG H w es) (hg:GV n es) (qV:SI H wts wl) (hu:SI H u p):Con prog 12 [gv n w,bv wts lo hi ds,u] H fun r H'=>PH.le H H'/\bj H' n es wl lo hi ds p r:=by
 refine j3 mixed c7L ?_;obtain⟨s1,rfl⟩:=Jg hu;unfold bj;refine d9 (Ap hw) ?_;refine d9 (Gs (Af qV) _ _ _) ?_;refine On Hl (a:=s1) rfl rfl rfl fun v3 H1 l1 o1 _=> ?_;refine x9 (SZ (cont:=fun _=>p) (hT.mono l1) (hw.mono l1) hg (qV.mono l1) o1.se (fun s hs=>by rw[aQ.1 hs];exact hu.mono l1)) rfl fun H2 l2=> ?_;refine d4 ?_;refine r9 (p:=(smE n es wl lo hi ds [p]≠0)) (bN _ _) (fun h0=> ?_) fun h0=> ?_
 ·exact g8 rfl ⟨l1.trans l2,.inl ⟨h0,rfl⟩⟩
 ·have h0:=aP h0;obtain⟨sH,wK,hft⟩:=TD h0;have hb:=Rx sH;obtain⟨k,rfl,tH,uN,qN,hL,hU,rQ⟩:=nu (hft p (.head _));refine i6 (Wi (hu.mono (l1.trans l2)) ⟨fun x hx=>by have:=hL.1 x hx;omega,hL.2⟩) rfl ?_;rintro _ H3 ⟨l3,z,rfl,hz⟩;refine nmI ?_;have l03:=(l1.trans l2).trans l3;refine i8 (i8 ?_);refine i6 (RN (p:=n8 p) (k:=k) (lo:=lo) (hi:=hi) ⟨hT.mono l03,hw.mono l03,hg,qV.mono l03,hb.1,hb.2.2.2.2.2⟩ hz.se wK rQ (by rw[Ft];exact qN) tH uN (Sz hL hU) (Wg hL hU)) rfl ?_;rintro v6 H5 ⟨l5,m5⟩;refine nmI ?_;have l05:=l03.trans l5;simp only[bB];have hAl:(Ba es wl lo hi n k (n8 p)).length<=2^20+1:=d5q (by rw[Ft];exact qN) wK uN;have hA0:Ba es wl lo hi n k (n8 p)≠[]:=d8F;have hAn:((Ba es wl lo hi n k (n8 p)).map (·.1)).Nodup:=Wy;have hAk:=d5l (es:=es) (wl:=wl) (lo:=lo) (hi:=hi) (n:=n) (k:=k) (p:=n8 p);generalize hA:Ba es wl lo hi n k (n8 p)=A at m5 hAl hA0 hAn hAk⊢;obtain⟨V,⟨r,es0,clock,rfl,hHr,wL,hE,rO⟩,wW,hrp⟩:=m5;have zI:es0.map (·.1)=A.map (·.1):=by rw[<-wW,<-rO];unfold kvN;rw[cC];rfl
  have rJ:es0.length=A.length:=by have:=congrArg List.length zI;simpa using this
  refine r4 (QN (κ:=List Int) (ke:=kV) (vs:=[.map (some r)]) rfl rfl Ws wL) rfl ?_;rintro _ _ ⟨q,hq,rfl,rfl⟩;refine nmI ?_;have hrq:r≠q:=fun e=>by subst e;rw[wL]at hq;cases hq
  have hI0:IT kV (H5.put q (.mapIter (some r) clock #[] clock)) q r es0 clock []:=⟨PH.put_self _ _ _,by rw[PH.put_ne _ _ hrq];exact wL⟩;refine s9 (α:=List Nat×List (Slc×List Int)×Value) (fun⟨seen,ls,v8⟩=>[v8]) (fun⟨seen,ls,v8⟩=>fun H'=>PH.le H5 H'/\IT kV H' q r es0 clock seen/\SO H5 H' 33 1 (fun s:Slc=>[vs s]) v8 (ls.map (·.1))/\(∀x∈ls,SO H5 H' 3 1 (fun z:Int=>[ii z]) (vs x.1) x.2)/\(ls.map (·.2)++(left es0 seen).map fun e=>e.1.take n).Perm (es0.map fun e=>e.1.take n)) (fun⟨seen,ls,v8⟩=>(left es0 seen).length) (([],[],.slice none 0 0)) rfl (⟨PH.le_put hq _,hI0,SO.nil _ _ _ _ _,(fun x hx=>by cases hx),by rw[RH];exact oK _⟩) fun⟨seen,ls,v8⟩ H4 ⟨l4,it4,o8,hct,wV⟩=> ?_;refine r4 (QO (ok:=okK) (ke:=kV) (vs:=[.pointer (some ⟨q,0,none⟩)]) rfl rfl hE it4) rfl ?_;rintro v9 H6 wP;refine nmI ?_;obtain⟨b,x,y,rfl,rI⟩:=RF wP;refine d9 (RE b x y) ?_;refine d9 ⟨b,mz b x y⟩ ?_;refine i0 (b:=b) (mz b x y) (fun qQ=> ?_) (fun qQ=> ?_)
  ·skip
   obtain⟨e,he,rfl,rfl,rfl⟩:∃p∈left es0 seen,x=kV p.1/\y=p.2.1/\H6=H4.put q (.mapIter (some r) clock (seen++[p.2.2]).toArray clock):=by
    rcases rI with⟨h,_⟩|⟨_,h⟩
    ·rw[qQ]at h;cases h
    ·exact h
   subst qQ;have heE:e∈es0:=(List.mem_filter.1 he).1;have a1x:e.1.length=12:=(hE.oks e heE).1;have hqi:=it4.1;have it5:IT kV (H4.put q (.mapIter (some r) clock (seen++[e.2.2]).toArray clock)) q r es0 clock (seen++[e.2.2]):=⟨PH.put_self _ _ _,by rw[PH.put_ne _ _ hrq];exact it4.2⟩;have l5':PH.le H5 (H4.put q (.mapIter (some r) clock (seen++[e.2.2]).toArray clock)):=fun b' ob' qZ=>by rw[PH.put_ne _ _ (fun e=>by subst e;rw[hq]at qZ;cases qZ)];exact l4 _ _ qZ
   have o8':=TT (ob:= .mapIter (some r) clock (seen++[e.2.2]).toArray clock) o8 hqi;have a3t:∀x∈ls,SO H5 (H4.put q (.mapIter (some r) clock (seen++[e.2.2]).toArray clock)) 3 1 (fun z:Int=>[ii z]) (vs x.1) x.2:=fun x hx=>TT (hct x hx) hqi;generalize H4.put q (.mapIter (some r) clock (seen++[e.2.2]).toArray clock)=H7 at it5 l5' o8' a3t⊢;refine r4 (Rds.opn' (QP (ok:=okK) (ke:=kV) (vs:=[.pointer (some ⟨q,0,none⟩)]) rfl rfl hE heE it5)) rfl ?_;rintro _ _ ⟨rfl,rfl⟩;refine nmI ?_;refine i8 ?_;simp only[cA,nA];refine Ee (cs:=(List.replicate 12 (ii 0)).toArray) (by kernel_rfl) fun b qZ=> ?_;refine gz (vs:=e.1.map ii) (by rw[aR,a1x];exact d8D) rfl rfl rfl (PH.put_self _ _ _) (by simp[a1x]) (fun c hc=>by obtain⟨z,_,rfl⟩:=aH.1 hc;rfl) rfl (fun h=>(nomatch h)) ?_;rw[PH.put_put];simp only[cA,nA];refine r7 ((YZ (n:=12) (l:=(n:Int)) (vs:=[.pointer (some ⟨b,0,none⟩),ii (n:Nat)]) rfl rfl rfl d5n d5o (by omega) (by omega)).rds _) rfl ?_;refine i6 (c8E (d8E qZ a1x wK) (by rw[cB];omega)) rfl ?_;rintro v14 H8 ⟨l8,o14⟩;refine nmI ?_;obtain⟨s2,rfl⟩:=Jg o14.se;simp only[cA,nA];refine On Hl (a:=s2) rfl rfl rfl fun v15 H9 l9 o15 _=> ?_;have l79:=(PH.le_put qZ _).trans (l8.trans l9);refine gu Hl rfl rfl rfl (l5'.trans l79) (o8'.mono l79) o15.se (by have:=wV.length_eq;simp only[aJ,aR,cJ]at this⊢;omega) rfl rfl fun v16 H11 l11 o11 uH=> ?_;obtain⟨la,lb,wS,yH⟩:=RI (hE.asc.imp fun h=>Nat.ne_of_lt h) he;simp only[cA,nA];exact⟨(seen++[e.2.2],ls++[(s2,e.1.take n)],v16),by show(left es0 (seen++[e.2.2])).length<(left es0 seen).length;rw[wS,yH];simp,rfl,⟨l11,d5m (RL it5 l79) uH,by rw[aX];exact o11,(fun x hx=>by rw[aV]at hx;rcases hx with hx|hx;(exact TS ((a3t x hx).mono l79) uH);(rw[aQ]at hx;subst hx;exact TS ((o14.less (l5'.trans (PH.le_put qZ _))).mono l9) uH)),by rw[wS]at wV;rw[yH];simp only[aX,aM,cL,List.append_assoc,List.cons_append,List.nil_append]at wV⊢;exact(pL _ (List.perm_middle (l₁:=la.map fun e=>e.1.take n)).symm).trans wV⟩⟩
  ·skip
   obtain⟨a1v,h54⟩:left es0 seen=[]/\H6=H4:=by
    rcases rI with⟨_,h⟩|⟨h,_⟩
    ·exact h
    ·rw[qQ]at h;cases h
   rw[h54];rw[a1v,cL,dC]at wV;have hl0:ls≠[]:=fun e=>by rw[e]at wV;have:=wV.length_eq;simp only[aR,dM]at this;exact hA0 (aZ (by omega))
   have xK:ls.length=A.length:=by have:=wV.length_eq;simp only[aR]at this;omega
   obtain⟨g,hg5,⟨cur,hg4⟩,o8c⟩:=d5r o8 (by simpa using hl0);have hsi:∀x∈ls,SI (j1 H4 g) (vs x.1) x.2:=fun x hx=>d5t (hct x hx) hg4;refine i6 (c4N (B:=j1 H4 g) (cont:=Ff (j1 H4 g)) (d5s _ _) o8c (by simpa using hl0) (by rw[aR];omega) (fun s hs=>by obtain⟨x,hx,rfl⟩:=aH.1 hs;rw[Nl (hsi x hx)];exact hsi x hx)) rfl ?_;rintro _ H12 ⟨l12,m,hmp,uJ,o12⟩;refine nmI ?_;have hmS:∀s∈m,SI (j1 H4 g) (vs s) (Ff (j1 H4 g) s):=fun s hs=>by
    obtain⟨x,hx,rfl⟩:=aH.1 (hmp.mem_iff.1 hs);rw[Nl (hsi x hx)];exact hsi x hx
   have qI:ls.map (·.2)=(ls.map (·.1)).map (Ff (j1 H4 g)):=by
    rw[cC];exact List.map_congr_left fun x hx=>(Nl (hsi x hx)).symm
   have a6n:(es0.map fun e=>e.1.take n)=A.map fun x=>x.1.take n:=by have:=congrArg (List.map (List.take n)) zI;rw[cC,cC]at this;exact this
   have hpA:(m.map (Ff (j1 H4 g))).Perm (A.map fun x=>x.1.take n):=(hmp.map _).trans (by rw[<-qI,<-a6n];exact wV);have hkA:∀s∈m,(Ff (j1 H4 g) s).length=n/\m7 (Ff (j1 H4 g) s)∈A.map (·.1):=fun s hs=>by
    obtain⟨x,hx,e⟩:=aH.1 (hpA.mem_iff.1 (aH.2 ⟨s,hs,rfl⟩));obtain⟨q',uS,xQ⟩:=hAk x hx;rw[Ft]at uS;have h3:Ff (j1 H4 g) s=q':=by rw[<-e,xQ,<-qN,<-uS];exact c9e
    rw[h3];exact⟨by omega,aH.2 ⟨x,hx,xQ⟩⟩
   have a6o:H12 r=some (.map (eN kV es0).toArray clock):=l12 _ _ (by unfold j1;rw[if_neg (fun e=>by subst e;rw[it4.2]at hg4;cases hg4)];exact it4.2);have l5B:PH.le H5 (j1 H4 g):=fun b' ob' h=>by
    have:=l4 _ _ h;unfold j1;rw[if_neg (fun e=>by subst e;rw[h]at hg5;cases hg5)];exact this
   have lH12:PH.le H H12:=fun b' ob' qZ=>l12 _ _ (by have h1:=l4 _ _ (l05 _ _ qZ);unfold j1;rw[if_neg (fun e=>by subst e;rw[l05 _ _ qZ]at hg5;cases hg5)];exact h1);refine Om Hl rfl rfl o12.se rfl ?_;refine s9 (α:=Nat×List (Nat×Nat)×Value) (fun⟨i,sh,v14⟩=>[v8,ii 0,v14,ii (i:Nat)]) (fun⟨i,sh,v14⟩=>fun H'=>i<=m.length/\PH.le H12 H'/\SO H12 H' 58 16 shc v14 sh/\sh=((m.take i).map fun s=>tpr (vO A (m7 (Ff (j1 H4 g) s))))/\∀s∈m.take i,tok (vO A (m7 (Ff (j1 H4 g) s)))=true) (fun⟨i,sh,v14⟩=>m.length-i) ((0,[],.slice none 0 0)) rfl (⟨Nat.zero_le _,PH.le.refl _,SO.nil _ _ _ _ _,rfl,fun s hs=>by cases hs⟩) fun⟨i,sh,v14⟩ H13 ⟨hi,l13,o13,yB,zA⟩=> ?_;refine d4 (d4 ?_);refine i0 (b:=decide (((i:Nat):Int)<(m.length:Nat))) rfl (fun h=> ?_) (fun h=> ?_)
   ·replace h:=oDt h;have pW:i<m.length:=by omega
    obtain⟨s,hs,_⟩:=t7 pW;have hsm:=List.mem_of_getElem? hs;obtain⟨hkl,hkm⟩:=hkA s hsm;simp only[cA,nA];refine j8 Hl (o12.se.mono l13) hs fun _=> ?_;refine i6 (Wp ((hmS s hsm).mono (l12.trans l13)) (by omega)) rfl ?_;rintro _ H14 ⟨l14,rfl⟩;refine nmI ?_;generalize xN:Ff (j1 H4 g) s=cc at*;have a6p:∀k v q,(k,v)∈V->(k,q)∈A->Rp H14 v q:=fun k v q a b=>(hrp k v q a b).mono (l5B.trans (l12.trans (l13.trans l14)));obtain⟨b,x,wU,sZ,rR,yL⟩:=TG (V:=V) (L:=A) (κ:=m7 cc) hAn wW a6p;have a6q:okK (m7 cc):=by
     rw[<-zI]at hkm;obtain⟨e,he,h⟩:=aH.1 hkm;rw[<-h];exact hE.oks e he
    have hbt:b=true:=by
     rcases wU with⟨_,_,h⟩|⟨h,_⟩
     ·exact absurd (by rw[wW];exact hkm) h
     ·exact h
    simp only[cA,nA];refine r7 (QM ar (vs:=[.map (some r),kV (m7 cc)]) (ok2:=false) (k:=m7 cc) (u:=x) (b:=b) rfl rfl rfl Ws a6q TC ⟨r,es0,clock,rfl,(l13.trans l14) _ _ a6o,hE,rO⟩ wU) rfl ?_;refine i6 (gi (rR hbt)) rfl ?_;rintro u20 H15 ⟨l15,a3u⟩;refine nmI ?_;obtain⟨a7,d7,e7,ht7,ht8⟩:=c9g (vO A (m7 cc));rw[ht7]at a3u;subst a3u;refine i8 (i8 ?_);refine d9 (Dz a7 d7) ?_;simp only[cA,nA];refine d4 ?_;refine r9 (p:=(e7≠0)) (bN _ _) (fun he7=> ?_) fun he7=> ?_
    ·have htf:tok (vO A (m7 cc))=false/\e7=6:=by
      rcases ht8 with⟨_,h,_⟩|h
      ·exact absurd h he7
      ·exact h
     obtain⟨htf,he6⟩:=htf;exact g8 rfl ⟨(lH12.trans l13).trans (l14.trans l15),.inr ⟨h0,m.map (Ff (j1 H4 g)),hpA,uJ,.inr ⟨⟨cc,aH.2 ⟨s,hsm,xN⟩,htf⟩,by rw[he6];rfl⟩⟩⟩
    ·have he7:=aP he7;have htt:tok (vO A (m7 cc))=true/\(a7,d7)=tpr (vO A (m7 cc)):=by
      rcases ht8 with⟨h,_,h2⟩|⟨_,h⟩
      ·exact⟨h,h2⟩
      ·omega
     obtain⟨htt,htp⟩:=htt;refine On Py (a:=(a7,d7)) rfl rfl rfl fun v21 H16 l16 o16 _=> ?_;refine Lu Py rfl rfl rfl (((l13.trans l14).trans l15).trans l16) (o13.mono ((l14.trans l15).trans l16)) o16.se (by have:=hmp.length_eq;rw[yB];simp only[aR,cB,cJ]at this⊢;omega) rfl rfl fun v22 H17 l17 o17 uH=> ?_;exact⟨(i+1,sh++[(a7,d7)],v22),(by show m.length-(i+1)<m.length-i;omega),(Ot rfl rfl rfl (i9 rfl (by have:=hmp.length_eq;rw[aR]at this;omega))),⟨(by show i+1<=_;omega),l17,o17,(by show sh++[(a7,d7)]=_;rw[take_snoc hs,aX,<-yB,htp,<-xN];rfl),fun s' qF=>by rw[take_snoc hs]at qF;rcases aV.1 qF with h|h;(exact zA s' h);(rw[aQ.1 h,xN];exact htt)⟩⟩
   ·replace h:=oDf h;rw[List.take_of_length_le (by omega)]at yB zA;exact g8 rfl ⟨lH12.trans l13,.inr ⟨h0,m.map (Ff (j1 H4 g)),hpA,uJ,.inl ⟨(fun q hq=>by obtain⟨s,hs,rfl⟩:=aH.1 hq;exact zA s hs),v8,v14,m,Ff (j1 H4 g),rfl,o12.se.mono l13,rfl,(fun s hs=>(hmS s hs).mono (l12.trans l13)),by rw[cC];rw[yB]at o13;exact o13.se⟩⟩⟩
end
end Go.Proofs.Z
/- Chapter 32: all probabilities of small graphs can be told. -/
namespace Go.GS
theorem BZ {es:List (Nat×Nat)} {S:Nat}:∀(f j:Nat) (t:List Int),es.length-j=f->(trL es S f j t).length<=2^Bh es S j
 |0,j,t,_=>by
  have:=Nat.two_pow_pos (Bh es S j);unfold trL;split
  ·simp;omega
  ·simp
 |f+1,j,t,hf=>by
  have hj:j<es.length:=by omega
  have h1:=BZ (es:=es) (S:=S) f (j+1) t (by omega);unfold trL;rw[aJ];split
  ·rename_i h;have h2:=BZ (es:=es) (S:=S) f (j+1) (t++[(j:Int)]) (by omega);rw[yr (Fo hj) h.1,Nat.pow_succ];omega
  ·have:=aU (n:=2) (by decide) (jt es S j);simp only[dM];omega
theorem TV {es:List (Nat×Nat)} {S n:Nat} (hg:GV n es) (hs:S<M64) (h9:card S<=9):tn es S<=2^36:=by
 refine aS (BZ _ _ _ (by omega)) (aU (by decide) (PG hg hs h9))
theorem d8H:∀k:Fin 5,(i7 k.val).length<=6:=by decide
theorem Qd.unit {D B:Nat} {r:Rat} (h:Qd D B r) (hD:0<D) (h0:0<=r) (h1:r<=1):Qd D D r:=by
 obtain⟨A,rfl,_⟩:=h;refine⟨A,rfl,?_⟩;have hD':(0:Rat)<((D:Nat):Int):=by exact_mod_cast hD
 have a0:0<=A:=by
  rcases oZ A 0 with h|h
  ·exfalso;have:((A:Int):Rat)/((D:Nat):Int)<0:=(Rat.div_lt_iff hD').2 (by rw[Rat.zero_mul];exact_mod_cast h);exact absurd h0 (Rat.not_le.2 this)
  ·exact h
 have a1:A<=D:=by
  rcases oZ (D:Int) A with h|h
  ·exfalso;have:1<((A:Int):Rat)/((D:Nat):Int):=(Rat.lt_div_iff hD').2 (by rw[Rat.one_mul];exact_mod_cast h);exact absurd h1 (Rat.not_le.2 this)
  ·exact h
 omega
end Go.GS
namespace Go.Proofs.Z
open Go.Proofs.Tryz
open Go.RowKit Go.RX Go.GS Go.RZ
open Go.WD (BP Bf wd rs toI HM sgI Rb)
section
variable {es:List (Nat×Nat)} {wl:List Int} {lo hi:Int} {n k m S a:Nat} {p:List Int}
theorem d8I:2^256<=HM:=by
 rw[HV];have:(2:Nat)^256=BP 8:=by unfold BP;rfl
 rw[this];exact aS (Bf (by decide)) (lP _ (by decide))
theorem CB {D:Nat} {r:Rat} (h:Qd D D r) (hD:0<D) (hb:D<2^256):Rb 256 r:=AU (k:=256) h (by omega) hb hb
theorem d8J {r:Rat} (h:Rb 256 r):tok r=true:=by
 obtain⟨h1,h2⟩:=h;have:=d8I;refine oDd ⟨⟨by omega,by omega⟩,by omega⟩
structure SitO (es:List (Nat×Nat)) (n k:Nat) (p:List Int):Prop where
 gv:GV n es
 n9:n<=9
 lab:LabOk p (k:Nat)
 used:Ak p k
 can:n8 p=p
 len:p.length=n
 k1:1<=k
 k4:k<=4
theorem SitO.kn (h:SitO es n k p):k<=n:=by have:=TB h.used;have:=h.len;omega
theorem SitO.pr (h:SitO es n k p) {pr:Nat×Nat} (qT:pr∈i7 k):PrO p n k pr:=oc h.used h.len (by have:=h.n9;omega) qT
theorem SitO.n2 (h:SitO es n k p) {pr:Nat×Nat} (qT:pr∈i7 k):0<n-1/\0<(i7 k).length/\(i7 k).length<=6:=by
 have h1:=Ta qT;have:=h.kn;exact⟨by omega,List.length_pos_of_mem qT,d8H ⟨k,by have:=h.k4;omega⟩⟩
theorem SitO.next (h:SitO es n k p) {pr:Nat×Nat} (qT:pr∈i7 k) {a:Nat} (ha:a∈Bd (unP p pr)):SitO es n k (Bl p pr a):=by
 obtain⟨hP,_⟩:=nq h.lab h.used h.len (by have:=h.n9;omega) qT ha;exact⟨h.gv,h.n9,Sz hP.rlab hP.rused,Wg hP.rlab hP.rused,RY _,by rw[nr];exact h.len,h.k1,h.k4⟩
structure e1k (es:List (Nat×Nat)) (wl:List Int) (lo hi:Int) (n k:Nat) (p:List Int) (x:(Nat×Nat)×Nat):Prop where
 pr:x.1∈i7 k
 pl:x.2∈Bd (unP p x.1)
 sub:∀y,bit x.2 y=true->bit (unP p x.1) y=true
 lst:bit x.2 (lst (unP p x.1))=true
 ts:tn es (unP p x.1)≠0
 ta:tn es x.2≠0
 tb:tn es (sdf (unP p x.1) x.2)≠0
 a0:x.2≠0/\x.2<2^n
 b0:sdf (unP p x.1) x.2≠0/\sdf (unP p x.1) x.2<2^n
 ala:alB es wl lo hi x.2=true
 alb:alB es wl lo hi (sdf (unP p x.1) x.2)=true
 ne:p≠Bl p x.1 x.2
 prt:Prt p k x.1.1 x.1.2 x.2
theorem SitO.hit (h:SitO es n k p) {x:(Nat×Nat)×Nat} (hx:x∈Em es wl lo hi k p):e1k es wl lo hi n k p x:=by
 obtain⟨x1,x2,x3,x4,x5,x6⟩:=idx_mem.1 hx;have hn:n<=64:=by have:=h.n9;omega
 have hP:=h.pr x1;obtain⟨a0,b0⟩:=ax hP.s2 hn hP.s0 x2;obtain⟨q1,q2⟩:=nq h.lab h.used h.len hn x1 x2;have hca:Cn es x.2:=by unfold alB at x4;rw[aF]at x4;exact cnB_iff.1 x4.1
 have hcb:Cn es (sdf (unP p x.1) x.2):=by unfold alB at x5;rw[aF]at x5;exact cnB_iff.1 x5.1
 exact⟨x1,x2,q1.sub,q2,fun e=>x3 (by rw[Jo hP.sM hP.s0,e];rfl),BQ (Ci hn a0.2) a0.1 hca,BQ (Ci hn b0.2) b0.1 hcb,a0,b0,x4,x5,fun e=>x6 (by rw[<-e]),q1⟩
theorem SitO.val (h:SitO es n k p) {x:(Nat×Nat)×Nat} (hx:x∈Em es wl lo hi k p):0<Jm es n (i7 k).length p x.1 x.2/\Jm es n (i7 k).length p x.1 x.2<=1/\Rb 256 (Jm es n (i7 k).length p x.1 x.2):=by
 have hh:=h.hit hx;have hn:n<=64:=by have:=h.n9;omega
 have hP:=h.pr hh.pr;obtain⟨n1,m1,m6⟩:=h.n2 hh.pr;have qS:x.2∈Cd es wl lo hi p x.1:=by
  obtain⟨_,x2,x3,x4,x5,x6⟩:=idx_mem.1 hx;exact par_mem.2 ⟨x3,x2,x4,x5,x6⟩
 have h1:tn es x.2*tn es (sdf (unP p x.1) x.2)<=tn es (unP p x.1)*(card (unP p x.1)-1):=by
  refine aS ?_ (BU (wl:=wl) (lo:=lo) (hi:=hi) hP);obtain⟨l1,l2,hl⟩:=List.append_of_mem qS;rw[hl,aX,aM,List.sum_append,List.sum_cons];omega
 have hts:=hh.ts;have hD:0<tn es (unP p x.1)*((n-1)*(i7 k).length):=fK (by omega) (fK n1 m1);have hND:tn es x.2*tn es (sdf (unP p x.1) x.2)<=tn es (unP p x.1)*((n-1)*(i7 k).length):=by
  refine aS h1 (Nat.mul_le_mul_left _ ?_);have:=hP.cd;have h2:n-1<=(n-1)*(i7 k).length:=lP _ m1;omega
 have hN0:0<tn es x.2*tn es (sdf (unP p x.1) x.2):=fK (mZ hh.ta) (mZ hh.tb);have hD2:tn es (unP p x.1)*((n-1)*(i7 k).length)<2^256:=by
  have h2:=TV h.gv hP.sM (by have:=hP.cd;have:=h.n9;omega);have h3:(n-1)*(i7 k).length<=8*6:=cI (by have:=h.n9;omega) m6;have h4:=cI h2 h3;have h5:2^36*(8*6)<2^256:=by decide
  omega
 rw[BW hP hn hh.pl];have hD':=To hD;refine⟨(Rat.lt_div_iff hD').2 (by rw[Rat.zero_mul];exact To hN0),Rat.not_lt.1 fun pO=> ?_,CB (D:=tn es (unP p x.1)*((n-1)*(i7 k).length)) ⟨_,rfl,by omega⟩ hD hD2⟩;rw[Rat.lt_div_iff hD',Rat.one_mul]at pO;have:((tn es (unP p x.1)*((n-1)*(i7 k).length):Nat):Int)<((tn es x.2*tn es (sdf (unP p x.1) x.2):Nat):Int):=by exact_mod_cast pO
 omega
theorem SitO.odds (h:SitO es n k p):Bt es wl lo hi n k p=(Em es wl lo hi k p).map (Tn es n (i7 k).length p):=SX h.lab h.used h.can h.len (by have:=h.n9;omega)
theorem TW:∀{l:List Rat},(∀q∈l,0<=q)->0<=sQ l
 |[],_=>Rat.le_refl
 |a::l,h=>by
  have h1:=h a (by simp);have h2:=TW (l:=l) fun q hq=>h q (by simp[hq]);simp only[sQ];grind
theorem SitO.tot (h:SitO es n k p):0<=Ce es wl lo hi n k p/\Ce es wl lo hi n k p<=1:=by
 refine⟨?_,d8B h.lab h.used h.can h.len (by have:=h.n9;omega)⟩;unfold Ce;rw[h.odds,cC];refine TW fun q hq=> ?_;obtain⟨x,hx,rfl⟩:=aH.1 hq;exact Rat.le_of_lt (h.val hx).1
theorem SitO.stay (h:SitO es n k p):0<=1-Ce es wl lo hi n k p/\1-Ce es wl lo hi n k p<=1/\Rb 256 (1-Ce es wl lo hi n k p):=by
 obtain⟨t0,t1⟩:=h.tot (wl:=wl) (lo:=lo) (hi:=hi);have a0:0<=1-Ce es wl lo hi n k p:=by grind
 have a1:1-Ce es wl lo hi n k p<=1:=by grind
 refine⟨a0,a1,?_⟩;by_cases hd:i7 k=[]
 ·have e:Ce es wl lo hi n k p=0:=by unfold Ce;rw[h.odds];unfold Em;rw[hd];rfl
  rw[e];rw[show(1:Rat)-0=1 from by grind];exact CB (D:=1) (Qd.one (by decide)) (by decide) (by decide)
 ·obtain⟨pr,qT⟩:=List.exists_mem_of_ne_nil _ hd;obtain⟨n1,m1,m6⟩:=h.n2 qT;have rW:0<(n-1)*(i7 k).length:=fK n1 m1;have hD:=bf (es:=es) (p:=p) rW (i7 k);have hDb:Cj es n (i7 k).length p (i7 k)<=2^(42*(i7 k).length):=by
   have:∀l:List (Nat×Nat),(∀pr∈l,pr∈i7 k)->Cj es n (i7 k).length p l<=2^(42*l.length):=by
    intro l;induction l with
    |nil=>intro _;simp[Cj]
    |cons pr l ih=>
     intro hl;have ih:=ih fun pr qT=>hl pr (by simp[qT]);have hP:=h.pr (hl pr (by simp));have hf:If es n (i7 k).length p pr<=2^42:=by
      unfold If;split
      ·decide
      ·rw[Jo hP.sM hP.s0,Int.natAbs_natCast];have h2:=TV h.gv hP.sM (by have:=hP.cd;have:=h.n9;omega);have h3:(n-1)*(i7 k).length<=8*6:=cI (by have:=h.n9;omega) m6;have h4:=cI h2 h3;have h5:2^36*(8*6)<=2^42:=by decide
       omega
     simp only[Cj,List.length_cons];rw[Nat.mul_succ,Nat.pow_add,Nat.mul_comm (2^(42*l.length))];exact cI hf ih
   exact this _ fun _ h=>h
  have a6r:Cj es n (i7 k).length p (i7 k)<2^256:=by
   refine Nat.lt_of_le_of_lt hDb (Nat.pow_lt_pow_right (by decide) (by omega))
  obtain⟨J,hJ⟩:∃J,J=320:=⟨_,rfl⟩;have hq:=na hJ (es:=es) (wl:=wl) (lo:=lo) (hi:=hi) h.gv (by have:=h.n9;omega) h.len rW;have hs:Qd (Cj es n (i7 k).length p (i7 k)) _ (Ce es wl lo hi n k p):=mr (l:=(Bt es wl lo hi n k p).map (·.2)) fun q vM=>by
   obtain⟨x,hx,rfl⟩:=aH.1 vM;exact hq x hx
  exact CB (((Qd.one (by omega)).sub hs).unit hD a0 a1) hD a6r
theorem TX (h:SitO es n k p):m7 p∉(Bt es wl lo hi n k p).map (·.1):=fun hm=>by
 obtain⟨x,hx,e⟩:=aH.1 hm;obtain⟨pr,_,a,_,_,_,_,h1,h2,_⟩:=(my x hx).ex;exact h1 (e ▸ h2)
theorem SitO.all (h:SitO es n k p):Ba es wl lo hi n k p=Bt es wl lo hi n k p++if 0<1-Ce es wl lo hi n k p then[(m7 p,1-Ce es wl lo hi n k p)]else[]:=by
 unfold Ba;split
 ·rename_i hs;rw[if_pos (show 0<1-Ce es wl lo hi n k p from hs)];unfold Df;rw[if_neg (TX h)];rfl
 ·rename_i hs;rw[if_neg (show ¬0<1-Ce es wl lo hi n k p from hs),dC]
theorem SitO.hitv (h:SitO es n k p) {x:(Nat×Nat)×Nat} (hx:x∈Em es wl lo hi k p):vO (Ba es wl lo hi n k p) (m7 (Bl p x.1 x.2))=Jm es n (i7 k).length p x.1 x.2:=
 Tj Wy (by rw[h.all,h.odds];exact List.mem_append_left _ (aH.2 ⟨x,hx,rfl⟩))
theorem SitO.stayv (h:SitO es n k p):vO (Ba es wl lo hi n k p) (m7 p)=1-Ce es wl lo hi n k p:=by
 by_cases hs:0<1-Ce es wl lo hi n k p
 ·exact Tj Wy (by rw[h.all,if_pos hs];simp)
 ·have h0:=(h.stay (wl:=wl) (lo:=lo) (hi:=hi)).1;rw[TE]
  ·grind
  ·rw[h.all,if_neg hs,dC];exact TX h
end
end Go.Proofs.Z

/- Ensembles: counts, the tally. -/
import Derived.Test.YtlmbepjdokomkaaGreatDoorRxFr
open Array renaming ext'->gI
open Int renaming natAbs_mul->lG
open List renaming append_of_mem->iU,count_le_length->iM,filter_cons->gK,length->oD,map->mD,map_map->fM,range->eT
open List.Nodup renaming length_le_of_subset->jA
open List.Perm renaming append_left->oQ,refl->oO,trans->oP
open Nat renaming ne_of_lt->oG
set_option linter.all false
set_option maxRecDepth 100000
namespace Go.Z
open Proofs.Tryz RowKit RX GS RZ WD
def CntS (B H:PH) (m:Value) (l:List Rat) (i:Nat):Prop:=∃L:List (Rat×Value),MKO Rg shR B H m L/\(∀r,r∈L.map (·.1)↔r∈l.take i)/\∀q∈L,q.2=iw (((l.take i).count q.1:Nat):Int)
section
variable {dm:Dm} {H B:PH} {n k ms lv who:Nat} {es:List (Nat×Nat)} {us:List Un} {w rw wts u v:Value} {lo hi:Int} {b i:Nat} {p:List Int} {l:List Rat}
def Zl (a:Nat):Asks prog 24 [wd a,ii 0] H (wd a):=by
 refine g9 mixed d3P ?_;refine b4 ⟨words_size a,words_one a⟩ ?_;refine b9 ?_;refine j1 (bF (p:=(0:Int)≠0) aD) ?_;exact c9 rfl ⟨rfl,rfl⟩
def Ot:prog.underlying 73=some (.map 46 44):=aB
def zg:∀w,(zeroValue 44).run prog w= .ok (wd 0) w:=by
 have hi:(prog.info? 44).map (fun i=>(i.zero,i.size))=some (some (.agg #[GS.uv 0,GS.uv 0,GS.uv 0,GS.uv 0,GS.uv 0,GS.uv 0,GS.uv 0,GS.uv 0]),8):=aB;have e:wd 0= .agg #[GS.uv 0,GS.uv 0,GS.uv 0,GS.uv 0,GS.uv 0,GS.uv 0,GS.uv 0,GS.uv 0]:=by rw[<-Jc];kernel_rfl
 rw[e];exact(Go.zero_of_info hi).1
def fits_small {z:Int} (h0:0<=z) (h1:z<9223372036854775808):Jb z:=by
 have:=U4;unfold Jb;omega
def jv {a b:Int} (ha:0<=a) (hb:0<=b) (h:a+b<9223372036854775808):Det prog 25 [iw a,iw b] (.tuple #[iw (a+b),ii 0]):=by
 have h1:=F9 (rs a) (rs b);rw[Ho (fits_small ha aA),Ho (fits_small hb aA),tu (fits_small aA h)]at h1;exact h1
def b8q {c n:Nat} (hn:0<n) (hc:c<2^20) (h:n<2^20):j5 prog 62 [iw ((c:Nat):Int),iw ((n:Nat):Int)] H (.tuple #[shR (qN c n),ii 0]):=
 (IX _ _).mono fun u H' hh=>⟨hh.1,by
  rw[hh.2,Ho (fits_small aA aA),Ho (fits_small aA aA)];unfold Hu;rw[if_neg aA];exact fk (Ze hn hc h)⟩
def zh (hM:CntS B H v l l.length) (hn:l≠[]) (hl:l.length<=400):Con prog 27 [v] H fun r H'=>Pl H H'/\∃m,SE H' 32 ceM r m/\TalP l m:=by
 refine g9 mixed d3Z ?_;have hl0:0<l.length:=List.length_pos_iff.2 hn;obtain⟨L,o1,hk,hv⟩:=hM;rw[dV]at hk hv;have hmk:=o1.mk;obtain⟨r,es,clock,rfl,-,hHr,hE,rF⟩:=id o1;have qY:es.map (·.1)=L.map (·.1):=by rw[<-rF];unfold kvN;rw[fM];rfl
 have hLl:L.length<=400:=by
  have:=jA hmk.keys.1 (l₂:=l) fun x hx=>(hk x).1 hx;rw[aW]at this;omega
 have qP:es.length=L.length:=by have:=congrArg oD qY;simpa using this
 have rZ:∀q,l.count q<=400:=fun q=>by have:=iM (a:=q) (l:=l);omega
 have a0m:(es.map fun e=>l.count e.1).sum=l.length:=by
  have:=OM (l:=l) hE.keys (fun x hx=>by rw[qY];exact(hk x).2 hx)
  rwa[fM]at this
 have heL:∀e∈es,e.2.1=iw ((l.count e.1:Nat):Int):=fun e he=>hv (e.1,e.2.1) (by rw[<-rF];exact bK.2 ⟨e,he,rfl⟩);have iw0:iw ((0:Nat):Int)=wd 0:=rfl;refine j4 (LM (κ:=Rat) (ke:=shR) (vs:=[.map (some r)]) rfl rfl Ot hHr) rfl ?_;rintro _ _ ⟨q,hq,rfl,rfl⟩;refine nmI ?_;simp only[cA,nA];have yG:r≠q:=fun e=>by subst e;rw[hHr]at hq;cases hq
 have hI0:IT shR (H.put q (.mapIter (some r) clock #[] clock)) q r es clock []:=⟨PH.put_self _ _ _,by rw[PH.put_ne _ _ yG];exact hHr⟩;refine t6 (α:=List Nat×Nat) (fun⟨seen,z⟩=>[iw ((z:Nat):Int)]) (fun⟨seen,z⟩=>fun H'=>Pl H H'/\IT shR H' q r es clock seen/\z+((left es seen).map fun e=>l.count e.1).sum=l.length) (fun⟨seen,z⟩=>(left es seen).length) (([],0)) (j7 (by show j3 prog 44=_;rw[Jc];rfl)) (⟨PH.le_put hq _,hI0,by rw[NS,a0m,bP]⟩) fun⟨seen,z⟩ H4 ⟨l4,it4,hz⟩=> ?_;simp only[cA,nA];refine j4 (LN (ok:=Rg) (ke:=shR) (vs:=[.pointer (some ⟨q,0,none⟩)]) rfl rfl hE it4) rfl ?_;rintro v6 H5 hnx;refine nmI ?_;simp only[cA,nA];obtain⟨bb,x,y,rfl,yK⟩:=NQ hnx;refine b4 (NP bb x y) ?_;refine b4 ⟨bb,jl bb x y⟩ ?_;refine g8 (b:=bb) (jl bb x y) (fun pV=> ?_) (fun pV=> ?_)
 ·skip
  obtain⟨e,he,rfl,rfl,rfl⟩:∃p∈left es seen,x=shR p.1/\y=p.2.1/\H5=H4.put q (.mapIter (some r) clock (seen++[p.2.2]).toArray clock):=by
   rcases yK with⟨h,_⟩|⟨_,h⟩
   ·rw[pV]at h;cases h
   ·exact h
  subst pV;have heE:e∈es:=(dJ.1 he).1;have tC:=heL e heE;have it5:IT shR (H4.put q (.mapIter (some r) clock (seen++[e.2.2]).toArray clock)) q r es clock (seen++[e.2.2]):=⟨PH.put_self _ _ _,by rw[PH.put_ne _ _ yG];exact it4.2⟩;have l5:Pl H (H4.put q (.mapIter (some r) clock (seen++[e.2.2]).toArray clock)):=fun b' ob' qC=>by rw[PH.put_ne _ _ (fun e=>by subst e;rw[hq]at qC;cases qC)];exact l4 _ _ qC
  generalize H4.put q (.mapIter (some r) clock (seen++[e.2.2]).toArray clock)=H6 at it5 l5⊢;refine j4 (Rds.opn' (LO (ok:=Rg) (ke:=shR) (vs:=[.pointer (some ⟨q,0,none⟩)]) rfl rfl hE heE it5)) rfl ?_;rintro _ _ ⟨rfl,rfl⟩;refine nmI ?_;simp only[cA,nA];rw[tC];refine g7 ?_;refine b4 ⟨words_size _,words_one _⟩ ?_;obtain⟨la,lb,wI,xA⟩:=NT (hE.asc.imp fun h=>oG h) he;have yF:z+l.count e.1+((left es (seen++[e.2.2])).map fun e=>l.count e.1).sum=l.length:=by
   rw[xA];rw[wI]at hz;simp only[bI,List.sum_append,aU,List.sum_cons]at hz⊢;omega
  refine Bn (jv (a:=((z:Nat):Int)) (b:=((l.count e.1:Nat):Int)) aA aA aA) rfl ?_;simp only[cA,nA];refine g7 (g7 ?_);refine s7 (Zl _) rfl ?_;simp only[cA,nA];refine b4 ⟨words_size _,words_one _⟩ ?_;exact⟨(seen++[e.2.2],z+l.count e.1),by show(left es (seen++[e.2.2])).length<(left es seen).length;rw[wI,xA];simp,(j7 (by show wd _=iw (((z+l.count e.1:Nat)):Int);rw[dD];rfl)),⟨l5,it5,yF⟩⟩
 ·skip
  obtain⟨a1b,h54⟩:left es seen=[]/\H5=H4:=by
   rcases yK with⟨_,h⟩|⟨h,_⟩
   ·exact h
   ·rw[pV]at h;cases h
  rw[h54];rw[a1b,cN,List.sum_nil,cP]at hz;subst hz;refine j4 (LM (κ:=Rat) (ke:=shR) (vs:=[.map (some r)]) rfl rfl Ot it4.2) rfl ?_;rintro _ _ ⟨q2,uM,rfl,rfl⟩;refine nmI ?_;simp only[cA,nA];have a2m:r≠q2:=fun e=>by subst e;rw[it4.2]at uM;cases uM
  have a4q:=it4.2;have hI2:IT shR (H4.put q2 (.mapIter (some r) clock #[] clock)) q2 r es clock []:=⟨PH.put_self _ _ _,by rw[PH.put_ne _ _ a2m];exact a4q⟩;refine t6 (α:=List Nat×Value×List MaT) (fun⟨seen,out,m⟩=>[out]) (fun⟨seen,out,m⟩=>fun H'=>Pl H4 H'/\IT shR H' q2 r es clock seen/\SO H4 H' 61 32 ceM out m/\((m.map fun q=>q.1.1)++(left es seen).map (·.1)).Perm (es.map (·.1))/\(∀q∈m,q.1.2=qN (l.count q.1.1) l.length)) (fun⟨seen,out,m⟩=>(left es seen).length) (([],.slice none 0 0,[])) rfl (⟨PH.le_put uM _,hI2,SO.nil _ _ _ _ _,by rw[NS];exact oO _,(fun q hq=>nomatch hq)⟩) fun⟨seen,out,m⟩ H7 ⟨l7,it7,o7,rQ,hds⟩=> ?_;simp only[cA,nA];refine j4 (LN (ok:=Rg) (ke:=shR) (vs:=[.pointer (some ⟨q2,0,none⟩)]) rfl rfl hE it7) rfl ?_;rintro v6 H8 hnx;refine nmI ?_;simp only[cA,nA];obtain⟨bb,x,y,rfl,yK⟩:=NQ hnx;refine b4 (NP bb x y) ?_;refine b4 ⟨bb,jl bb x y⟩ ?_;refine g8 (b:=bb) (jl bb x y) (fun pV=> ?_) (fun pV=> ?_)
  ·skip
   obtain⟨e,he,rfl,rfl,rfl⟩:∃p∈left es seen,x=shR p.1/\y=p.2.1/\H8=H7.put q2 (.mapIter (some r) clock (seen++[p.2.2]).toArray clock):=by
    rcases yK with⟨h,_⟩|⟨_,h⟩
    ·rw[pV]at h;cases h
    ·exact h
   subst pV;have heE:e∈es:=(dJ.1 he).1;have tC:=heL e heE;have hRg:Rg e.1:=hE.oks e heE;have hQg:Rg (qN (l.count e.1) l.length):=Ze hl0 (aR (rZ e.1) aC) aA;have it8:IT shR (H7.put q2 (.mapIter (some r) clock (seen++[e.2.2]).toArray clock)) q2 r es clock (seen++[e.2.2]):=⟨PH.put_self _ _ _,by rw[PH.put_ne _ _ a2m];exact it7.2⟩;have l8:Pl H4 (H7.put q2 (.mapIter (some r) clock (seen++[e.2.2]).toArray clock)):=fun b' ob' qC=>by rw[PH.put_ne _ _ (fun e=>by subst e;rw[uM]at qC;cases qC)];exact l7 _ _ qC
   have o8:SO H4 (H7.put q2 (.mapIter (some r) clock (seen++[e.2.2]).toArray clock)) 61 32 ceM out m:=(Qv o7 (g:=q2) (fun cs T fz=>by rw[it7.1];exact fun h=>nomatch h)).mono (PH.cut_put _ _ _);generalize H7.put q2 (.mapIter (some r) clock (seen++[e.2.2]).toArray clock)=H9 at it8 l8 o8⊢;refine j4 (Rds.opn' (LO (ok:=Rg) (ke:=shR) (vs:=[.pointer (some ⟨q2,0,none⟩)]) rfl rfl hE heE it8)) rfl ?_;rintro _ _ ⟨rfl,rfl⟩;refine nmI ?_;simp only[cA,nA];rw[tC];refine g7 (g7 ?_);refine b4 (r4 _ _) ?_;refine b4 ⟨words_size _,words_one _⟩ ?_;refine i9 (b8q (c:=l.count e.1) (n:=l.length) hl0 (aR (rZ e.1) aC) aA) rfl fun H10 l10=> ?_;simp only[cA,nA];refine g7 (g7 ?_);refine s7 (OT _ _) rfl ?_;simp only[cA,nA];refine b4 (r4 _ _) ?_;obtain⟨la,lb,wI,xA⟩:=NT (hE.asc.imp fun h=>oG h) he;have uX:m.length+1<=400:=by
    have:=rQ.length_eq;rw[wI]at this;simp at this;omega
   obtain⟨XB,xb1,xb2,xb3,xb4⟩:=Uu (o8.mono l10) (l8.trans l10);refine Hy el_mass rfl rfl rfl aF aF xb2 xb3 aA (show _=[veM ⟨(e.1,qN (l.count e.1) l.length),hRg,hQg⟩]from by unfold veM;rw[<-Le,<-Le];rfl) aF rfl fun pv v11 H11 l11 o11=> ?_;simp only[cA,nA];exact⟨(seen++[e.2.2],v11,m++[⟨(e.1,qN (l.count e.1) l.length),hRg,hQg⟩]),by show(left es (seen++[e.2.2])).length<(left es seen).length;rw[wI,xA];simp,rfl,⟨xb1.trans l11,⟨l11 _ _ ((xb4 q2 (fun cs=>by rw[l10 _ _ it8.1];exact fun h=>nomatch h)).trans (l10 _ _ it8.1)),l11 _ _ ((xb4 r (fun cs=>by rw[l10 _ _ it8.2];exact fun h=>nomatch h)).trans (l10 _ _ it8.2))⟩,o11.less xb1,by show((mD _ (m++[_]))++mD _ (left es (seen++[e.2.2]))).Perm _;refine oP ?_ rQ;rw[wI,xA,bI,bL,bI,bI];exact oQ _ (by simp only[aU,cN,List.singleton_append];exact(List.perm_middle (a:=e.1) (l₁:=la.map (·.1)) (l₂:=lb.map (·.1))).symm),fun q hq=>(bC.1 hq).elim (hds q) (fun hq=>by rw[bA.1 hq])⟩⟩
  ·skip
   obtain⟨a1b,h54⟩:left es seen=[]/\H8=H7:=by
    rcases yK with⟨_,h⟩|⟨h,_⟩
    ·exact h
    ·rw[pV]at h;cases h
   rw[h54];rw[a1b,cN,dM]at rQ;have rD:∀x,x∈(m.map fun q=>q.1.1)↔x∈l:=fun x=>by rw[rQ.mem_iff,qY];exact hk x
   have yL:m≠[]:=fun e=>by
    subst e;obtain⟨a,t,rfl⟩:=List.exists_cons_of_ne_nil hn;exact absurd ((rD a).2 aD) aD
   have hmc:m.length<=1000000:=by have:=rQ.length_eq;simp at this;omega
   refine g5 (c7Q c2D l7 o7 yL hmc (fun x y=>b8n x y)) rfl ?_;rintro _ H12 ⟨l12,m',vC,zA,o12⟩;refine nmI ?_;simp only[cA,nA];have hmp:(m'.map fun q=>q.1.1).Perm (es.map (·.1)):=(vC.map _).trans rQ;exact c9 rfl ⟨l4.trans l12,m',o12.se,d4c (hmp.nodup_iff.2 hE.keys) (fun x=>by rw[hmp.mem_iff,qY];exact hk x) (fun q hq=>hds q (vC.mem_iff.1 hq)) zA⟩
end
section
variable {dm:Dm} {H B:PH} {n k ms lv who:Nat} {es:List (Nat×Nat)} {us:List Un} {w rw wts u v:Value} {lo hi:Int} {b i:Nat} {p:List Int} {l:List Rat}
def CntS.put {H':PH} {m:Value} {r:Rat} {L:List (Rat×Value)} (hk:∀q,q∈L.map (·.1)↔q∈l.take i) (hv:∀q∈L,q.2=iw (((l.take i).count q.1:Nat):Int)) (hr:l[i]? =some r) (o2:MKO Rg shR B H' m (Dh L r (iw (((l.take i).count r+1:Nat):Int)))):CntS B H' m l (i+1):=by
 have hct:∀q,(l.take (i+1)).count q=(l.take i).count q+if r=q then 1 else 0:=fun q=>by
  rw[take_snoc hr,List.count_append,List.count_singleton];by_cases h:r=q
  ·rw[if_pos h,if_pos (by simpa using h)]
  ·rw[if_neg h,if_neg (by simpa using h)]
 have rD:∀q,q∈l.take (i+1)↔q=r\/q∈l.take i:=fun q=>by
  rw[take_snoc hr,bC,bA];exact Or.comm
 refine⟨_,o2,fun q=> ?_,fun q hq=> ?_⟩
 ·rw[rD];constructor
  ·intro hq;obtain⟨x,hx,rfl⟩:=bK.1 hq;rcases iq (x:=x.1) (y:=x.2) hx with⟨h,_⟩|⟨_,h⟩
   ·exact .inl h
   ·exact .inr ((hk _).1 (bK.2 ⟨_,h,rfl⟩))
  ·rintro(rfl|hq)
   ·exact bK.2 ⟨_,ir,rfl⟩
   ·by_cases e:q=r
    ·subst e;exact bK.2 ⟨_,ir,rfl⟩
    ·obtain⟨x,hx,rfl⟩:=bK.1 ((hk _).2 hq);exact bK.2 ⟨_,LK (x:=x.1) (y:=x.2) hx e,rfl⟩
 ·rcases iq (x:=q.1) (y:=q.2) hq with⟨h1,h2⟩|⟨h0,h1⟩
  ·rw[h2,h1,hct,if_pos rfl]
  ·rw[hct,if_neg (fun e=>h0 e.symm),cP];exact hv _ h1
def CntS.mono {H':PH} {m:Value} (h:CntS B H m l i) (hl:Pl H H'):CntS B H' m l i:=by
 obtain⟨L,h1,h2,h3⟩:=h;exact⟨L,h1.mono hl,h2,h3⟩
noncomputable def vlL (dm:Dm) (n k ms lv who:Nat) (es:List (Nat×Nat)) (us:List Un) (lo hi:Int):List Rat:=(eT (j8 n k es us lo hi)).map fun i=>s0 dm n es us k ms lv who (y8 n k es us lo hi i)
def He:(vlL dm n k ms lv who es us lo hi).length=j8 n k es us lo hi:=by simp[vlL]
def zi {i:Nat} (h:i<j8 n k es us lo hi):(vlL dm n k ms lv who es us lo hi)[i]? =some (s0 dm n es us k ms lv who (y8 n k es us lo hi i)):=by
 unfold vlL;rw[aY,cC h];rfl
def Ea:Ag prog 30 12:=⟨aB,aB,aB⟩
def c3a {c0:Nat} (hs:H c0=some (.cells (stC dm n k ms lv who w rw lo hi).toArray 30 (0,0))) (hM:StM H w rw es us) (hS:StOk dm n k ms lv who es us lo hi) (hz:ms=1->s8 us n=true) (hp:0<j8 n k es us lo hi) (hN:j8 n k es us lo hi<=400) (hr:∀r∈vlL dm n k ms lv who es us lo hi,Rg r):
  Con prog 22 [.pointer (some ⟨c0,0,none⟩)] H fun r H'=>Pl H H'/\∃m,SE H' 32 ceM r m/\TalP (vlL dm n k ms lv who es us lo hi) m:=by
 refine g9 mixed yp ?_;refine j4 (Ji (ok:=Rg) (ke:=shR) Ha rfl) rfl ?_;rintro v1 H1 ⟨l1,o1⟩;refine nmI ?_;simp only[cA,nA];obtain⟨g0,es0,cl0,rfl,zM,sK,hE0,tN⟩:=id o1;refine b4 (Zb g0) ?_;refine s5 (vs:=(stC dm n k ms lv who w rw lo hi)) Ea rfl rfl (l1 _ _ hs) rfl (show 0+12<=12 by decide) rfl ?_;simp only[cA,nA];refine Dz (Ij hM hS hz) l1 rfl fun v3 X1 H2 a1 w1 b1 c1 d1=> ?_;simp only[cA,nA];obtain⟨b,wts,rfl,hW⟩:=w1;refine Dz (ze hW hS hp hN) b1 rfl fun v4 X2 H3 a2 w2 b2 c2 d2=> ?_;simp only[cA,nA];obtain⟨z,c,lv',m,rfl,hA⟩:=w2;have xU:X1 g0=none:=d1 g0 (by rw[sK];exact fun h=>nomatch h) zM;have vV:X2 g0=none:=d2 g0 (by rw[c1 _ _ sK];exact fun h=>nomatch h) xU;have hC0:CntS X2 H3 (.map (some g0)) (vlL dm n k ms lv who es us lo hi) 0:=⟨[],⟨g0,es0,cl0,rfl,vV,c2 _ _ (c1 _ _ sK),hE0,tN⟩,fun r=>aD,(fun q hq=>nomatch hq)⟩;have hml:m.length=j8 n k es us lo hi:=hA.len;rw[<-PH.or_nil H3];refine Hz (X:=H3) (K:=PH.nil) (Ro:=X2) (fun pre vals X'=>vals=[]/\Pl X2 X'/\CntS X2 X' (.map (some g0)) (vlL dm n k ms lv who es us lo hi) pre.length) (fun _ _ _=>False) (zf hA hS hz (fun i hi=>ju hi) aA) zd (Ue _) rfl (fun _ _ _ h=>h.2.1) ⟨rfl,b2,hC0⟩ ?_ ?_ ?_
 ·rintro pre xs vals X' ⟨s,hs,rfl⟩ _ ⟨rfl,lX,hC⟩;refine⟨rfl,?_⟩;simp only[cA,nA];have rQ:pre.length<j8 n k es us lo hi:=by have:=(aH.1 hs).1;omega
  have qK:=zi (dm:=dm) (ms:=ms) (lv:=lv) (who:=who) rQ;have vD:=hr _ (aJ qK);have rZ:∀q,((vlL dm n k ms lv who es us lo hi).take pre.length).count q<=400:=fun q=>by
   have:=iM (a:=q) (l:=(vlL dm n k ms lv who es us lo hi).take pre.length);rw[bD,He]at this;omega
  generalize hvv:s0 dm n es us k ms lv who (y8 n k es us lo hi pre.length)=vv at qK vD;obtain⟨L,o3,yN,yO⟩:=hC;refine b4 (r4 _ _) ?_;have wN:(iw ((((vlL dm n k ms lv who es us lo hi).take pre.length).count vv:Nat):Int)=wd 0/\vv∉L.map (·.1))\/(vv,iw ((((vlL dm n k ms lv who es us lo hi).take pre.length).count vv:Nat):Int))∈L:=by
   by_cases h:vv∈L.map (·.1)
   ·obtain⟨q,hq,rfl⟩:=bK.1 h;right;rw[<-yO q hq];exact hq
   ·left;refine⟨?_,h⟩;rw[List.count_eq_zero.2 (fun h2=>h ((yN vv).2 h2))];rfl
  refine j6 (yk Ha (k:=vv) (u:=iw ((((vlL dm n k ms lv who es us lo hi).take pre.length).count vv:Nat):Int)) (vs:=[.map (some g0),shR vv]) rfl rfl rfl Ot vD zg o3.mk wN) (j0 (Bz rfl rfl) rfl) ?_;simp only[cA,nA];refine Bn (Xs 1 aA aA) rfl ?_;simp only[cA,nA];refine Bn (jv (a:=((((vlL dm n k ms lv who es us lo hi).take pre.length).count vv:Nat):Int)) (b:=1) aA aA (by have:=rZ vv;omega)) rfl ?_;simp only[cA,nA];refine g7 (g7 ?_);refine s7 (Zl _) rfl ?_;simp only[cA,nA];refine j4 (Up Ha (k:=vv) (v:=iw ((((vlL dm n k ms lv who es us lo hi).take pre.length).count vv+1:Nat):Int)) (vs:=[.map (some g0),shR vv,iw ((((vlL dm n k ms lv who es us lo hi).take pre.length).count vv+1:Nat):Int)]) rfl rfl rfl rfl Ot vD lX o3) (Dp (Bz rfl rfl) rfl (by rw[dD];rfl)) ?_;rintro _ H5 ⟨rfl,l5,o5,-⟩;refine nmI ?_;simp only[cA,nA];exact⟨rfl,l5,by rw[aL];exact CntS.put yN yO qK o5⟩
 ·rintro xs vals X' K' hxn hd _ ⟨rfl,lX,hC⟩;simp only[cA,nA];have rK:xs.length=(vlL dm n k ms lv who es us lo hi).length:=by rw[He];omega
  rw[rK]at hC;refine g5 (zh (hC.mono (PH.le_or X' K')) (fun e=>by have:=congrArg oD e;rw[He]at this;simp at this;omega) (by rw[He];exact hN)) (j7 (Bz rfl rfl)) ?_;rintro r H6 ⟨l6,m',sJ,hT⟩;refine nmI ?_;simp only[cA,nA];exact c9 rfl ⟨a1.trans (a2.trans (lX.trans ((PH.le_or X' K').trans l6))),m',sJ,hT⟩
 ·exact fun _ _ _ _ _ _ _ h=>h.elim
end
section
variable {dm:Dm} {H B:PH} {n k ms lv who:Nat} {es:List (Nat×Nat)} {us:List Un} {w rw wts u v:Value} {lo hi:Int} {b i:Nat} {p:List Int} {l:List Rat}
def PI:q8 prog 22=true:=aB
def Zm:Ii prog 21 56 39 36 20 ((prog.funcs[21]?).getD default) ((prog.funcs[56]?).getD default) (Gz ((prog.funcs[56]?).getD default).body):=⟨aB,aB,aB,aB,aB,aB,aB,aB,aB,aB⟩
def jw:CcT prog 39 36 (.slice none 0 0):=⟨aB,aB,aB,aB,aB,aB,aB,fun _=>oDt aB⟩
def PK {H:PH} {v:Value} {m:List MaT} (h:SE H 32 ceM v m):v.cells.size=prog.cellsOf 39/\i8 v.cells/\rdV prog 39 v.cells=v:=by
 have h1:p8 prog 39=false:=aB;have h2:prog.cellsOf 39=1:=aB;refine⟨by rw[h2];exact h.one.1,h.one.2,?_⟩;unfold rdV;rw[h1,h.cells];rfl
def jx (hM:StM H w rw es us) (hS:StOk dm n k ms lv who es us lo hi) (hz:ms=1->s8 us n=true) (hp:0<j8 n k es us lo hi) (hN:j8 n k es us lo hi<=400) (hr:∀r∈vlL dm n k ms lv who es us lo hi,Rg r):
  Con prog 8 [stV dm n k ms lv who w rw lo hi] H fun r H'=>Pl H H'/\∃t m,r= .tuple #[t,ii 0]/\SE H' 32 ceM t m/\TalP (vlL dm n k ms lv who es us lo hi) m:=by
 refine g9 mixed OC ?_;refine b4 (Ep (t7 hM.gr) hM.ro.one) ?_;refine o0 (cs:=(stC dm n k ms lv who w rw lo hi).toArray) rfl fun a ha=> ?_;simp only[cA,nA];have la:=PH.le_put ha (.cells (stC dm n k ms lv who w rw lo hi).toArray 30 (0,0));refine x5 (Ai (vs:=[.pointer (some ⟨a,0,none⟩)]) rfl rfl) rfl ?_;simp only[cA,nA];refine g5 (Va (caps:=[.pointer (some ⟨a,0,none⟩)]) mixed Zm jw PI (c3a (PH.put_self _ _ _) (hM.mono la) hS hz hp hN hr) (fun _ _ h=>PK h.2.choose_spec.1)) rfl ?_;rintro _ H4 ⟨t,⟨l4,m,sJ,hT⟩,rfl⟩;refine nmI ?_;simp only[cA,nA];refine g7 (g7 ?_);exact c9 rfl ⟨la.trans l4,t,m,rfl,sJ,hT⟩
def PL:q8 prog 29=true:=aB
def zj:Ii prog 28 65 83 36 20 ((prog.funcs[28]?).getD default) ((prog.funcs[65]?).getD default) (Gz ((prog.funcs[65]?).getD default).body):=⟨aB,aB,aB,aB,aB,aB,aB,aB,aB,aB⟩
def PM:CcT prog 83 36 (.agg (Array.replicate 32 (.int .u64 0))):=⟨aB,aB,aB,aB,aB,aB,aB,fun h=>absurd (show p8 prog 83=true by kernel_rfl) (by rw[h];decide)⟩
def Ou (a c:Rat):Value:= .agg (shw a++shw c)
def zk (a c:Rat):(Ou a c).cells.size=32/\i8 (Ou a c).cells:=⟨by show(shw a++shw c).size=32;rw[cQ,Ao,Ao],Wy (Oo _) (Oo _)⟩
def e2A (a c:Rat):(Ou a c).cells.size=prog.cellsOf 83/\i8 (Ou a c).cells/\rdV prog 83 (Ou a c).cells=Ou a c:=by
 have h1:p8 prog 83=true:=aB;have h2:prog.cellsOf 83=32:=aB;refine⟨by rw[h2];exact(zk a c).1,(zk a c).2,?_⟩;unfold rdV;rw[h1];rfl
structure zl (n k:Nat) (es:List (Nat×Nat)) (us:List Un) (lo hi:Int) (p:List Int):Prop where
 ok:PlOk n k p
 fit:Bl n es (wlU us n) lo hi (k:Nat) p=true
noncomputable def rkA (dm:Dm) (n k ms lv who:Nat) (es:List (Nat×Nat)) (us:List Un) (lo hi:Int) (p:List Int) (m:List MaT):Rat:=qN (Lh (vlL dm n k ms lv who es us lo hi) (s0 dm n es us k ms lv who p) m) (j8 n k es us lo hi)
noncomputable def rkB (dm:Dm) (n k ms lv who:Nat) (es:List (Nat×Nat)) (us:List Un) (lo hi:Int) (p:List Int) (m:List MaT):Rat:=qN (Oq (vlL dm n k ms lv who es us lo hi) (s0 dm n es us k ms lv who p) m) (j8 n k es us lo hi)
def c3c {a c:Nat} (hs:H a=some (.cells (stC dm n k ms lv who w rw lo hi).toArray 30 (0,0))) (hc:H c=some (.cells #[u] 49 (0,0))) (hu:SI H u p) (ho:zl n k es us lo hi p) (hM:StM H w rw es us) (hS:StOk dm n k ms lv who es us lo hi) (hz:ms=1->s8 us n=true) (hp:0<j8 n k es us lo hi) (hN:j8 n k es us lo hi<=400) (hr:∀r∈vlL dm n k ms lv who es us lo hi,Rg r) (vL:Rg (s0 dm n es us k ms lv who p)):
  Con prog 29 [.pointer (some ⟨a,0,none⟩),.pointer (some ⟨c,0,none⟩)] H fun r H'=>Pl H H'/\∃m,TalP (vlL dm n k ms lv who es us lo hi) m/\r=Ou (rkA dm n k ms lv who es us lo hi p m) (rkB dm n k ms lv who es us lo hi p m):=by
 refine g9 mixed yq ?_;have sU:bdE n (wlU us n) lo hi (k:Nat)=0:=by
  unfold bdE;rw[if_pos ⟨hS.bd.len,hS.bd.b0,hS.bd.b1,hS.bd.d1,hS.bd.d8,hS.bd.ok⟩]
 refine s5 (vs:=(stC dm n k ms lv who w rw lo hi)) Ea rfl rfl hs rfl (show 0+12<=12 by decide) rfl ?_;simp only[cA,nA];refine g5 (Ij hM hS hz) rfl ?_;rintro _ H1 ⟨l1,b,wts,rfl,hW⟩;refine nmI ?_;simp only[cA,nA];refine j9 ?_;simp only[cA,nA];refine i0 Bv ?_;simp only[cA,nA];refine i0 Re ?_;simp only[cA,nA];refine s5 (vs:=[ii (n:Nat),w]) Lc rfl rfl hW.bk rfl (show 0+0+0+2<=17 by decide) rfl ?_;simp only[cA,nA];refine j9 ?_;simp only[cA,nA];refine i0 Lj ?_;simp only[cA,nA];refine s5 (vs:=[wts,ii lo,ii hi,ii (k:Nat)]) Vh rfl rfl hW.bk rfl (show 0+12+4<=17 by decide) rfl ?_;simp only[cA,nA];refine i7 Jj rfl rfl (l1 _ _ hc) rfl rfl ?_;simp only[cA,nA];refine i9 (MM hW.mm.tb hW.mm.gr hS.gv hW.wt (hu.mono l1)) rfl fun H2 l2=> ?_;simp only[cA,nA];rw[sU,ho.fit];refine g7 (g7 ?_);refine s7 (OU _) rfl ?_;simp only[cA,nA];refine b9 ?_;refine s7 (OS 8) rfl ?_;simp only[cA,nA];refine s5 (vs:=(stC dm n k ms lv who w rw lo hi)) Ea rfl rfl ((l1.trans l2) _ _ hs) rfl (show 0+12<=12 by decide) rfl ?_;simp only[cA,nA];refine g5 (jx (hM.mono (l1.trans l2)) hS hz hp hN hr) rfl ?_;rintro _ H3 ⟨l3,t,m,rfl,sJ,hT⟩;refine nmI ?_;simp only[cA,nA];refine g7 (g7 ?_);refine s7 (c7V _) rfl ?_;simp only[cA,nA];refine i7 Jj rfl rfl ((l1.trans (l2.trans l3)) _ _ hc) rfl rfl ?_;simp only[cA,nA];refine i9 (zc (hW.mono (l2.trans l3)) hS hz (hu.mono (l1.trans (l2.trans l3))) ho.ok) rfl fun H4 l4=> ?_;simp only[cA,nA];refine i9 (c2R (sJ.mono l4) hT (by rw[He];exact hp) (by rw[He];exact hN) vL) rfl fun H5 l5=> ?_;simp only[cA,nA];refine g7 (g7 (g7 ?_));refine b4 (r4 _ _) ?_;refine b4 (r4 _ _) ?_;refine s7 (c7U) rfl ?_;simp only[cA,nA];exact c9 rfl ⟨l1.trans (l2.trans (l3.trans (l4.trans l5))),m,hT,by unfold Ou rkA rkB;rw[<-He (dm:=dm) (ms:=ms) (lv:=lv) (who:=who),<-Le,<-Le];rfl⟩
end
end Go.Z
namespace Go.GS
section
variable {C:Type}
def dx (c:C) (d:List (C->Int)->Int):List (C->Int)->List (C->Int)->Int
 |_,[]=>0
 |pre,x::l=>x c*d (pre++l)-dx c d (pre++[x]) l
def dt:List C->List (C->Int)->Int
 |[],[]=>1
 |[],_::_=>0
 |c::cs,l=>dx c (dt cs) [] l
def d8c {l:List (C->Int)} (h:l≠[]):dt [] l=0:=by
 match l,h with
 |_::_,_=>rfl
def jy (l1 l2:List (C->Int)) (x:C->Int):dt [] (l1++x::l2)=0:=d8c aD
def d8d {c:C} {d:List (C->Int)->Int} {x r s:C->Int} {t:Int} (h:x c=r c+t*s c) (hd:∀l1 l2,d (l1++x::l2)=d (l1++r::l2)+t*d (l1++s::l2)):∀(l1 l2 pre:List (C->Int)),dx c d pre (l1++x::l2)=dx c d pre (l1++r::l2)+t*dx c d pre (l1++s::l2):=by
 have hb:∀(l p1 p2:List (C->Int)),dx c d (p1++x::p2) l=dx c d (p1++r::p2) l+t*dx c d (p1++s::p2) l:=fun l=>by
  induction l with
  |nil=>intro p1 p2;simp[dx]
  |cons y l ih=>
   intro p1 p2;simp only[dx];have h1:=hd p1 (p2++l);have h2:=ih p1 (p2++[y]);simp only[bL,dE]at h1 h2⊢;rw[h1,h2]
   grind
 intro l1;induction l1 with
 |nil=>
  intro l2 pre;have h2:=hb l2 pre [];simp only[cU,dx];have h3:=h2;rw[h2,h];have h4:=hd pre l2
  grind
 |cons y l1 ih=>
  intro l2 pre;simp only[dE,dx];have h1:=hd (pre++l1) l2;simp only[bL]at h1;rw[ih l2 (pre++[y]),h1]
  grind
def Ik {x r s:C->Int} {t:Int}:∀{cs:List C} (_:∀c∈cs,x c=r c+t*s c) (l1 l2:List (C->Int)),dt cs (l1++x::l2)=dt cs (l1++r::l2)+t*dt cs (l1++s::l2)
 |[],_,l1,l2=>by rw[jy,jy,jy];simp
 |c::cs,h,l1,l2=>d8d (h c aD) (fun a b=>Ik (fun e he=>h e (by simp[he])) a b) l1 l2 []
def c3d {x r:C->Int} {cs:List C} (h:∀c∈cs,x c=r c) (l1 l2:List (C->Int)):dt cs (l1++x::l2)=dt cs (l1++r::l2):=by
 have:=Ik (x:=x) (r:=r) (s:=r) (t:=0) (fun c hc=>by rw[h c hc];simp) l1 l2;simpa using this
def d8e {c:C} {d:List (C->Int)->Int} {x y:C->Int} (h:x c=y c) (hd:∀l1 l2,d (l1++x::y::l2)=0) (he:∀l1 l2,d (l1++x::l2)=d (l1++y::l2)):∀(l1 l2 pre:List (C->Int)),dx c d pre (l1++x::y::l2)=0:=by
 have hb:∀(l p1 p2:List (C->Int)),dx c d (p1++x::y::p2) l=0:=fun l=>by
  induction l with
  |nil=>intro p1 p2;simp[dx]
  |cons z l ih=>
   intro p1 p2;simp only[dx];have h1:=hd p1 (p2++l);have h2:=ih p1 (p2++[z]);simp only[bL,dE]at h1 h2⊢;rw[h1,h2];simp
 intro l1;induction l1 with
 |nil=>
  intro l2 pre;have h2:=hb l2 pre [];simp only[cU,dx,bL,dE]at h2⊢;rw[h2,h,he pre l2]
  grind
 |cons z l1 ih=>
  intro l2 pre;simp only[dE,dx];have h1:=hd (pre++l1) l2;simp only[bL]at h1;rw[ih l2 (pre++[z]),h1];simp
def Zn {x y:C->Int}:∀{cs:List C} (_:∀c∈cs,x c=y c) (l1 l2:List (C->Int)),dt cs (l1++x::y::l2)=0
 |[],_,l1,l2=>jy _ _ _
 |c::cs,h,l1,l2=>d8e (h c aD) (fun a b=>Zn (fun e he=>h e (by simp[he])) a b) (fun a b=>c3d (fun e he=>h e (by simp[he])) a b) l1 l2 []
def zm (cs:List C) (x y:C->Int) (l1 l2:List (C->Int)):dt cs (l1++x::y::l2)= -dt cs (l1++y::x::l2):=by
 have hz:∀c∈cs,(fun c=>x c+y c) c=x c+1*y c:=fun c _=>by simp
 have h0:=Zn (x:=fun c=>x c+y c) (y:=fun c=>x c+y c) (cs:=cs) (fun _ _=>rfl) l1 l2;rw[Ik hz]at h0;have h1:=Ik hz (l1++[x]) l2;have h2:=Ik hz (l1++[y]) l2;simp only[bL,dE,cU]at h1 h2;rw[h1,h2,Zn (x:=x) (y:=x) (fun _ _=>rfl),Zn (x:=y) (y:=y) (fun _ _=>rfl)]at h0;omega
def jz {x y:C->Int} {cs:List C} (h:∀c∈cs,x c=y c) (l3:List (C->Int)):∀(l2 l1:List (C->Int)),dt cs (l1++x::(l2++y::l3))=0
 |[],l1=>Zn h l1 l3
 |w::l2,l1=>by
  rw[dE,zm];have:=jz h l3 l2 (l1++[w]);simp only[bL,dE,cU]at this;rw[this];simp
def zn {x y z:C->Int} {t:Int} {cs:List C} (h:∀c∈cs,z c=x c+t*y c) (l1 l2 l3:List (C->Int)):dt cs (l1++z::(l2++y::l3))=dt cs (l1++x::(l2++y::l3)):=by
 rw[Ik h,jz (fun _ _=>rfl)];simp
def PN {x y z:C->Int} {t:Int} {cs:List C} (h:∀c∈cs,z c=x c+t*y c) (l1 l2 l3:List (C->Int)):dt cs (l1++y::(l2++z::l3))=dt cs (l1++y::(l2++x::l3)):=by
 have h1:=Ik h (l1++y::l2) l3;simp only[bL,dE]at h1;rw[h1,jz (fun _ _=>rfl)];simp
def ex (r:C->Int) (l:List (C->Int)):List C->List C->Int
 |_,[]=>0
 |pre,c::cs=>r c*dt (pre++cs) l-ex r l (pre++[c]) cs
def PP {c:C} {d e g:List (C->Int)->Int} {t:Int} (h:∀l,g l=t*d l-e l):∀(l pre:List (C->Int)),dx c g pre l=t*dx c d pre l-dx c e pre l
 |[],_=>by simp[dx]
 |x::l,pre=>by
  simp only[dx];rw[PP h l (pre++[x]),h]
  grind
def PQ {c:C}:∀(l pre:List (C->Int)),dx c (fun _=>0) pre l=0
 |[],_=>rfl
 |x::l,pre=>by simp only[dx];rw[PQ l];simp
def PR {c:C} {d:List (C->Int)->Int} (r:C->Int):∀(l pre:List (C->Int)),dx c d (r::pre) l=dx c (fun m=>d (r::m)) pre l
 |[],_=>rfl
 |x::l,pre=>by
  simp only[dx];rw[<-PR r l (pre++[x])];rfl
def PT {c:C} {r:C->Int} (l:List (C->Int)):∀(cs pre:List C),dx c (fun m=>ex r m pre cs) [] l=ex r l (c::pre) cs
 |[],pre=>by simp only[ex];exact PQ l []
 |e::cs,pre=>by
  rw[PP (g:=fun m=>ex r m pre (e::cs)) (d:=dt (pre++cs)) (e:=fun m=>ex r m (pre++[e]) cs) (t:=r e) (fun m=>rfl),PT l cs (pre++[e])];rfl
def ka (r:C->Int):∀(cs:List C) (l:List (C->Int)),dt cs (r::l)=ex r l [] cs
 |[],_=>rfl
 |c::cs,l=>by
  show dx c (dt cs) [] (r::l)=_;simp only[dx,ex,cU];have h:=PR (c:=c) (d:=dt cs) r l [];rw[h,show(fun m=>dt cs (r::m))=fun m=>ex r m [] cs from funext fun m=>ka r cs m,PT]
end
def PU {R C:Type} (f:R->C->Int) (r:R) (l:List R) (ih:∀cs:List C,dt cs (l.map f)=dt l (cs.map fun c s=>f s c)):∀(cs pre:List C),ex (f r) (l.map f) pre cs=dx r (dt l) (pre.map fun c s=>f s c) (cs.map fun c s=>f s c)
 |[],_=>rfl
 |c::cs,pre=>by
  simp only[ex,aU,dx];rw[ih,PU f r l ih cs (pre++[c]),bI,bI];rfl
def PV {R C:Type} (f:R->C->Int):∀(l:List R) (cs:List C),dt cs (l.map f)=dt l (cs.map fun c s=>f s c)
 |[],[]=>rfl
 |[],c::cs=>rfl
 |r::l,cs=>by
  rw[aU,ka];exact PU f r l (fun cs=>PV f l cs) cs []
def Zo {C:Type} (l:List (C->Int)) (cs:List C):dt cs l=dt l (cs.map fun c s=>s c):=by
 have:=PV (fun(x:C->Int) c=>x c) l cs;simpa using this
section
variable {C:Type}
def d4m {l:List (C->Int)} {a b:C} (h:∀r∈l,r a=r b) (c1 c2 c3:List C):dt (c1++a::(c2++b::c3)) l=0:=by
 rw[Zo];simp only[bI,aU];exact jz (fun r hr=>h r hr) _ _ _
def d4n {l:List (C->Int)} {a b z:C} (h:∀r∈l,r z=r a+r b) (c1 c2 c3:List C):dt (c1++z::(c2++b::c3)) l=dt (c1++a::(c2++b::c3)) l:=by
 rw[Zo,Zo l];simp only[bI,aU];exact zn (t:=1) (fun r hr=>by simp[h r hr]) _ _ _
def c7X {l:List (C->Int)} {a b z:C} (h:∀r∈l,r z=r a+r b) (c1 c2 c3:List C):dt (c1++b::(c2++z::c3)) l=dt (c1++b::(c2++a::c3)) l:=by
 rw[Zo,Zo l];simp only[bI,aU];exact PN (t:=1) (fun r hr=>by simp[h r hr]) _ _ _
def sg:Nat->Int
 |0=>1
 |n+1=> -sg n
def PX:∀n,sg n*sg n=1
 |0=>rfl
 |n+1=>by simp only[sg];have:=PX n;grind
def PY (cs:List C) (x:C->Int) (r2:List (C->Int)):∀(r1 p:List (C->Int)),dt cs (p++(r1++x::r2))=sg r1.length*dt cs (p++x::(r1++r2))
 |[],p=>by simp[sg]
 |y::r1,p=>by
  have h:=PY cs x r2 r1 (p++[y]);simp only[bL,dE,cU]at h⊢;rw[h,zm];simp only[aO,sg]
  grind
def zp {r:C->Int} {l:List (C->Int)}:∀{cs:List C} (_:∀c∈cs,r c=0) (pre:List C),ex r l pre cs=0
 |[],_,_=>rfl
 |c::cs,h,pre=>by
  simp only[ex];rw[h c aD,zp (fun e he=>h e (by simp[he]))];simp
def PZ {r:C->Int} {l:List (C->Int)} {w:C} {c2:List C} (h2:∀c∈c2,r c=0):∀{c1:List C} (_:∀c∈c1,r c=0) (pre:List C),ex r l pre (c1++w::c2)=sg c1.length*(r w*dt (pre++(c1++c2)) l)
 |[],_,pre=>by
  simp only[cU,ex,sg,bR];rw[zp h2];simp
 |c::c1,h,pre=>by
  simp only[dE,ex,aO,sg];rw[h c aD,PZ h2 (fun e he=>h e (by simp[he])) (pre++[c])];simp only[bL,dE,cU]
  grind
def d4o {r:C->Int} {w:C} {c1 c2:List C} {r1 r2:List (C->Int)} (h1:∀c∈c1,r c=0) (h2:∀c∈c2,r c=0) (hl:r1.length=c1.length):dt (c1++w::c2) (r1++r::r2)=r w*dt (c1++c2) (r1++r2):=by
 have h:=PY (c1++w::c2) r r2 r1 [];simp only[cU]at h;rw[h,ka,PZ h2 h1,hl];have:=PX c1.length;simp only[cU]
 grind
def Di:List Int->List (C->Int)->C->Int
 |w::ws,x::l,c=>w*x c+Di ws l c
 |_,_,_=>0
def QA (d:List (C->Int)->Int):∀(l pre:List (C->Int)),∃ws:List Int,ws.length=l.length/\∀c,dx c d pre l=Di ws l c
 |[],_=>⟨[],rfl,fun _=>rfl⟩
 |x::l,pre=>by
  obtain⟨ws,hl,hw⟩:=QA d l (pre++[x]);refine⟨d (pre++l)::ws.map (fun w=> -w),by simp[hl],fun c=> ?_⟩;simp only[dx,Di];rw[hw];have hn:∀(us:List Int) (m:List (C->Int)),Di (us.map fun w=> -w) m c= -Di us m c:=fun us=>by
   induction us with
   |nil=>intro m;simp[Di]
   |cons u us ih=>
    intro m;cases m with
    |nil=>simp[Di]
    |cons y m=>simp only[aU,Di];rw[ih];grind
  rw[hn]
  grind
def QB {cs:List C} {t:Int}:∀(m p l1:List (C->Int)) (ws:List Int) (r z:C->Int) (_:ws.length=m.length) (_:∀c∈cs,z c=t*r c+Di ws m c),dt cs (l1++z::(p++m))=t*dt cs (l1++r::(p++m))
 |[],p,l1,ws,r,z,hl,h=>by
  have h0:=Ik (x:=z) (r:=fun _=>0) (s:=r) (t:=t) (cs:=cs) (fun c hc=>by rw[h c hc];cases ws<;>simp[Di]) l1 (p++[]);have h1:=Ik (x:=fun _:C=>0) (r:=fun _=>0) (s:=fun _=>0) (t:=1) (cs:=cs) (fun c hc=>aD) l1 (p++[]);rw[h0];omega
 |a::m,p,l1,w::ws,r,z,hl,h=>by
  have h1:=QB (cs:=cs) (t:=t) m (p++[a]) l1 ws r (fun c=>t*r c+Di ws m c) (by simpa using hl) (fun _ _=>rfl);simp only[bL,dE,cU]at h1;rw[<-h1];refine zn (t:=w) (fun c hc=> ?_) l1 p m;rw[h c hc];simp only[Di];grind
def d4p (B:List C) (A:List (C->Int)) (r s:C->Int) (c d:C):dt B A*dt (d::c::B) (s::r::A)=dt (c::B) (r::A)*dt (d::B) (s::A)-dt (d::B) (r::A)*dt (c::B) (s::A):=by
 obtain⟨ws,hl,hw⟩:=QA (dt B) A [r];have hg:∀e,dt (e::B) (r::A)=dt B A*r e+Di (ws.map fun w=> -w) A e:=fun e=>by
  show dx e (dt B) [] (r::A)=_;simp only[dx,cU];rw[hw];have hn:∀(us:List Int) (m:List (C->Int)),Di (us.map fun w=> -w) m e= -Di us m e:=fun us=>by
   induction us with
   |nil=>intro m;simp[Di]
   |cons u us ih=>
    intro m;cases m with
    |nil=>simp[Di]
    |cons y m=>simp only[aU,Di];rw[ih];grind
  rw[hn];grind
 have h1:=QB (cs:=d::c::B) (t:=dt B A) A [] [s] (ws.map fun w=> -w) r (fun e=>dt (e::B) (r::A)) (by simpa using hl) (fun e _=>hg e);simp only[cU,dE]at h1;rw[<-h1];have hz:∀e∈B,dt (e::B) (r::A)=0:=fun e he=>by
  obtain⟨b1,b2,rfl⟩:=iU he;exact d4m (a:=e) (b:=e) (fun _ _=>rfl) [] b1 b2
 have h2:=zm (d::c::B) s (fun e=>dt (e::B) (r::A)) [] A;simp only[cU]at h2;rw[h2,ka];simp only[ex,cU,dE];rw[zp hz]
 grind
end
def dl (e:Nat×Nat) (u:Nat->Int):Int:=u e.1-u e.2
def Fm:List (Nat×Nat)->(Nat->Int)->(Nat->Int)->Int
 |[],_,_=>0
 |e::E,u,v=>dl e u*dl e v+Fm E u v
def Il (u v:Nat->Int):Nat->Int:=fun a=>u a+v a
def kf (e:Nat×Nat) (u v:Nat->Int):dl e (Il u v)=dl e u+dl e v:=by unfold dl Il;omega
def QC (E:List (Nat×Nat)) (u v w:Nat->Int):Fm E u (Il v w)=Fm E u v+Fm E u w:=by
 induction E with
 |nil=>rfl
 |cons e E ih=>simp only[Fm];rw[ih,kf];grind
def QD (E:List (Nat×Nat)) (u v w:Nat->Int):Fm E (Il v w) u=Fm E v u+Fm E w u:=by
 induction E with
 |nil=>rfl
 |cons e E ih=>simp only[Fm];rw[ih,kf];grind
def Dv (E:List (Nat×Nat)) (V:List (Nat->Int)):Int:=dt V (V.map (Fm E))
def QE {e:Nat×Nat} {E:List (Nat×Nat)} {u:Nat->Int} (h:dl e u=0):Fm (e::E) u=Fm E u:=funext fun v=>by simp only[Fm];rw[h];simp
def kg {e:Nat×Nat} {E:List (Nat×Nat)}:∀{V:List (Nat->Int)} (_:∀u∈V,dl e u=0),V.map (Fm (e::E))=V.map (Fm E)
 |[],_=>rfl
 |u::V,h=>by rw[aU,aU,QE (h u aD),kg fun x hx=>h x (by simp[hx])]
def QF {e:Nat×Nat} {E:List (Nat×Nat)} {V:List (Nat->Int)} (h:∀u∈V,dl e u=0):Dv (e::E) V=Dv E V:=by
 unfold Dv;rw[kg h]
def zq {e:Nat×Nat} {E:List (Nat×Nat)} {l1 l2:List (Nat->Int)} {w:Nat->Int} (hw:dl e w*dl e w=1) (h1:∀u∈l1,dl e u=0) (h2:∀u∈l2,dl e u=0):Dv (e::E) (l1++w::l2)=Dv E (l1++w::l2)+Dv E (l1++l2):=by
 unfold Dv;simp only[bI,aU];rw[kg h1,kg h2,Ik (x:=Fm (e::E) w) (r:=Fm E w) (s:=dl e) (t:=dl e w) (fun c _=>by simp only[Fm];grind),d4o h1 h2 aD]
 grind
def d8j {e:Nat×Nat} {E:List (Nat×Nat)} {l1 l2 l3:List (Nat->Int)} {u w:Nat->Int} (hw:dl e w*dl e w=1) (hu:dl e u+dl e w=0) (h1:∀u∈l1,dl e u=0) (h2:∀u∈l2,dl e u=0) (h3:∀u∈l3,dl e u=0):
  Dv (e::E) (l1++u::(l2++w::l3))=Dv E (l1++u::(l2++w::l3))+Dv E (l1++Il u w::(l2++l3)):=by
 have hm:∀E',Dv E' (l1++Il u w::(l2++w::l3))=Dv E' (l1++u::(l2++w::l3)):=fun E'=>by
  unfold Dv;rw[d4n (fun r hr=>by obtain⟨v,_,rfl⟩:=bK.1 hr;exact QC E' v u w)];simp only[bI,aU];exact zn (t:=1) (fun c _=>by rw[QD];omega) _ _ _
 rw[<-hm,<-hm];have h:=zq (E:=E) (l1:=l1++Il u w::l2) (l2:=l3) hw (fun v hv=>by
  rcases bC.1 hv with hv|hv
  ·exact h1 v hv
  ·rcases aX.1 hv with rfl|hv
   ·rw[kf];exact hu
   ·exact h2 v hv) h3
 simpa using h
def d4q {e:Nat×Nat} {E:List (Nat×Nat)} {l1 l2 l3:List (Nat->Int)} {u w:Nat->Int} (hw:dl e w*dl e w=1) (hu:dl e u+dl e w=0) (h1:∀u∈l1,dl e u=0) (h2:∀u∈l2,dl e u=0) (h3:∀u∈l3,dl e u=0):
  Dv (e::E) (l1++w::(l2++u::l3))=Dv E (l1++w::(l2++u::l3))+Dv E (l1++(l2++Il u w::l3)):=by
 have hm:∀E',Dv E' (l1++w::(l2++Il u w::l3))=Dv E' (l1++w::(l2++u::l3)):=fun E'=>by
  unfold Dv;rw[c7X (fun r hr=>by obtain⟨v,_,rfl⟩:=bK.1 hr;exact QC E' v u w)];simp only[bI,aU];exact PN (t:=1) (fun c _=>by rw[QD];omega) _ _ _
 rw[<-hm,<-hm];exact zq (E:=E) (l1:=l1) (l2:=l2++Il u w::l3) hw h1 (fun v hv=>by
  rcases bC.1 hv with hv|hv
  ·exact h2 v hv
  ·rcases aX.1 hv with rfl|hv
   ·rw[kf];exact hu
   ·exact h3 v hv)
def cv (lab:Nat->Nat) (x:Nat):Nat->Int:=fun a=>if lab a=x then 1 else 0
def mg (lab:Nat->Nat) (q p:Nat):Nat->Nat:=fun a=>if lab a=q then p else lab a
def Dg (E:List (Nat×Nat)) (lab:Nat->Nat) (V:List Nat):Int:=Dv E (V.map (cv lab))
def Ov (e:Nat×Nat) (lab:Nat->Nat) (x:Nat):dl e (cv lab x)=(if lab e.1=x then 1 else 0)-(if lab e.2=x then 1 else 0):=rfl
def d8k {e:Nat×Nat} {lab:Nat->Nat} {x:Nat} (h1:lab e.1≠x) (h2:lab e.2≠x):dl e (cv lab x)=0:=by rw[Ov,if_neg h1,if_neg h2];rfl
def c7Y {lab:Nat->Nat} {q p x:Nat} (h1:x≠p) (h2:x≠q):cv (mg lab q p) x=cv lab x:=funext fun a=>by
 unfold cv mg;by_cases h:lab a=q
 ·rw[if_pos h,if_neg (fun hh=>h1 hh.symm),if_neg (by rw[h];exact fun hh=>h2 hh.symm)]
 ·rw[if_neg h]
def QG {lab:Nat->Nat} {q p:Nat} (h:p≠q):cv (mg lab q p) p=Il (cv lab p) (cv lab q):=funext fun a=>by
 show(if mg lab q p a=p then(1:Int)else 0)=(if lab a=p then 1 else 0)+(if lab a=q then 1 else 0);unfold mg;by_cases h1:lab a=q
 ·rw[if_pos h1,if_pos rfl,if_neg (by rw[h1];exact fun hh=>h hh.symm),if_pos h1];rfl
 ·rw[if_neg h1,if_neg h1];omega
def Ll {lab:Nat->Nat} {q p:Nat} {l:List Nat} (h1:p∉l) (h2:q∉l):l.map (cv (mg lab q p))=l.map (cv lab):=dA fun x hx=>c7Y (fun hh=>h1 (hh ▸ hx)) (fun hh=>h2 (hh ▸ hx))
def zt {e:Nat×Nat} {lab:Nat->Nat} {l:List Nat} (h1:lab e.1∉l) (h2:lab e.2∉l):∀u∈l.map (cv lab),dl e u=0:=fun u hu=>by
 obtain⟨x,hx,rfl⟩:=bK.1 hu;exact d8k (fun hh=>h1 (hh ▸ hx)) (fun hh=>h2 (hh ▸ hx))
section
variable {e:Nat×Nat} {E:List (Nat×Nat)} {lab:Nat->Nat} {V l1 l2 l3:List Nat} {p q:Nat}
def QH (h:lab e.1=lab e.2):Dg (e::E) lab V=Dg E lab V:=QF fun u hu=>by
 obtain⟨x,hx,rfl⟩:=bK.1 hu;rw[Ov,h];omega
def zu (h1:lab e.1∉V) (h2:lab e.2∉V):Dg (e::E) lab V=Dg E lab V:=QF (zt h1 h2)
def Ends (lab:Nat->Nat) (e:Nat×Nat) (p q:Nat):Prop:=p≠q/\(lab e.1=p/\lab e.2=q\/lab e.1=q/\lab e.2=p)
def Ends.sym (h:Ends lab e p q):Ends lab e q p:=⟨fun hh=>h.1 hh.symm,h.2.symm⟩
def Ends.off (h:Ends lab e p q) {l:List Nat} (h1:p∉l) (h2:q∉l):∀u∈l.map (cv lab),dl e u=0:=by
 rcases h.2 with⟨a,b⟩|⟨a,b⟩
 ·exact zt (by rw[a];exact h1) (by rw[b];exact h2)
 ·exact zt (by rw[a];exact h2) (by rw[b];exact h1)
def Ends.sq (h:Ends lab e p q):dl e (cv lab p)*dl e (cv lab p)=1/\dl e (cv lab q)+dl e (cv lab p)=0:=by
 rw[Ov,Ov];rcases h.2 with⟨a,b⟩|⟨a,b⟩
 ·rw[a,b,if_pos rfl,if_neg fun hh=>h.1 hh.symm,if_neg h.1,if_pos rfl];decide
 ·rw[a,b,if_pos rfl,if_neg fun hh=>h.1 hh.symm,if_neg h.1,if_pos rfl];decide
def d8m (h:Ends lab e p q) (sL:p∉l1) (qG:p∉l2) (tX:q∉l1) (uM:q∉l2):Dg (e::E) lab (l1++p::l2)=Dg E lab (l1++p::l2)+Dg E (mg lab p q) (l1++l2):=by
 unfold Dg;simp only[bI,aU];rw[zq h.sq.1 (h.off sL tX) (h.off qG uM),Ll tX sL,Ll uM qG]
def d8n (h:Ends lab e p q) (sL:p∉l1) (qG:p∉l2) (hp3:p∉l3) (tX:q∉l1) (uM:q∉l2) (uZ:q∉l3):Dg (e::E) lab (l1++p::(l2++q::l3))=Dg E lab (l1++p::(l2++q::l3))+Dg E (mg lab q p) (l1++p::(l2++l3)):=by
 unfold Dg;simp only[bI,aU];rw[d8j h.sym.sq.1 (by have:=h.sq.2;omega) (h.off sL tX) (h.off qG uM) (h.off hp3 uZ),Ll sL tX,Ll qG uM,Ll hp3 uZ,QG h.1]
def d4r (h:Ends lab e p q) (sL:p∉l1) (qG:p∉l2) (hp3:p∉l3) (tX:q∉l1) (uM:q∉l2) (uZ:q∉l3):Dg (e::E) lab (l1++q::(l2++p::l3))=Dg E lab (l1++q::(l2++p::l3))+Dg E (mg lab q p) (l1++(l2++p::l3)):=by
 unfold Dg;simp only[bI,aU];rw[d4q h.sym.sq.1 (by have:=h.sq.2;omega) (h.off sL tX) (h.off qG uM) (h.off hp3 uZ),Ll sL tX,Ll qG uM,Ll hp3 uZ,QG h.1]
end
def Fg (V:List Nat) (q:Nat):List Nat:=V.filter (fun x=>x !=q)
def kh {V:List Nat} {q:Nat} (h:q∉V):Fg V q=V:=List.filter_eq_self.2 fun x hx=>by simp;exact fun hh=>h (hh ▸ hx)
def zw (l m:List Nat) (q:Nat):Fg (l++m) q=Fg l q++Fg m q:=List.filter_append ..
def d4s (l:List Nat) (q:Nat):Fg (q::l) q=Fg l q:=by unfold Fg;simp
def Zp {V:List Nat} {q:Nat} (h:V.Nodup):(Fg V q).Nodup:=h.filter _
section
variable {e:Nat×Nat} {E:List (Nat×Nat)} {lab:Nat->Nat} {V l:List Nat} {p q:Nat}
def Zq (h:Ends lab e p q) (hq:q∈V) (hn:V.Nodup):Dg (e::E) lab V=Dg E lab V+Dg E (mg lab q p) (Fg V q):=by
 obtain⟨l1,l2,rfl⟩:=iU hq;rw[eI]at hn;obtain⟨n1,n2,n3⟩:=hn;rw[eD]at n2;have tX:q∉l1:=fun hh=>n3 q hh q aD rfl;have hw:Fg (l1++q::l2) q=l1++l2:=by rw[zw,d4s,kh tX,kh n2.1]
 rw[hw];by_cases sL:p∈l1
 ·obtain⟨m1,m2,rfl⟩:=iU sL;rw[eI,eD]at n1;obtain⟨_,⟨a2,_⟩,a3⟩:=n1;have:=d8n (E:=E) (l1:=m1) (l2:=m2) (l3:=l2) h (fun hh=>a3 p hh p aD rfl) a2 (fun hh=>n3 p aD p (by simp[hh]) rfl) (fun hh=>tX (by simp[hh])) (fun hh=>tX (by simp[hh])) n2.1;simpa using this
 ·by_cases qG:p∈l2
  ·obtain⟨m1,m2,rfl⟩:=iU qG;have n4:=n2.2;rw[eI,eD]at n4;obtain⟨_,⟨a2,_⟩,a3⟩:=n4;have:=d4r (E:=E) (l1:=l1) (l2:=m1) (l3:=m2) h sL (fun hh=>a3 p hh p aD rfl) a2 tX (fun hh=>n2.1 (by simp[hh])) (fun hh=>n2.1 (by simp[hh]));simpa using this
  ·exact d8m h.sym tX n2.1 sL qG
def Vj (h:lab e.1≠lab e.2):Ends lab e (lab e.1) (lab e.2):=⟨h,.inl ⟨rfl,rfl⟩⟩
def d4t {C:Type} {cs:List C} {x:C->Int} (h:∀c∈cs,x c=0) (l1 l2:List (C->Int)):dt cs (l1++x::l2)=0:=by
 have h0:=Ik (x:=x) (r:=x) (s:=x) (t:=1) (cs:=cs) (fun c hc=>by rw[h c hc];rfl) l1 l2;omega
def QI (lab:Nat->Nat) (V:List Nat):Dg [] lab V=if V=[]then 1 else 0:=by
 cases V with
 |nil=>rfl
 |cons x V=>
  rw[if_neg aD];exact d4t (x:=Fm [] (cv lab x)) (fun _ _=>rfl) [] _
def Ox:∀(E:List (Nat×Nat)) (lab:Nat->Nat) (V:List Nat),V.Nodup->0<=Dg E lab V
 |[],lab,V,_=>by rw[QI];split<;>omega
 |e::E,lab,V,h=>by
  by_cases h1:lab e.1=lab e.2
  ·rw[QH h1];exact Ox E lab V h
  ·by_cases h2:lab e.2∈V
   ·rw[Zq (Vj h1) h2 h];have a:=Ox E lab V h;have b:=Ox E (mg lab (lab e.2) (lab e.1)) _ (Zp (q:=lab e.2) h);omega
   ·by_cases h3:lab e.1∈V
    ·rw[Zq (Vj h1).sym h3 h];have a:=Ox E lab V h;have b:=Ox E (mg lab (lab e.1) (lab e.2)) _ (Zp (q:=lab e.1) h);omega
    ·rw[zu h3 h2];exact Ox E lab V h
def d8o (hp:p∉V) (hq:q∉V):Dg E (mg lab q p) V=Dg E lab V:=by unfold Dg;rw[Ll hp hq]
def c7Z {l V:List Nat} (h:(l++V).Nodup):V.Nodup:=(eI.1 h).2.1
def Vk:∀(E:List (Nat×Nat)) (lab:Nat->Nat) (l V:List Nat),(l++V).Nodup->Dg E lab V=0->Dg E lab (l++V)=0
 |[],lab,l,V,_,h=>by
  rw[QI]at h⊢;rw[if_neg];intro hh;rw[if_pos (by simpa using(List.append_eq_nil_iff.1 hh).2)]at h;omega
 |e::E,lab,l,V,hn,h=>by
  have hv:=c7Z hn;by_cases h1:lab e.1=lab e.2
  ·rw[QH h1]at h⊢;exact Vk E lab l V hn h
  ·--q in V
   have key:∀p q,Ends lab e p q->q∈V->Dg (e::E) lab (l++V)=0:=fun p q he hq=>by
    rw[Zq he hq hv]at h;have a:=Ox E lab V hv;have b:=Ox E (mg lab q p) _ (Zp (q:=q) hv);have hql:q∉l:=fun hh=>(eI.1 hn).2.2 q hh q hq rfl;have hw:Fg (l++V) q=l++Fg V q:=by rw[zw,kh hql]
    rw[Zq he (by simp[hq]) hn,Vk E lab l V hn aA,hw,Vk E _ l _ (by rw[<-hw];exact Zp hn) aA];rfl
   by_cases h2:lab e.2∈V
   ·exact key _ _ (Vj h1) h2
   ·by_cases h3:lab e.1∈V
    ·exact key _ _ (Vj h1).sym h3
    ·rw[zu h3 h2]at h;have i1:=Vk E lab l V hn h;have key2:∀p q,Ends lab e p q->q∈l->q∉V->p∉V->Dg (e::E) lab (l++V)=0:=fun p q he hq hqV hpV=>by
      have hw:Fg (l++V) q=Fg l q++V:=by rw[zw,kh hqV]
      rw[Zq he (by simp[hq]) hn,i1,hw,Vk E _ _ V (by rw[<-hw];exact Zp hn) (by rw[d8o hpV hqV];exact h)];rfl
     by_cases h4:lab e.2∈l
     ·exact key2 _ _ (Vj h1) h4 h2 h3
     ·by_cases h5:lab e.1∈l
      ·exact key2 _ _ (Vj h1).sym h5 h3 h2
      ·rw[zu (by simp[h3,h5]) (by simp[h2,h4])];exact i1
def zx (lab:Nat->Nat) (x:Nat):∀E:List (Nat×Nat),Fm (E.filter fun e=>lab e.1 !=lab e.2) (cv lab x)=Fm E (cv lab x)
 |[]=>rfl
 |e::E=>by
  by_cases h:lab e.1=lab e.2
  ·rw[dZ (by simp[h]),zx lab x E];refine(QE ?_).symm;rw[Ov,h];omega
  ·rw[List.filter_cons_of_pos (by simp[h])];funext v;simp only[Fm];rw[zx lab x E]
def c3u (E:List (Nat×Nat)) (lab:Nat->Nat) (V:List Nat):Dg (E.filter fun e=>lab e.1 !=lab e.2) lab V=Dg E lab V:=by
 unfold Dg Dv;rw[fM,fM];congr 1;exact dA fun x _=>zx lab x E
end
def QJ {C:Type} {c:C} {d:List (C->Int)->Int} {B K:Nat}:∀(l pre:List (C->Int)),(∀r∈l,(r c).natAbs<=B)->(∀p s:List (C->Int),∀x,pre++l=p++x::s->(d (p++s)).natAbs<=K)->(dx c d pre l).natAbs<=l.length*(B*K)
 |[],pre,_,_=>by simp[dx]
 |x::l,pre,h,hd=>by
  simp only[dx,aO];have h1:=QJ l (pre++[x]) (fun r hr=>h r (by simp[hr])) (fun p s y hy=>hd p s y (by simpa using hy));have h2:=hd pre l x rfl;have h3:(x c*d (pre++l)).natAbs<=B*K:=by rw[lG];exact eC (h x aD) h2
  rw[Nat.succ_mul];omega
def QK {C:Type} {B:Nat}:∀(cs:List C) (l:List (C->Int)) (m:Nat),l.length<=m->(∀r∈l,∀c∈cs,(r c).natAbs<=B)->(dt cs l).natAbs<=(m*B)^cs.length
 |[],[],_,_,_=>by simp[dt]
 |[],_::_,_,_,_=>by simp[dt]
 |c::cs,l,m,hl,h=>by
  have h1:=QJ (c:=c) (d:=dt cs) (B:=B) (K:=(m*B)^cs.length) l [] (fun r hr=>h r hr c aD) fun p s x hx=>by
   simp only[cU]at hx;refine QK cs (p++s) m ?_ fun r hr e he=>h r ?_ e (by simp[he])
   ·rw[hx]at hl;simp at hl⊢;omega
   ·rw[hx];simp at hr⊢;rcases hr with hr|hr<;>simp[hr]
  refine bM h1 ?_;rw[aO,Nat.pow_succ,<-Nat.mul_assoc,Nat.mul_comm ((m*B)^cs.length)];exact bQ _ (bQ _ hl)
def QL (e:Nat×Nat) (lab:Nat->Nat) (x:Nat):(dl e (cv lab x)).natAbs<=1:=by
 rw[Ov];split<;>split<;>decide
def QM (lab:Nat->Nat) (x y:Nat):∀E:List (Nat×Nat),(Fm E (cv lab x) (cv lab y)).natAbs<=E.length
 |[]=>by simp[Fm]
 |e::E=>by
  simp only[Fm,aO];have h1:=QM lab x y E;have h2:(dl e (cv lab x)*dl e (cv lab y)).natAbs<=1:=by rw[lG];exact bM (eC (QL e lab x) (QL e lab y)) aC
  omega
def rst (set s:Nat) (e:Nat×Nat):Nat:=if bit set e.1&&bit set e.2&&(bit s e.1||bit s e.2)then s|||2^e.1|||2^e.2 else s
def rnd (set:Nat) (L:List (Nat×Nat)) (s:Nat):Nat:=L.foldl (rst set) s
def Eb (set:Nat) (L:List (Nat×Nat)):Nat->Nat->Nat
 |0,s=>s
 |n+1,s=>rnd set L (Eb set L n s)
def Clo (set:Nat) (L:List (Nat×Nat)) (s:Nat):Prop:=∀e∈L,bit set e.1=true->bit set e.2=true->(bit s e.1=true\/bit s e.2=true)->bit s e.1=true/\bit s e.2=true
def Zr {set s:Nat} {e:Nat×Nat} {y:Nat} (h:bit s y=true):bit (rst set s e) y=true:=by
 unfold rst;split
 ·rw[Ap,Ap,h];rfl
 ·exact h
def d8p {set s:Nat} {e:Nat×Nat} (h:s<M64) (h1:e.1<64) (h2:e.2<64):rst set s e<M64:=by
 unfold rst;split
 ·exact Ql (Ql h (Df h1)) (Df h2)
 ·exact h
def Vm {set:Nat} {L:List (Nat×Nat)}:∀{s y:Nat},bit s y=true->bit (rnd set L s) y=true:=by
 induction L with
 |nil=>intro s y h;exact h
 |cons e L ih=>intro s y h;exact ih (Zr h)
def QN {set:Nat} {L:List (Nat×Nat)} (hL:∀e∈L,e.1<64/\e.2<64):∀{s:Nat},s<M64->rnd set L s<M64:=by
 induction L with
 |nil=>intro s h;exact h
 |cons e L ih=>intro s h;exact ih (fun a ha=>hL a (dR _ ha)) (d8p h (hL e aD).1 (hL e aD).2)
def c8a {set s:Nat} {e:Nat×Nat} (h:rst set s e=s) (h1:bit set e.1=true) (h2:bit set e.2=true) (h3:bit s e.1=true\/bit s e.2=true):bit s e.1=true/\bit s e.2=true:=by
 unfold rst at h;rw[if_pos (by rcases h3 with h3|h3<;>simp[h1,h2,h3])]at h;rw[<-h];simp[Ap,Bj]
def QO {set:Nat} {L:List (Nat×Nat)}:∀{s:Nat},rnd set L s=s->Clo set L s:=by
 induction L with
 |nil=>intro s _ e he;cases he
 |cons e L ih=>
  intro s h;have h1:rst set s e=s:=by
   apply Gu;intro y;cases hy:bit s y with
   |true=>exact Zr hy
   |false=>
    cases hz:bit (rst set s e) y with
    |false=>rfl
    |true=>
     have:bit (rnd set (e::L) s) y=true:=Vm (L:=L) hz;rw[h,hy]at this;cases this
  have h2:rnd set L s=s:=by
   have:rnd set (e::L) s=rnd set L (rst set s e):=rfl;rw[this,h1]at h;exact h
  intro a ha;rcases aX.1 ha with rfl|ha
  ·exact c8a h1
  ·exact ih h2 a ha
def QP {set:Nat} {L:List (Nat×Nat)} {s:Nat} (h:Clo set L s):rnd set L s=s:=by
 induction L with
 |nil=>rfl
 |cons e L ih=>
  have h1:rst set s e=s:=by
   unfold rst;split
   ·rename_i hc;simp only[aT,cV]at hc;obtain⟨h2,h3⟩:=h e aD hc.1.1 hc.1.2 hc.2;apply Gu;intro y;rw[Ap,Ap,Bj,Bj];by_cases e1:e.1=y
    ·subst e1;simp[h2]
    ·by_cases e2:e.2=y
     ·subst e2;simp[h3]
     ·simp[e1,e2]
   ·rfl
  show rnd set L (rst set s e)=s;rw[h1];exact ih fun a ha=>h a (dR _ ha)
def ins (L:List (Nat×Nat)) (s:Nat):Nat:=(L.filter fun e=>bit s e.1&&bit s e.2).length
def QQ {α:Type} {p q:α->Bool} (h:∀x,p x=true->q x=true) (l:List α):(l.filter p).length<=(l.filter q).length:=by
 induction l with
 |nil=>exact aS _
 |cons a l ih=>
  rw[gK,gK];split
  ·rename_i hp;rw[if_pos (h a hp)];simp;exact ih
  ·split
   ·simp;omega
   ·exact ih
def d8q {α:Type} {p q:α->Bool} (h:∀x,p x=true->q x=true) {x:α} (hq:q x=true) (hp:p x=false):∀l:List α,x∈l->(l.filter p).length<(l.filter q).length:=by
 intro l;induction l with
 |nil=>intro h;cases h
 |cons a l ih=>
  intro hx;rw[gK,gK];rcases aX.1 hx with rfl|hx
  ·rw[if_neg (by simp[hp]),if_pos hq];have:=QQ h l;simp;omega
  ·have:=ih hx;split
   ·rename_i hpa;rw[if_pos (h a hpa)];simp;exact this
   ·split
    ·simp;omega
    ·exact this
def d4u {L:List (Nat×Nat)} {s:Nat} (h:L.length<=ins L s):∀e∈L,bit s e.1=true/\bit s e.2=true:=by
 have:(L.filter fun e=>bit s e.1&&bit s e.2).length=L.length:=Nat.le_antisymm (List.length_filter_le _ _) h;rw[List.length_filter_eq_length_iff]at this;intro e he;simpa using this e he
def d4v {set:Nat} {L0:List (Nat×Nat)}:∀{L:List (Nat×Nat)} {s:Nat},(∀e∈L,e∈L0)->rnd set L s=s\/ins L0 s<ins L0 (rnd set L s):=by
 intro L;induction L with
 |nil=>intro s _;exact .inl rfl
 |cons e L ih=>
  intro s hL;have hm:∀x:Nat×Nat,(bit s x.1&&bit s x.2)=true->(bit (rst set s e) x.1&&bit (rst set s e) x.2)=true:=by
   intro x hx;rw[aT]at hx⊢;exact⟨Zr hx.1,Zr hx.2⟩
  by_cases h1:rst set s e=s
  ·have:rnd set (e::L) s=rnd set L s:=by show rnd set L (rst set s e)=_;rw[h1]
   rw[this];exact ih fun a ha=>hL a (dR _ ha)
  ·right;have h2:(bit s e.1&&bit s e.2)=false:=by
    cases hc:(bit s e.1&&bit s e.2)with
    |false=>rfl
    |true=>
     exfalso;apply h1;rw[aT]at hc;apply Gu;intro y;cases hy:bit s y with
     |true=>exact Zr hy
     |false=>
      unfold rst;split
      ·rw[Ap,Ap,Bj,Bj,hy];by_cases e1:e.1=y
       ·rw[<-e1,hc.1]at hy;cases hy
       ·by_cases e2:e.2=y
        ·rw[<-e2,hc.2]at hy;cases hy
        ·simp[e1,e2]
      ·exact hy
   have h3:(bit (rst set s e) e.1&&bit (rst set s e) e.2)=true:=by
    unfold rst;split
    ·simp[Ap,Bj]
    ·rename_i hc;exact absurd (by unfold rst;rw[if_neg hc]) h1
   have h4:ins L0 s<ins L0 (rst set s e):=d8q hm h3 h2 L0 (hL e aD);have h5:ins L0 (rst set s e)<=ins L0 (rnd set L (rst set s e)):=QQ (fun x hx=>by
    rw[aT]at hx⊢;exact⟨Vm hx.1,Vm hx.2⟩) L0
   exact aM h4 h5
def c8b (set:Nat) (L:List (Nat×Nat)) (s:Nat):∀n,Clo set L (Eb set L n s)\/n<=ins L (Eb set L n s):=by
 intro n;induction n with
 |zero=>exact .inr (bJ _)
 |succ n ih=>
  rcases ih with h|h
  ·left;show Clo set L (rnd set L _);rw[QP h];exact h
  ·rcases d4v (set:=set) (L0:=L) (L:=L) (s:=Eb set L n s) (fun _ h=>h)with h1|h1
   ·left;show Clo set L (rnd set L _);rw[h1];exact QO h1
   ·right;show n+1<=ins L (rnd set L _);omega
def c8c (set:Nat) (L:List (Nat×Nat)) (s:Nat):Clo set L (Eb set L L.length s):=by
 rcases c8b set L s L.length with h|h
 ·exact h
 ·exact fun e he _ _ _=>d4u h e he
def c3x {set:Nat} {L:List (Nat×Nat)} (hL:∀e∈L,e.1<64/\e.2<64) {s:Nat} (hs:s<M64):∀n,Eb set L n s<M64/\(Clo set L (Eb set L n s)\/n<=card (Eb set L n s)):=by
 intro n;induction n with
 |zero=>exact⟨hs,.inr (bJ _)⟩
 |succ n ih=>
  refine⟨QN hL ih.1,?_⟩;rcases ih.2 with h|h
  ·left;show Clo set L (rnd set L _);rw[QP h];exact h
  ·by_cases h1:rnd set L (Eb set L n s)=Eb set L n s
   ·left;show Clo set L (rnd set L _);rw[h1];exact QO h1
   ·right;obtain⟨x,rG,rA⟩:=gq (fun e=>h1 e.symm) (fun y hy=>Vm (set:=set) (L:=L) hy);have:=Ym (fun y hy=>Vm (set:=set) (L:=L) hy) rG rA (Ug (QN hL ih.1) rG);show n+1<=card (rnd set L _);omega
def c3y {set:Nat} {L:List (Nat×Nat)} {s y:Nat} (h:bit s y=true):∀n,bit (Eb set L n s) y=true:=by
 intro n;induction n with
 |zero=>exact h
 |succ n ih=>exact Vm ih
def d4w {es:List (Nat×Nat)} {set s x:Nat} {e:Nat×Nat} (he:e∈es) (h:∀y,bit s y=true->Rch es set x y):∀y,bit (rst set s e) y=true->Rch es set x y:=by
 intro y hy;unfold rst at hy;split at hy
 ·rename_i hc;simp only[aT,cV]at hc;have a1:adj es e.1 e.2:=⟨e,he,.inl ⟨rfl,rfl⟩⟩;have r1:Rch es set x e.1:=hc.2.elim (h _) fun h2=>(h _ h2).step a1.symm hc.1.1;have r2:Rch es set x e.2:=hc.2.elim (fun h1=>(h _ h1).step a1 hc.1.2) (h _);rw[Ap,Ap,Bj,Bj,cV,cV]at hy;rcases hy with(hy|hy)|hy
  ·exact h y hy
  ·have:=oDt hy;subst this;exact r1
  ·have:=oDt hy;subst this;exact r2
 ·exact h y hy
def d4x {es:List (Nat×Nat)} {set x:Nat}:∀{L:List (Nat×Nat)} {s:Nat},(∀e∈L,e∈es)->(∀y,bit s y=true->Rch es set x y)->∀y,bit (rnd set L s) y=true->Rch es set x y:=by
 intro L;induction L with
 |nil=>intro s _ h;exact h
 |cons e L ih=>intro s hL h;exact ih (fun a ha=>hL a (dR _ ha)) (d4w (hL e aD) h)
def d8r {es:List (Nat×Nat)} {set x n:Nat} (hx:bit set x=true) (sA:Eb set es n (2^x)<M64) (hc:Clo set es (Eb set es n (2^x))):CL es set x (Eb set es n (2^x)):=by
 refine⟨sA,fun y=>⟨?_,fun hy=> ?_⟩⟩
 ·have:∀m y,bit (Eb set es m (2^x)) y=true->Rch es set x y:=by
   intro m;induction m with
   |zero=>intro y hy;have hy:bit (2^x) y=true:=hy;rw[Bj]at hy;have:=oDt hy;subst this;exact .base
   |succ m ih=>exact d4x (fun _ h=>h) ih
  exact this n y
 ·induction hy with
  |base=>exact c3y (by rw[Bj];simp) n
  | @step u v h1 ha hz ih=>
   have hu:=h1.mem hx;obtain⟨e,he,⟨rfl,rfl⟩|⟨rfl,rfl⟩⟩:=ha
   ·exact(hc e he hu hz (.inl ih)).2
   ·exact(hc e he hz hu (.inr ih)).1
def Jl (f:Nat->Nat) (e:Nat×Nat):Nat->Nat:=fun x=>if f x=max (f e.1) (f e.2)then min (f e.1) (f e.2)else f x
def lab (L:List (Nat×Nat)):Nat->Nat:=L.foldl Jl id
def c8d (L:List (Nat×Nat)) (e:Nat×Nat):lab (L++[e])=Jl (lab L) e:=by
 unfold lab;rw[List.foldl_append];rfl
def b8r {f:Nat->Nat} {e:Nat×Nat} (h:f e.1=f e.2):Jl f e=f:=by
 funext x;unfold Jl;rw[h,Nat.max_self,Nat.min_self];split
 ·rename_i h;exact h.symm
 ·rfl
structure Lb (f:Nat->Nat):Prop where
 idm:∀x,f (f x)=f x
 le:∀x,f x<=x
def Lb.join {f:Nat->Nat} (h:Lb f) (e:Nat×Nat):Lb (Jl f e):=by
 by_cases tY:f e.1=f e.2
 ·rw[b8r tY];exact h
 have ha:=h.idm e.1;have hb:=h.idm e.2;refine⟨fun x=> ?_,fun x=> ?_⟩
 ·unfold Jl;generalize f e.1=a at*;generalize f e.2=b at*;by_cases hx:f x=max a b
  ·rw[if_pos hx];by_cases a2n:a<=b
   ·rw[Nat.max_eq_right a2n,cH a2n,ha,if_neg tY]
   ·rw[Nat.max_eq_left aA,Nat.min_eq_right aA,hb,if_neg (fun h=>tY h.symm)]
  ·rw[if_neg hx,h.idm,if_neg hx]
 ·unfold Jl;split
  ·rename_i hx;have:=h.le x;omega
  ·exact h.le x
def Acy (L:List (Nat×Nat)) (n:Nat):Prop:=∀i e,i<n->L[i]? =some e->lab (L.take i) e.1≠lab (L.take i) e.2
def Ed (es:List (Nat×Nat)) (i:Int):Nat×Nat:=es.getD i.toNat (0,0)
def etl (es:List (Nat×Nat)) (t:List Int):List (Nat×Nat):=t.map (Ed es)
def Acy.snoc {L:List (Nat×Nat)} {e:Nat×Nat} (h:Acy L L.length) (he:lab L e.1≠lab L e.2):Acy (L++[e]) (L.length+1):=by
 intro i a hi ha;by_cases hl:i<L.length
 ·rw[aQ hl]at ha;rw[cG aA];exact h i a hl ha
 ·have hi:i=L.length:=aA;subst hi;rw[aN (aS _),eA]at ha;cases ha;rw[List.take_left']
  ·exact he
  ·rfl
def e0L {set:Nat} (hs:set<M64) (h0:set≠0):∃x r,els set=x::r/\bit set x=true/\x<64/\∀j,j<x->bit set j=false:=by
 cases h:els set with
 |nil=>exact absurd (Oa hs h) h0
 |cons x r=>obtain⟨h1,h2,h3⟩:=Ib h;exact⟨x,r,rfl,h1,h2,h3⟩
def inB (set:Nat) (e:Nat×Nat):Bool:=bit set e.1&&bit set e.2
def lst (set:Nat):Nat:=(els set).headD 64
def kk (set:Nat) (f:Nat->Nat):List Nat:=(eT 64).filter fun x=>bit set x&&decide (f x=x)&&decide (x≠f (lst set))
def KK (E:List (Nat×Nat)) (set:Nat) (f:Nat->Nat):Int:=Dg E f (kk set f).reverse
def d8s (set:Nat) (f:Nat->Nat):(kk set f).Nodup:=List.nodup_range.filter _
section
variable {set:Nat} {f:Nat->Nat} {e:Nat×Nat} {E:List (Nat×Nat)}
def c3z (E:List (Nat×Nat)) (set:Nat) (f:Nat->Nat):KK (E.filter fun e=>f e.1 !=f e.2) set f=KK E set f:=c3u ..
end
def inE (es:List (Nat×Nat)) (set j:Nat):List (Nat×Nat):=(es.drop j).filter (inB set)
def trN (es:List (Nat×Nat)) (set:Nat) (t:List Int) (j:Nat):Int:=KK (inE es set j) set (lab (etl es t))
section
variable {es:List (Nat×Nat)} {set j:Nat} {t:List Int}
def QR (hs:set<M64) (h0:set≠0):bit set (lst set)=true:=by
 obtain⟨x,r,he,hx,_,_⟩:=e0L hs h0;unfold lst;rw[he];exact hx
end
def cnS (es:List (Nat×Nat)) (S:Nat):Bool:= !decide (S=0)&&decide (Eb S es es.length (2^lst S)=S)
def Zs {es:List (Nat×Nat)} {S n:Nat} (hg:GV n es) (hs:S<M64):cnB es S=cnS es S:=by
 rw[bS,cnB_iff];unfold cnS;by_cases h0:S=0
 ·subst h0;simp only[decide_true,Bool.not_true,Bool.false_and,aZ,iff_false];rintro⟨x,hx,_⟩;rw[Ej]at hx;cases hx
 ·have hx:=QR hs h0;have hL:∀e∈es,e.1<64/\e.2<64:=fun e he=>by have:=hg.ed e he;have:=hg.n64;omega
  have hc:=d8r hx (c3x (set:=S) hL (Df (Ug hs hx)) es.length).1 (c8c S es (2^lst S));rw[decide_eq_false h0,Bool.not_false,Bool.true_and,oDi];constructor
  ·intro hC;refine Gu fun y=> ?_;rw[bS,hc.2];exact⟨fun h=>h.mem hx,fun h=>hC.all hx h⟩
  ·intro e;refine⟨lst S,hx,fun y hy=>(hc.2 y).1 (by rw[e];exact hy)⟩
def es4:List (Nat×Nat):=[(0,1),(1,2),(2,3)]
def wl4:List Int:=[10,10,10,10]
def us4:List Un:=[⟨[97],10,[],[],[],false⟩,⟨[98],10,[],[],[],false⟩,⟨[99],10,[],[],[],false⟩,⟨[100],10,[],[],[],false⟩]
def dm0:Dm:=⟨0,0,0⟩
def gv4:GV 4 es4:=⟨aC,aC,aC,aC,by unfold es4 elt;simp⟩
noncomputable def ftH (lo hi:Int) (S:Nat):Bool:=if S<M64 then cnS es4 S&&(decide (Ac wl4 S≥lo)&&decide (Ac wl4 S<=hi))else alB es4 wl4 lo hi S
def Rj (lo hi:Int):alB es4 wl4 lo hi=ftH lo hi:=by
 funext S;unfold ftH;split
 ·rename_i h;unfold alB;rw[Zs gv4 h]
 ·rfl
def un4:∀x∈us4,UnV dm0 x:=by
 intro x hx;simp only[us4,aX,bV,or_false]at hx;rcases hx with rfl|rfl|rfl|rfl<;>exact⟨aC,aC,aC,aC,aC,rfl,(fun z h=>nomatch h),rfl,(fun z h=>nomatch h),rfl,(fun z h=>nomatch h)⟩
def wa4 (i:Nat) (x:Un) (h:us4[i]? =some x):x.wat=decide (4<=i):=by
 match i,h with
 |0,h=>cases h;rfl
 |1,h=>cases h;rfl
 |2,h=>cases h;rfl
 |3,h=>cases h;rfl
 |i+4,h=>cases h
def rv4:RoV dm0 4 us4:=⟨aC,aC,aC,aC,aC,aC,un4,wa4,aC⟩
end Go.GS
namespace Go.Z
open Proofs.Tryz RowKit RX GS RZ WD
def pN4 (lo hi:Int):j8 4 2 es4 us4 lo hi=Bq (ftH lo hi) 4 2:=by rw[<-Rj];rfl
def pI4 (lo hi:Int) (i:Nat):y8 4 2 es4 us4 lo hi i=Gf (ftH lo hi) 4 2 i:=by rw[<-Rj];rfl
def Ln:j8 4 2 es4 us4 10 30=3:=by rw[pN4];decide+kernel
def zy:j8 4 2 es4 us4 20 30=1:=by rw[pN4];decide+kernel
def e0M:j8 4 2 es4 us4 21 30=0:=by rw[pN4];decide+kernel
def i1030:y8 4 2 es4 us4 10 30 0=[0,0,0,1]/\y8 4 2 es4 us4 10 30 1=[0,0,1,1]/\y8 4 2 es4 us4 10 30 2=[0,1,1,1]:=by simp only[pI4];decide+kernel
def e0N:y8 4 2 es4 us4 20 30 0=[0,0,1,1]:=by simp only[pI4];decide+kernel
def va4:s0 dm0 4 es4 us4 2 2 0 0 [0,0,0,1]=30/\s0 dm0 4 es4 us4 2 2 0 0 [0,0,1,1]=20/\s0 dm0 4 es4 us4 2 2 0 0 [0,1,1,1]=30/\s0 dm0 4 es4 us4 2 2 0 0 [1,0,0,0]=30:=by
 have h:∀p z,Ff (Br Un.ppl us4 p 4 0) (Bt Un.ppl us4 p 2 4)=z->s0 dm0 4 es4 us4 2 2 0 0 p=(z:Rat):=fun p z e=>by
  show((Ff _ _:Int):Rat)=_;rw[e]
 exact⟨(h _ 30 (by decide+kernel)).trans (by rfl),(h _ 20 (by decide+kernel)).trans (by rfl),(h _ 30 (by decide+kernel)).trans (by rfl),(h _ 30 (by decide+kernel)).trans (by rfl)⟩
def Vn:vlL dm0 4 2 2 0 0 es4 us4 10 30=[30,20,30]:=by
 unfold vlL;rw[Ln];show[s0 _ _ _ _ _ _ _ _ _,s0 _ _ _ _ _ _ _ _ _,s0 _ _ _ _ _ _ _ _ _]=_;rw[i1030.1,i1030.2.1,i1030.2.2,va4.1,va4.2.1,va4.2.2.1]
def d8t:vlL dm0 4 2 2 0 0 es4 us4 20 30=[20]:=by
 unfold vlL;rw[zy];show[s0 _ _ _ _ _ _ _ _ _]=_;rw[e0N,va4.2.1]
def so4 {lo hi:Int} (h:(lo,hi)=(10,30)\/(lo,hi)=(20,30)\/(lo,hi)=(21,30)):StOk dm0 4 2 2 0 0 es4 us4 lo hi:=by
 refine⟨aC,gv4,rv4,aC,aC,aC,fun h=>aA,fun h=>aA,fun h=>aA,?_,.inl rfl⟩;rcases h with h|h|h<;>cases h<;>exact⟨aC,aC,aC,aC,aC,aC⟩
end Go.Z
namespace Go.RX
open RowKit
section
variable {P:Program} {T e:TypeId} {sz:Nat} {ag:Bool} {α:Type} {ce:α->List Value} {ve:α->Value} (E:El P T e sz ag ce ve)
variable {G Xp:Value->PH->Prop} {nx:List (List Value->PH->Prop)} {ρ:List Value} {H:PH} {o:Oper} {id i:Nat} {args:List SV} {t:Tree} {l:List α} {vs:List Value}
include E
def QS {N:Nat} {parts:Array (Nat×Operand)} (hl:l.length=N) (h0:0<N) (hN:N<=1000) (ho:o.op= .buildSlice T N parts) (hp:parts.toList.map (fun p=>(p.1,e8 (parts.toList.map (·.2)) vs p.2))=(l.zipIdx 0).map fun p=>(p.2,ve p.1)) (ha:args.map (D P ρ)=vs)
  (n:∀v H',Pl H H'->SO H H' e sz ce v l->den P G Xp t nx (ρ++[v]) H'):den P G Xp (.mk id i o args t) nx ρ H:=by
 obtain⟨ti,zv,h1,h2,h3,h4,h5⟩:=E.inf;have qF:=E.pos;have hsm:=E.small;have hb:N*sz<=1000*1000:=eC hN hsm;have hNp:0<N*sz:=Nat.mul_pos h0 qF;refine⟨fun b=> .slice (some ⟨b,0,none⟩) N N,.cells (l.flatMap ce).toArray e (0,0),fun w=> ?_,fun b hb=>n _ _ (PH.le_put hb _) (Ye E hb hl (by simp only[maxLen];omega) aD)⟩;have pD:o.op.operands.toList=parts.toList.map (·.2):=by simp[ho,Op.operands]
 have hf:Instr.fill (fun j=>some (j*ti.size,ti.size)) ((Array.range (N*ti.size)).map (zv.cells[· %zv.cells.size]!)) (parts.toList.map fun p=>(p.1,e8 (parts.toList.map (·.2)) vs p.2))=some (l.flatMap ce).toArray:=by
  rw[h3,hp,cj _ _ _ fun p hp=> ?_]
  ·rw[JD E.len E.cells,bY,ci (by rw[Hv E.len,hl];simp)]
  ·simp only[bK,Prod.exists]at hp;obtain⟨a,k,hk,rfl⟩:=hp;have pW:=List.mem_zipIdx hk;refine⟨k*sz,sz,rfl,(E.vcells a).1,?_⟩;have:(k+1)*sz<=N*sz:=bQ _ aA;rw[cM,cL]at this;simpa using this
 have hr:=run_buildSlice (P:=P) w T e N (parts.map fun(j,x)=>(j,e8 (parts.toList.map (·.2)) vs x)) (l.flatMap ce).toArray ti zv E.und h1 h2 (by rw[h3];omega) (by rw[h3];omega) (by rw[dO];exact hf);rw[pD,ha];simp only[execOp,ho,Sem.run_bind,hr,Result.andThen_ok,Sem.run_pure]
end
end Go.RX
namespace Go.Z
open Proofs.Tryz RowKit RX GS RZ WD
def st_one (l:List UInt8):(st l).cells.size=1/\i8 (st l).cells:=⟨rfl,fun c hc=>by simp[st,Value.cells]at hc;subst hc;rfl⟩
end Go.Z
namespace Go.GS
def Hf (g:Bool) (v b:Rat):Bool:=(g&&decide (b<v))||(!g&&decide (v<b))
end Go.GS
namespace Go.Z
open Proofs.Tryz RowKit RX GS RZ WD
section
variable {dm:Dm} {H B:PH} {n k ms lv who:Nat} {es:List (Nat×Nat)} {us:List Un} {w rw wts u v:Value} {lo hi:Int} {b i:Nat} {p:List Int} {l:List Rat}
def e2B (a c:Rat):Value.agg ((shw a++shw c).extract 0 16)=shR a:=by
 rw[En];congr 1;apply gI;have:=Ao a;simp[aI,this]
def e2C (a c:Rat):Value.agg ((shw a++shw c).extract 16 32)=shR c:=by
 rw[En];congr 1;apply gI;have h1:=Ao a;have h2:=Ao c;simp[aI,h1,h2]
def QT (hu:SI H u p) (ho:zl n k es us lo hi p) (hM:StM H w rw es us) (hS:StOk dm n k ms lv who es us lo hi) (hz:ms=1->s8 us n=true) (hp:0<j8 n k es us lo hi) (hN:j8 n k es us lo hi<=400) (hr:∀r∈vlL dm n k ms lv who es us lo hi,Rg r) (vL:Rg (s0 dm n es us k ms lv who p)):
  Con prog 9 [stV dm n k ms lv who w rw lo hi,u] H fun r H'=>Pl H H'/\∃m,TalP (vlL dm n k ms lv who es us lo hi) m/\r= .tuple #[shR (rkA dm n k ms lv who es us lo hi p m),shR (rkB dm n k ms lv who es us lo hi p m),ii 0]:=by
 refine g9 mixed OD ?_;refine b4 (Ep (t7 hM.gr) hM.ro.one) ?_;refine o0 (cs:=(stC dm n k ms lv who w rw lo hi).toArray) rfl fun a ha=> ?_;simp only[cA,nA];have la:=PH.le_put ha (.cells (stC dm n k ms lv who w rw lo hi).toArray 30 (0,0));refine b4 (hu.one) ?_;refine o0 (cs:= #[u]) hu.cells fun c hc=> ?_;simp only[cA,nA];have lc:=PH.le_put hc (.cells #[u] 49 (0,0));refine x5 (Ai (vs:=[.pointer (some ⟨a,0,none⟩),.pointer (some ⟨c,0,none⟩)]) rfl rfl) rfl ?_;simp only[cA,nA];refine g5 (Va (caps:=[.pointer (some ⟨a,0,none⟩),.pointer (some ⟨c,0,none⟩)]) mixed zj PM PL (c3c (lc _ _ (PH.put_self _ _ _)) (PH.put_self _ _ _) (hu.mono (la.trans lc)) ho (hM.mono (la.trans lc)) hS hz hp hN hr vL) (fun _ _ h=>by obtain⟨_,_,_,rfl⟩:=h;exact e2A _ _)) rfl ?_;rintro _ H4 ⟨t,⟨l4,m,hT,rfl⟩,rfl⟩;refine nmI ?_;simp only[cA,nA];refine g7 (g7 ?_);refine b4 (zk _ _) ?_;exact c9 rfl ⟨(la.trans lc).trans l4,m,hT,by show Value.tuple #[_,_,_]=_;rw[<-e2B (rkA dm n k ms lv who es us lo hi p m) (rkB dm n k ms lv who es us lo hi p m),<-e2C (rkA dm n k ms lv who es us lo hi p m) (rkB dm n k ms lv who es us lo hi p m)];rfl⟩
def foC (pl:Value) (r:Rat):Array Value:= #[pl]++shw r
def d8u:FA prog 108 0 0:=⟨aB,oDt aB,aB,aB,oDt aB⟩
def d8v:FA prog 108 1 1:=⟨aB,oDt aB,aB,aB,oDt aB⟩
def c3B:q8 prog 44=true:=aB
def c8e (pl:Value) (r:Rat):((foC pl r).toList.drop (0+1)).take (shw r).toList.length=(shw r).toList:=by
 have h:(shw r).toList.length=16:=aD;unfold foC;rw[h];simp[aI]
def sgR_pos {a b:Rat}:sgR a b>0↔b<a:=by
 unfold sgR;split
 ·rename_i h;exact⟨fun e=>absurd e aC,fun e=>absurd e (Rat.not_lt.2 (Rat.le_of_lt h))⟩
 ·rename_i h;split
  ·rename_i e;subst e;exact⟨fun e=>absurd e aC,fun e=>absurd e Rat.lt_irrefl⟩
  ·rename_i e;exact⟨fun _=>Rat.lt_of_le_of_ne (Rat.not_lt.1 h) (fun h2=>e h2.symm),fun _=>aC⟩
def b8s {f g:Nat} {T T2:TypeId} {pl:Value} {r q:Rat} {gb:Bool} (hf:H f=some (.cells (foC pl q) T (0,0))) (hg:H g=some (.cells #[.bool gb] T2 (0,0))) (hr:Rg r) (hq:Rg q):j5 prog 44 [shR r,.pointer (some ⟨f,0,none⟩),.pointer (some ⟨g,0,none⟩)] H (.bool (Hf gb r q)):=by
 refine g9 mixed c7O ?_;refine b4 (r4 _ _) ?_;refine i0 d8v ?_;simp only[cA,nA];refine s5 (vs:=(shw q).toList) (jr q) rfl rfl hf (c8e pl q) (by unfold foC;simp) rfl ?_;simp only[cA,nA];refine i9 (OK hr hq) (j0 rfl (En q).symm) fun H1 l1=> ?_;simp only[cA,nA];refine g7 (g7 ?_);refine s7 (OJ _) rfl ?_;simp only[cA,nA];refine i7 Qz rfl rfl (l1 _ _ hg) rfl rfl ?_;simp only[cA,nA];refine b9 ?_;refine g8 (b:=gb) rfl (fun h1=> ?_) (fun h1=> ?_)
 ·skip
  refine b9 ?_;refine g8 (b:=decide (sgR r q>0)) rfl (fun h2=> ?_) (fun h2=> ?_)
  ·replace h2:=oDt h2;exact c9 rfl ⟨l1,by unfold Hf;rw[h1,oDd (sgR_pos.1 h2)];rfl⟩
  ·replace h2:=oDf h2;refine i7 Qz rfl rfl (l1 _ _ hg) rfl rfl ?_;simp only[cA,nA];refine b9 ?_;refine j1 (by rw[h1];rfl) ?_;exact c9 rfl ⟨l1,by unfold Hf;rw[h1,decide_eq_false (fun e=>h2 (sgR_pos.2 e))];rfl⟩
 ·skip
  refine i7 Qz rfl rfl (l1 _ _ hg) rfl rfl ?_;simp only[cA,nA];refine b9 ?_;refine Ah (by rw[h1];rfl) ?_;refine b9 ?_;exact c9 rfl ⟨l1,by unfold Hf;rw[h1];show Value.bool (decide (sgR r q<0))= .bool (false||decide (r<q));rw[Bool.false_or];congr 1;exact decide_eq_decide.2 sgR_neg⟩
end
end Go.Z
namespace Go.RX
open RowKit
section
variable {P:Program} {ρ:List Value} {x y:SV} {o n:Nat} {l m:List Value} {v w:Value}
def Bf (hx:D P ρ x= .agg l.toArray):D P ρ (.sub x o n 0 noI)= .agg ((l.drop o).take n).toArray:=by
 show Value.agg ((D P ρ x).cells.extract (o+0*x4 (D P ρ noI)) (o+0*x4 (D P ρ noI)+n))=_;rw[hx,bY,cP];congr 1;apply gI;show(l.toArray.extract o (o+n)).toList=_;simp[List.extract_eq_take_drop]
def Gh (hx:D P ρ x= .agg l.toArray) (hy:D P ρ y= .agg m.toArray):D P ρ (.cat x n y)= .agg (l++m).toArray:=by
 show Value.agg ((D P ρ x).cells++(D P ρ y).cells)=_;rw[hx,hy];congr 1;apply gI;show(l.toArray++m.toArray).toList=_;simp
def Bc (hx:D P ρ x=v) (hv:v.cells= #[v]) (hy:D P ρ y= .agg m.toArray):D P ρ (.cat x n y)= .agg (v::m).toArray:=by
 show Value.agg ((D P ρ x).cells++(D P ρ y).cells)=_;rw[hx,hy,hv];congr 1;apply gI;show(#[v]++m.toArray).toList=_;simp
def km (hx:D P ρ x=v) (hv:v.cells= #[v]) (hy:D P ρ y=w) (hw:w.cells= #[w]):D P ρ (.cat x n y)= .agg [v,w].toArray:=by
 show Value.agg ((D P ρ x).cells++(D P ρ y).cells)=_;rw[hx,hy,hv,hw];rfl
def Vo:List Value->Nat->List Value->List Value
 |l,_,[]=>l
 |l,o,y::ys=>Vo (l.set o y) (o+1) ys
def zz:∀(m l:List Value) (o:Nat),spl l.toArray o m=(Vo l o m).toArray
 |[],_,_=>rfl
 |y::ys,l,o=>by
  show spl (l.toArray.setIfInBounds o y) (o+1) ys=(Vo (l.set o y) (o+1) ys).toArray;rw[<-zz ys];congr 1;simp
def e0O (hx:D P ρ x= .agg l.toArray) (hy:D P ρ y= .agg m.toArray):D P ρ (.put x o n y 0 noI)= .agg (Vo l o m).toArray:=by
 show Value.agg (spl (D P ρ x).cells (o+0*x4 (D P ρ noI)) (D P ρ y).cells.toList)=_;rw[hx,hy,bY,cP,<-zz];rfl
def Hg (hx:D P ρ x= .agg l.toArray) (hy:D P ρ y=v) (hv:v.cells= #[v]):D P ρ (.put x o n y 0 noI)= .agg (l.set o v).toArray:=by
 show Value.agg (spl (D P ρ x).cells (o+0*x4 (D P ρ noI)) (D P ρ y).cells.toList)=_;rw[hx,hy,hv,bY,cP];exact congrArg Value.agg (zz [v] l o)
def QU (hx:D P ρ x= .agg l.toArray):D P ρ (.cell x o 0 noI)=l.getD o undef:=by
 show(D P ρ x).cells.getD (o+0*x4 (D P ρ noI)) undef=_;rw[hx,bY,cP];show l.toArray.getD o undef=_;simp[bX,aK]
end
end Go.RX

/- Spreads: Tally, Below, Same. -/
import Derived.Test.YtcdnhlplkhldbaaGreatDoorGfT
open List renaming any_append->lF,count_le_length->gC,filter_append->fF,length->pL,map->kZ,mem_append_left->kH,range->eO,sum_append->jC,sum_cons->eP,sum_nil->mS
open List.Nodup renaming length_le_of_subset->jM
open List.Perm renaming append_left->pB,refl->oZ,trans->pA
open Nat renaming ne_of_lt->pM,zero_min->nJ
set_option linter.all false
set_option maxRecDepth 100000
namespace Go.Z
open Proofs.Tryz RowKit RX GS RZ WD
section
variable {H B:PH} {u v w e:Value} {l:List Rat} {m:List MaT} {i:Nat}
def DT:El prog 140 44 1 false (fun s:Slc=>[vs s]) vs where
 und:=aB
 has:=aB
 cel:=aB
 agg:=aB
 pos:=aC
 one1:=fun _=>rfl
 small:=aC
 inf:=⟨(prog.info? 44).getD default,vs (none,0,0),aB,aB,aB,rfl,oDt aB⟩
 len:=fun _=>rfl
 val:=fun _=>rfl
 cells:=fun _=>rfl
 one:=fun x c hc=>by simp at hc;subst hc;rfl
def ceQ (r:Rat):List Value:=(shw r).toList
def Ni:El prog 70 53 16 true ceQ shR where
 und:=aB
 has:=aB
 cel:=aB
 agg:=aB
 pos:=aC
 one1:=fun h=>by cases h
 small:=aC
 inf:=⟨(prog.info? 53).getD default,shv 0 0,aB,aB,aB,rfl,oDt aB⟩
 len:=fun p=>by unfold ceQ;rw[bA,Az]
 val:=fun p=>by rw[Di];rfl
 cells:=fun p=>by rw[Jb];rfl
 one:=fun p c hc=>Qj p c hc
def c5k {L:List Slc} {f:FuncId} (hu:SE H 1 (fun s:Slc=>[vs s]) u L) (hl:L.length<=1000) (ef:n8 prog f=true) (hf:∀H' s,Pl H H'->s∈L->j4 prog f [vs s] H' (.bool false)):j4 prog 105 [u,.func (.func f) #[] #[]] H (.bool false):=by
 have hi:j4 prog 153 [u,.func (.func f) #[] #[]] H (ii (-1)):=by
  refine g5 mixed d7o ?_;refine m9 DT hu ?_;refine r7 (α:=Nat×Int) (fun⟨i,p⟩=>[ii p,ii (i:Nat)]) (fun⟨i,p⟩=>fun H'=>i<=L.length/\Pl H H') (fun⟨i,p⟩=>L.length-i) ((0,0)) rfl (⟨bK _,Pl.refl _⟩) fun⟨i,p⟩ H' hQ=> ?_;obtain⟨hi,l1⟩:=hQ;refine b9 (b9 ?_);refine g6 (b:=decide (((i:Nat):Int)<(L.length:Nat))) rfl (fun h=> ?_) (fun h=> ?_)
  ·replace h:=oDt h;have qG:i<L.length:=aA;obtain⟨x,hx,_⟩:=q8 qG;refine n9 DT (hu.mono l1) hx fun _=> ?_;refine j1 (Aj (f:=f) (caps:= #[]) (vs:=[vs x]) rfl rfl rfl ef (hf _ x l1 (aK hx))) rfl ?_;rintro _ H2 ⟨l2,rfl⟩;refine nmI ?_;refine b9 ?_;refine i7 rfl ?_;exact⟨(i+1,p),by show L.length-(i+1)<L.length-i;omega,(i0 rfl (j5 rfl aA)),⟨qG,l1.trans l2⟩⟩
  ·replace h:=oDf h;exact d4 rfl ⟨l1,rfl⟩
 refine g5 mixed d7n ?_;refine i8 (hi) rfl fun H1 l1=> ?_;refine b9 ?_;exact d4 rfl ⟨l1,rfl⟩
def c5l {L:List Rat} {f:FuncId} (hu:SE H 16 ceQ u L) (hl:L.length<=1000) (ef:n8 prog f=true) (hf:∀H' r,Pl H H'->r∈L->j4 prog f [shR r] H' (.bool false)):j4 prog 107 [u,.func (.func f) #[] #[]] H (.bool false):=by
 have hi:j4 prog 154 [u,.func (.func f) #[] #[]] H (ii (-1)):=by
  refine g5 mixed d7q ?_;refine m9 Ni hu ?_;refine r7 (α:=Nat×Int) (fun⟨i,p⟩=>[ii p,ii (i:Nat)]) (fun⟨i,p⟩=>fun H'=>i<=L.length/\Pl H H') (fun⟨i,p⟩=>L.length-i) ((0,0)) rfl (⟨bK _,Pl.refl _⟩) fun⟨i,p⟩ H' hQ=> ?_;obtain⟨hi,l1⟩:=hQ;refine b9 (b9 ?_);refine g6 (b:=decide (((i:Nat):Int)<(L.length:Nat))) rfl (fun h=> ?_) (fun h=> ?_)
  ·replace h:=oDt h;have qG:i<L.length:=aA;obtain⟨x,hx,_⟩:=q8 qG;refine n9 Ni (hu.mono l1) hx fun _=> ?_;refine j1 (Aj (f:=f) (caps:= #[]) (vs:=[shR x]) rfl rfl rfl ef (hf _ x l1 (aK hx))) rfl ?_;rintro _ H2 ⟨l2,rfl⟩;refine nmI ?_;refine b9 ?_;refine i7 rfl ?_;exact⟨(i+1,p),by show L.length-(i+1)<L.length-i;omega,(i0 rfl (j5 rfl aA)),⟨qG,l1.trans l2⟩⟩
  ·replace h:=oDf h;exact d4 rfl ⟨l1,rfl⟩
 refine g5 mixed d7p ?_;refine i8 (hi) rfl fun H1 l1=> ?_;refine b9 ?_;exact d4 rfl ⟨l1,rfl⟩
def c5m:n8 prog 106=true:=aB
def c5n:n8 prog 108=true:=aB
def b9o {r:Rat} (hr:Rg r):j4 prog 108 [shR r] H (.bool false):=by
 refine g5 mixed d0y ?_;refine b4 (j7 _ _) ?_;refine i8 (DO hr) rfl fun H1 l1=> ?_;refine b9 ?_;exact d4 rfl ⟨l1,rfl⟩
def b9p (hu:SE H 32 ceM v m) (hT:TalP l m) (h0:0<l.length) (hl:l.length<=400):j4 prog 106 [v] H (.bool false):=by
 refine g5 mixed d0x ?_;refine i8 (UP hu hT h0 hl) rfl fun H1 l1=> ?_;refine b9 ?_;exact d4 rfl ⟨l1,rfl⟩
def UQ {L:List Slc} {R:List Rat} (hu:SE H 1 (fun s:Slc=>[vs s]) u L) (hv:SE H 16 ceQ v R) (hL:L.length<=1000) (hR:R.length<=1000) (h1:∀H' s,Pl H H'->s∈L->j4 prog 106 [vs s] H' (.bool false)) (h2:∀r∈R,Rg r):j4 prog 56 [u,v] H (ii 0):=by
 refine g5 mixed d7k ?_;refine i8 (c5k hu hL c5m h1) rfl fun H1 l1=> ?_;refine b9 ?_;refine i7 rfl ?_;refine i8 (c5l (hv.mono l1) hR c5n (fun H' r _ hr=>b9o (h2 r hr))) rfl fun H2 l2=> ?_;refine b9 ?_;refine i7 rfl ?_;exact d4 rfl ⟨l1.trans l2,rfl⟩
def d0K (hu:SE H 16 ceQ u l) (h0:l≠[]) (hl:l.length<=400) (hr:∀r∈l,Rg r):Con prog 15 [u] H fun r H'=>Pl H H'/\∃t m,r= .tuple #[t,ii 0]/\SE H' 32 ceM t m/\TalP l m:=by
 refine g5 mixed d7l ?_;have hlp:0<l.length:=eD.2 h0;refine m9 Ni hu ?_;refine b9 ?_;refine i7 (bF (p:=((l.length:Nat):Int)>400) aA) ?_;refine i8 (UQ (SE.nil H 1 (fun s:Slc=>[vs s])) hu aD aA (fun H' s _ hs=>nomatch hs) hr) rfl fun H1 l1=> ?_;simp only[cA,nA];refine b9 ?_;refine i7 (bF (p:=(0:Int)≠0) aD) ?_;refine m9 Ni (hu.mono l1) ?_;refine b9 ?_;refine i7 (bF (p:=((l.length:Nat):Int)=0) aA) ?_;refine j1 (Na (ok:=Rg) (ke:=shR) Hv rfl) rfl ?_;rintro v4 H2 ⟨l2,o2⟩;refine nmI ?_;simp only[cA,nA];obtain⟨g0,es0,c0,rfl,_⟩:=id o2;refine b4 (Xb g0) ?_;refine o0 (cs:= #[.map (some g0),.bool false]) rfl fun b hb=> ?_;simp only[cA,nA];have lb:=PH.le_put hb (.cells #[.map (some g0),.bool false] 153 (0,0));have qM:=PH.put_self H2 b (.cells #[.map (some g0),.bool false] 153 (0,0));have o3:=o2.mono lb;generalize H2.put b (.cells #[.map (some g0),.bool false] 153 (0,0))=H3 at lb qM o3⊢;refine f0 (Xh 1 aA aA) rfl ?_;rintro v6 H4 ⟨l4,q4⟩;refine nmI ?_;simp only[cA,nA];have l14:=l1.trans (l2.trans (lb.trans l4));refine m9 Ni (hu.mono l14) ?_;refine f0 (Xh ((l.length:Nat):Int) aA aA) rfl ?_;rintro v8 H5 ⟨l5,q5⟩;refine nmI ?_;simp only[cA,nA];refine f0 (LG (q4.mono l5) q5 (show Rb 20 ((1:Int):Rat)from⟨by rw[Rat.num_intCast];decide,by rw[Rat.den_intCast];decide⟩) (show Rb 20 (((l.length:Nat):Int):Rat)from⟨by rw[Rat.num_intCast];omega,by rw[Rat.den_intCast];decide⟩) aC (fun e=>by have:=Rat.intCast_inj.1 (e.trans (show(0:Rat)=((0:Int):Rat)from rfl));omega)) rfl ?_;rintro v9 H6 ⟨l6,q6⟩;refine nmI ?_;simp only[cA,nA];rw[e1i]at q6;refine b4 q6.rq ?_;have l26:=lb.trans (l4.trans (l5.trans l6));have l16:=l1.trans (l2.trans l26);have o6:=o3.mono (l4.trans (l5.trans l6));have hb6:=(l4.trans (l5.trans l6)) _ _ qM;obtain⟨g1,es,cl,hg1,hgB,hgH,hE,rW⟩:=id o6;obtain rfl:g0=g1:=by injection hg1 with hg1;injection hg1
 have hHg:H g0=none:=by
  cases e:H g0 with
  |none=>rfl
  |some o=>rw[l1 _ _ e]at hgB;cases hgB
 have a3a:Pl H (H6.cut g0):=PH.le_cut l16 hHg;have hbc:(H6.cut g0) b=some (.cells #[.map (some g0),.bool false] 153 (0,0)):=by rw[PH.cut_ne _ (fun e=>by subst e;rw[hb6]at hgH;cases hgH)];exact hb6
 have hM0:Xg (H6.cut g0) H6 (.map (some g0)) l 0:=⟨[],⟨g0,es,cl,rfl,PH.cut_self _ _,hgH,hE,rW⟩,fun r=>aD,(fun q hq=>nomatch hq)⟩;refine m9 Ni (hu.mono l16) ?_;refine r7 (α:=Nat) (fun i=>[ii (i:Nat)]) (fun i=>fun H'=>i<=l.length/\Pl (H6.cut g0) H'/\Xg (H6.cut g0) H' (.map (some g0)) l i/\Rp H' v9 (qN 1 l.length)) (fun i=>l.length-i) (0) rfl (⟨bK _,PH.cut_le _ _,hM0,q6⟩) fun i H' hQ=> ?_;simp only[cA,nA];obtain⟨hi,lX,hM,qX⟩:=hQ;refine b9 (b9 ?_);refine g6 (b:=decide (((i:Nat):Int)<(l.length:Nat))) rfl (fun h=> ?_) (fun h=> ?_)
 ·replace h:=oDt h;have qG:i<l.length:=aA;obtain⟨y,hy,_⟩:=q8 qG;refine n9 Ni (hu.mono (a3a.trans lX)) hy fun _=> ?_;simp only[cA,nA];refine b4 (j7 _ _) ?_;refine j6 ?_;simp only[cA,nA];refine g8 DL ?_;simp only[cA,nA];refine g9 DN rfl rfl (lX _ _ hbc) rfl rfl ?_;simp only[cA,nA];refine f0 (d0G lX hM hy (hr y (aK hy)) qX aA) (By rfl rfl (Gt qX)) ?_;rintro _ H7 ⟨l7,hM7,q7⟩;refine nmI ?_;simp only[cA,nA];exact⟨(i+1),by show l.length-(i+1)<l.length-i;omega,(p6 (j5 rfl aA)),⟨qG,l7,hM7,q7⟩⟩
 ·replace h:=oDf h;obtain rfl:i=l.length:=aA;refine f0 (d0H (lX _ _ hbc) hM h0 hl) rfl ?_;rintro _ H8 ⟨l8,t,m,rfl,hSE,hTP⟩;refine nmI ?_;simp only[cA,nA];refine g7 (g7 ?_);exact d4 rfl ⟨a3a.trans (lX.trans l8),t,m,rfl,hSE,hTP⟩
noncomputable def fA0:Field:=((prog.fieldsOf 63)[0]?).getD default
noncomputable def fP0:Field:=((prog.fieldsOf 63)[1]?).getD default
def e1n:(prog.fieldsOf 63).toList=[fA0,fP0]:=aB
def e4L:fA0.type=53:=aB
def e4M:fA0.offset=0:=aB
def e4N:(fA0.name≠ "_")=True:=eq_true (by decide+kernel)
def e4O:fP0.type=53:=aB
def e4P:fP0.offset=16:=aB
def e4Q:(fP0.name≠ "_")=True:=eq_true (by decide+kernel)
def Xj:prog.cellsOf 53=16:=aB
def d7D (q:MaT) (w:World):(part 53 (shw q.1.1++shw q.1.2) 0).run prog w= .ok (shR q.1.1) w:=by
 rw[Rk aB (by rw[Xj,dN,Az,Az];omega) (by rw[Xj];omega) w,Xj,show r8 prog 53=true from aB,if_pos rfl];rw[Qk]
def e1o (q:MaT) (w:World):(part 53 (shw q.1.1++shw q.1.2) 16).run prog w= .ok (shR q.1.2) w:=by
 rw[Rk aB (by rw[Xj,dN,Az,Az];omega) (by rw[Xj];omega) w,Xj,show r8 prog 53=true from aB,if_pos rfl];rw[DI]
def DU (r:Rat) (d:Nat) (w:World):(Op.equalIn (d+3) 53 (shR r) (shR r)).run prog w= .ok true w:=by
 show(Op.equalIn (d+2+1) 53 (.agg (words (rs r.num)++words (rs (r.den:Int)))) (.agg (words (rs r.num)++words (rs (r.den:Int))))).run prog w=_;rw[run_equalIn_struct w (d+2) _ _ _ aB aB,d4c];simp[Op.eqFields,e4A,e4D,e4y,e4z,e4B,e4C,d9y,d9z,b5p]
end
section
variable {H B:PH} {u v w e:Value} {l:List Rat} {m:List MaT} {i:Nat} {r:Rat}
def Jc (l:List Rat) (r:Rat) (m:List MaT):Nat:=((m.filter fun q=>decide (q.1.1<r)).map fun q=>l.count q.1.1).sum
def Ql (l:List Rat) (r:Rat) (m:List MaT):Nat:=if m.any (fun q=>decide (q.1.1=r))then l.count r else 0
def c5p (x:MaT):Jc l r (m++[x])=Jc l r m+if x.1.1<r then l.count x.1.1 else 0:=by
 unfold Jc;rw[fF,bM,jC];by_cases h:x.1.1<r
 ·rw[if_pos h,eE (by simpa using h)];simp
 ·rw[if_neg h,dH (by simpa using h)];simp
def c5q (x:MaT):Ql l r (m++[x])=if x.1.1=r then l.count r else Ql l r m:=by
 unfold Ql;rw[lF];by_cases h:x.1.1=r
 ·rw[if_pos h,if_pos (by simp[h])]
 ·rw[if_neg h];simp[h]
def d7E (i:Nat):Jc l r (m.take i)<=cuM l m i:=by
 unfold Jc cuM;generalize m.take i=k;induction k with
 |nil=>exact aS _
 |cons a k ih=>
  rw[bI,eP,List.filter_cons];split
  ·rw[bI,eP];omega
  ·omega
def d7F:Ql l r m<=l.length:=by
 unfold Ql;split
 ·exact gC
 ·exact bK _
def UR {r:Rat} {v:Value} (hx:Rp H v r) (hr:Rg r):j4 prog 58 [v] H (.tuple #[shR r,ii 0]):=(jh hx).mono fun u H' h=>⟨h.1,h.2.trans (Sj hr)⟩
def US (hu:SE H 32 ceM v m) (hT:TalP l m) (h0:0<l.length) (hl:l.length<=400) (hr:Rg r):j4 prog 11 [v,shR r] H (.tuple #[shR (qN (Jc l r m) l.length),shR (qN (Ql l r m) l.length),ii 0]):=by
 refine g5 mixed d7m ?_;have rK:=hT.all;have hml:=hT.len;have wG:∀i,Jc l r (m.take i)<=l.length:=fun i=>by
  have h1:=d7E (l:=l) (m:=m) (r:=r) i;have h2:=UN (l:=l) (m:=m) i;omega
 have z0:((0:Int):Rat)=qN 0 l.length:=by
  unfold qN;rw[Rat.divInt_eq_div];show(0:Rat)=_
  grind
 obtain⟨_,a,c,rfl,_⟩:=id hu;refine b4 (j7 _ _) ?_;refine jo DT (a:=(a,m.length,c)) rfl rfl rfl fun v2 H1 l1 o1 _=> ?_;simp only[cA,nA];refine jo Ni (a:=r) rfl rfl rfl fun v3 H2 l2 o2 _=> ?_;simp only[cA,nA];refine i8 (UQ (o1.se.mono l2) o2.se aD aD (fun H' s yU hs=>by rw[bB.1 hs];exact b9p (hu.mono (l1.trans (l2.trans yU))) hT h0 hl) (fun x hx=>by rw[bB.1 hx];exact hr)) rfl fun H3 l3=> ?_;simp only[cA,nA];refine b9 ?_;refine i7 (bF (p:=(0:Int)≠0) aD) ?_;refine f0 (Xh 0 aA aA) rfl ?_;rintro v5 H4 ⟨l4,q4⟩;refine nmI ?_;simp only[cA,nA];refine f0 (Xh 0 aA aA) rfl ?_;rintro v6 H5 ⟨l5,q5⟩;refine nmI ?_;simp only[cA,nA];refine b4 q4.rq ?_;refine b4 q5.rq ?_;rw[z0]at q4 q5;have l05:=l1.trans (l2.trans (l3.trans (l4.trans l5)));refine m9 el_mass (hu.mono l05) ?_;simp only[cA,nA];refine r7 (α:=Nat×Value×Value) (fun⟨i,x,y⟩=>[ii (i:Nat),x,y]) (fun⟨i,x,y⟩=>fun H'=>i<=m.length/\Pl H H'/\Rp H' x (qN (Jc l r (m.take i)) l.length)/\Rp H' y (qN (Ql l r (m.take i)) l.length)) (fun⟨i,x,y⟩=>m.length-i) ((0,v5,v6)) rfl (⟨bK _,l05,q4.mono l5,q5⟩) fun⟨i,x,y⟩ H' hQ=> ?_;simp only[cA,nA];obtain⟨hi,lX,qx,qy⟩:=hQ;refine b9 (b9 ?_);refine g6 (b:=decide (((i:Nat):Int)<(m.length:Nat))) rfl (fun h=> ?_) (fun h=> ?_)
 ·replace h:=oDt h;have qG:i<m.length:=aA;obtain⟨z,hz,_⟩:=q8 qG;have hzm:=aK hz;have vF:l.count z.1.1<=l.length:=gC;have hUs:=c5p (l:=l) (r:=r) (m:=m.take i) z;have hSs:=c5q (l:=l) (r:=r) (m:=m.take i) z;rw[<-take_snoc hz]at hUs hSs;have a6p:=wG i;refine n9 el_mass (hu.mono lX) hz fun _=> ?_;simp only[cA,nA];refine b4 (Ja z) ?_;refine f0 (Ug z.2.1) (congrArg (fun z=>[z]) (Qk z)) ?_;rintro v13 H6 ⟨l6,q6⟩;refine⟨(fun _=>l6),?_⟩;simp only[cA,nA];refine f0 (Ug hr) rfl ?_;rintro v14 H7 ⟨l7,q7⟩;refine⟨(fun _=>l7),?_⟩;simp only[cA,nA];refine f0 (oo (q6.mono l7) q7 z.2.1 hr) rfl ?_;rintro _ H8 ⟨l8,rfl⟩;refine⟨(fun _=>l8),?_⟩;simp only[cA,nA];have l68:=l6.trans (l7.trans l8);refine b9 ?_;refine g6 (b:=decide (sgR z.1.1 r<0)) rfl (fun h1=> ?_) (fun h1=> ?_)
  ·replace h1:=oDt h1;have qB:=sgR_neg.1 h1;rw[if_pos qB]at hUs;rw[if_neg (fun e=>by rw[e]at qB;exact Rat.lt_irrefl qB)]at hSs;refine f0 (ou z) rfl ?_;rintro v16 H9 ⟨l9,q9⟩;refine⟨(fun _=>l9),?_⟩;simp only[cA,nA];rw[hT.p hzm]at q9;refine f0 (yi (qx.mono (l68.trans l9)) q9 (Uh h0 aA aA) (Uh h0 aA aA) aC) (i0 (Gt qx) rfl) ?_;rintro v17 H10 ⟨l10,q10⟩;refine⟨(fun _=>l10),?_⟩;simp only[cA,nA];rw[DJ h0,<-hUs]at q10;refine b4 q10.rq ?_;exact⟨(i+1,v17,y),by show m.length-(i+1)<m.length-i;omega,(By (j5 rfl aA) rfl rfl),⟨qG,lX.trans (l68.trans (l9.trans l10)),q10,by rw[hSs];exact qy.mono (l68.trans (l9.trans l10))⟩⟩
  ·replace h1:=oDf h1;have hnl:¬z.1.1<r:=fun e=>h1 (sgR_neg.2 e);rw[if_neg hnl,cJ]at hUs;refine g6 (b:=decide (sgR z.1.1 r=0)) rfl (fun h2=> ?_) (fun h2=> ?_)
   ·replace h2:=oDt h2;have heq:z.1.1=r:=by unfold sgR at h2;rw[if_neg hnl]at h2;exact cL fun e=>by rw[if_neg e]at h2;cases h2
    rw[if_pos heq]at hSs;refine f0 (ou z) rfl ?_;rintro v16 H9 ⟨l9,q9⟩;refine nmI ?_;simp only[cA,nA];rw[hT.p hzm,heq,<-hSs]at q9;refine b4 q9.rq ?_;exact⟨(i+1,x,v16),by show m.length-(i+1)<m.length-i;omega,(By (j5 rfl aA) rfl rfl),⟨qG,lX.trans (l68.trans l9),by rw[hUs];exact qx.mono (l68.trans l9),q9⟩⟩
   ·replace h2:=oDf h2;have qJ:¬z.1.1=r:=fun e=>h2 (by rw[e];exact UO r);rw[if_neg qJ]at hSs;exact⟨(i+1,x,y),by show m.length-(i+1)<m.length-i;omega,(By (j5 rfl aA) rfl rfl),⟨qG,lX.trans l68,by rw[hUs];exact qx.mono l68,by rw[hSs];exact qy.mono l68⟩⟩
 ·replace h:=oDf h;rw[aI aA]at qx qy;have hU2:=wG m.length;rw[eB]at hU2;have hS2:=d7F (l:=l) (r:=r) (m:=m);refine i8 (UR qx (Xf h0 aA aA)) (p6 (Gt qx)) fun H6 l6=> ?_;simp only[cA,nA];refine g7 (g7 ?_);refine b4 (j7 _ _) ?_;refine i8 (UR (qy.mono l6) (Xf h0 aA aA)) (p6 (Gt qy)) fun H7 l7=> ?_;simp only[cA,nA];refine g7 (g7 ?_);refine b4 (j7 _ _) ?_;refine b9 ?_;refine i7 (bF (p:=(0:Int)≠0) aD) ?_;refine b9 ?_;refine i7 (bF (p:=(0:Int)≠0) aD) ?_;exact d4 rfl ⟨lX.trans (l6.trans l7),rfl⟩
end
end Go.Z
namespace Go.GS
def wlU (us:List Un) (n:Nat):List Int:=(us.take n).map (·.ppl)
def s5 (us:List Un) (n:Nat):Bool:=(us.take n).any fun x=>decide (0<x.ppl)
end Go.GS
namespace Go.Z
open Proofs.Tryz RowKit RX GS RZ WD
section
variable {dm:Dm} {H B:PH} {n k ms lv who:Nat} {es:List (Nat×Nat)} {us:List Un} {w rw wts:Value} {lo hi:Int} {b:Nat} {lived:Bool}
def bEk (a b:Nat):Value.bool (((a:Nat):Int)==((b:Nat):Int))= .bool (decide (a=b)):=by
 rw[bE];congr 1;apply decide_eq_decide.2;omega
def Ui:Asks prog 54 [ii 0] H (.tuple #[]):=by
 refine g5 mixed UA ?_;refine b9 ?_;refine i7 (bF (p:=(0:Int)≠0) aD) ?_;exact d4 rfl ⟨rfl,rfl⟩
def Xk (e:Int):Asks prog 49 [.bool false,ii e] H (.tuple #[]):=by
 refine g5 mixed TZ ?_;refine b9 ?_;refine i7 rfl ?_;exact d4 rfl ⟨rfl,rfl⟩
def UT (a b:Nat):Asks prog 86 [shv a b,ii 0] H (shv a b):=by
 refine g5 mixed d7w ?_;refine b4 (j7 a b) ?_;refine b9 ?_;refine i7 (bF (p:=(0:Int)≠0) aD) ?_;exact d4 rfl ⟨rfl,rfl⟩
def UU (v:Value):Asks prog 83 [v,ii 0] H v:=by
 refine g5 mixed d7v ?_;refine b9 ?_;refine i7 (bF (p:=(0:Int)≠0) aD) ?_;exact d4 rfl ⟨rfl,rfl⟩
def d0L (v:Value):Asks prog 52 [v,ii 0] H v:=by
 refine g5 mixed d7t ?_;refine b9 ?_;refine i7 (bF (p:=(0:Int)≠0) aD) ?_;exact d4 rfl ⟨rfl,rfl⟩
def UV (v:Value):Asks prog 50 [v,ii 0] H v:=by
 refine g5 mixed d7s ?_;refine b9 ?_;refine i7 (bF (p:=(0:Int)≠0) aD) ?_;exact d4 rfl ⟨rfl,rfl⟩
def Xl:n8 prog 132=true:=aB
def Xm {a b:Nat} (h:a<b):Asks prog 132 [ii (a:Nat),ii (b:Nat)] H (.tuple #[]):=by
 refine g5 mixed d0z ?_;refine b9 ?_;refine i7 (bF (p:=((a:Nat):Int)<0) aA) ?_;refine b9 ?_;refine j9 (Xk 2) (i0 (bF (p:=((a:Nat):Int)≥((b:Nat):Int)) aA) rfl) ?_;exact d4 rfl ⟨rfl,rfl⟩
def stC (dm:Dm) (n k ms lv who:Nat) (w rw:Value) (lo hi:Int):List Value:=[ii (n:Nat),w,ii (dm.g:Nat),ii (dm.p:Nat),ii (dm.l:Nat),rw,ii (k:Nat),ii lo,ii hi,ii (ms:Nat),ii (lv:Nat),ii (who:Nat)]
def stV (dm:Dm) (n k ms lv who:Nat) (w rw:Value) (lo hi:Int):Value:= .agg (stC dm n k ms lv who w rw lo hi).toArray
def woC (dm:Dm) (n k ms lv who:Nat) (w rw:Value) (lo hi:Int) (wts:Value) (lived:Bool):Array Value:= #[ii (n:Nat),w,ii (dm.g:Nat),ii (dm.p:Nat),ii (dm.l:Nat),rw,ii (k:Nat),ii lo,ii hi,ii (ms:Nat),ii (lv:Nat),ii (who:Nat),wts,ii lo,ii hi,ii (k:Nat),.bool lived]
def En (h1:y6 w=true) (h2:y6 rw=true):(stV dm n k ms lv who w rw lo hi).cells.size=12/\j0 (stV dm n k ms lv who w rw lo hi).cells:=⟨rfl,fun c hc=>by
 simp[stV,stC,Value.cells]at hc;rcases hc with rfl|rfl|rfl|rfl|rfl|rfl|rfl|rfl|rfl|rfl|rfl|rfl
 ·rfl
 ·exact h1
 ·rfl
 ·rfl
 ·rfl
 ·exact h2
 ·rfl
 ·rfl
 ·rfl
 ·rfl
 ·rfl
 ·rfl⟩
def Cd:FA prog 132 0 0:=⟨aB,oDt aB,aB,aB,oDt aB⟩
def Hy:FA prog 132 1 12:=⟨aB,oDt aB,aB,aB,oDt aB⟩
def Qm:FA prog 132 2 16:=⟨aB,oDt aB,aB,aB,oDt aB⟩
def Xn:FA prog 38 0 0:=⟨aB,oDt aB,aB,aB,oDt aB⟩
def cj:FA prog 38 1 2:=⟨aB,oDt aB,aB,aB,oDt aB⟩
def UW:FA prog 38 2 6:=⟨aB,oDt aB,aB,aB,oDt aB⟩
def cm:FA prog 38 5 9:=⟨aB,oDt aB,aB,aB,oDt aB⟩
def DV:FA prog 38 6 10:=⟨aB,oDt aB,aB,aB,oDt aB⟩
def DW:FA prog 38 7 11:=⟨aB,oDt aB,aB,aB,oDt aB⟩
def UX:FA prog 36 2 2:=⟨aB,oDt aB,aB,aB,oDt aB⟩
def Xo:FA prog 68 0 0:=⟨aB,oDt aB,aB,aB,oDt aB⟩
def Xq:Ag prog 68 4:=⟨aB,aB,aB⟩
def d0M (hb:H b=some (.cells (woC dm n k ms lv who w rw lo hi wts lived) 132 (0,0))) (h1:1<=ms) (h8:ms<=8) (hl:ms=5\/ms=6->lv<dm.l) (hg:ms=7->who<dm.g) (hp:ms=8->who<dm.p) (hz:ms=1->lived=true):Asks prog 82 [.pointer (some ⟨b,0,none⟩)] H (.tuple #[]):=by
 refine g5 mixed UD ?_;refine j6 ?_;simp only[cA,nA];refine g8 Cd ?_;simp only[cA,nA];refine g8 cm ?_;simp only[cA,nA];refine g9 sc_int rfl rfl hb rfl rfl ?_;simp only[cA,nA];refine j1 (Aj (f:=132) (caps:= #[]) (vs:=[ii (ms:Nat),ii ((9:Nat):Int)]) rfl rfl rfl Xl (Xm (b:=9) aA)) rfl ?_;rintro _ _ ⟨rfl,rfl⟩;refine nmI ?_;simp only[cA,nA];refine j6 ?_;simp only[cA,nA];refine g8 Cd ?_;simp only[cA,nA];refine g8 cm ?_;simp only[cA,nA];refine g9 sc_int rfl rfl hb rfl rfl ?_;simp only[cA,nA];refine b9 ?_;refine i7 (bz (a:=((ms:Nat):Int)) aA) ?_;refine y5 (p:=(ms=1)) (bEk ms 1) (fun m1=> ?_) fun m1=> ?_
 ·refine j6 ?_;simp only[cA,nA];refine g8 Qm ?_;simp only[cA,nA];refine g9 Hw rfl rfl hb rfl rfl ?_;simp only[cA,nA];have hlv:=hz m1;subst hlv;refine b9 ?_;refine j9 (Xk 7) rfl ?_;simp only[cA,nA];exact d4 rfl ⟨rfl,rfl⟩
 ·refine y5 (p:=(ms=5)) (bEk ms 5) (fun m5=> ?_) fun m5=> ?_
  ·refine j6 ?_;simp only[cA,nA];refine g8 Cd ?_;simp only[cA,nA];refine g8 DV ?_;simp only[cA,nA];refine g9 sc_int rfl rfl hb rfl rfl ?_;simp only[cA,nA];refine j6 ?_;simp only[cA,nA];refine g8 Cd ?_;simp only[cA,nA];refine g8 cj ?_;simp only[cA,nA];refine g8 UX ?_;simp only[cA,nA];refine g9 sc_int rfl rfl hb rfl rfl ?_;simp only[cA,nA];refine j1 (Aj (f:=132) (caps:= #[]) (vs:=[ii (lv:Nat),ii ((dm.l:Nat):Int)]) rfl rfl rfl Xl (Xm (b:=dm.l) (hl (.inl m5)))) rfl ?_;rintro _ _ ⟨rfl,rfl⟩;refine⟨(fun _=>Pl.refl _),?_⟩;simp only[cA,nA];exact d4 rfl ⟨rfl,rfl⟩
  ·refine y5 (p:=(ms=6)) (bEk ms 6) (fun m6=> ?_) fun m6=> ?_
   ·refine j6 ?_;simp only[cA,nA];refine g8 Cd ?_;simp only[cA,nA];refine g8 DV ?_;simp only[cA,nA];refine g9 sc_int rfl rfl hb rfl rfl ?_;simp only[cA,nA];refine j6 ?_;simp only[cA,nA];refine g8 Cd ?_;simp only[cA,nA];refine g8 cj ?_;simp only[cA,nA];refine g8 UX ?_;simp only[cA,nA];refine g9 sc_int rfl rfl hb rfl rfl ?_;simp only[cA,nA];refine j1 (Aj (f:=132) (caps:= #[]) (vs:=[ii (lv:Nat),ii ((dm.l:Nat):Int)]) rfl rfl rfl Xl (Xm (b:=dm.l) (hl (.inr m6)))) rfl ?_;rintro _ _ ⟨rfl,rfl⟩;refine⟨(fun _=>Pl.refl _),?_⟩;simp only[cA,nA];exact d4 rfl ⟨rfl,rfl⟩
   ·refine y5 (p:=(ms=7)) (bEk ms 7) (fun m7=> ?_) fun m7=> ?_
    ·refine j6 ?_;simp only[cA,nA];refine g8 Cd ?_;simp only[cA,nA];refine g8 DW ?_;simp only[cA,nA];refine g9 sc_int rfl rfl hb rfl rfl ?_;simp only[cA,nA];refine j6 ?_;simp only[cA,nA];refine g8 Cd ?_;simp only[cA,nA];refine g8 cj ?_;simp only[cA,nA];refine g8 TQ ?_;simp only[cA,nA];refine g9 sc_int rfl rfl hb rfl rfl ?_;simp only[cA,nA];refine j1 (Aj (f:=132) (caps:= #[]) (vs:=[ii (who:Nat),ii ((dm.g:Nat):Int)]) rfl rfl rfl Xl (Xm (b:=dm.g) (hg m7))) rfl ?_;rintro _ _ ⟨rfl,rfl⟩;refine⟨(fun _=>Pl.refl _),?_⟩;simp only[cA,nA];exact d4 rfl ⟨rfl,rfl⟩
    ·refine y5 (p:=(ms=8)) (bEk ms 8) (fun m8=> ?_) fun m8=> ?_
     ·refine j6 ?_;simp only[cA,nA];refine g8 Cd ?_;simp only[cA,nA];refine g8 DW ?_;simp only[cA,nA];refine g9 sc_int rfl rfl hb rfl rfl ?_;simp only[cA,nA];refine j6 ?_;simp only[cA,nA];refine g8 Cd ?_;simp only[cA,nA];refine g8 cj ?_;simp only[cA,nA];refine g8 DC ?_;simp only[cA,nA];refine g9 sc_int rfl rfl hb rfl rfl ?_;simp only[cA,nA];refine j1 (Aj (f:=132) (caps:= #[]) (vs:=[ii (who:Nat),ii ((dm.p:Nat):Int)]) rfl rfl rfl Xl (Xm (b:=dm.p) (hp m8))) rfl ?_;rintro _ _ ⟨rfl,rfl⟩;refine⟨(fun _=>Pl.refl _),?_⟩;simp only[cA,nA];exact d4 rfl ⟨rfl,rfl⟩
     ·exact d4 rfl ⟨rfl,rfl⟩
end
end Go.Z
namespace Go.GS
def DX {us:List Un} {i:Nat} {x:Un} (h:us[i]? =some x):wlU us (i+1)=wlU us i++[x.ppl]:=by
 unfold wlU;rw[dE,h,bM];rfl
def cu {us:List Un} {i:Nat} {x:Un} (h:us[i]? =some x):s5 us (i+1)=(s5 us i||decide (0<x.ppl)):=by
 unfold s5;rw[dE,h,lF];simp
end Go.GS
namespace Go.Z
open Proofs.Tryz RowKit RX GS RZ WD
structure StOk (dm:Dm) (n k ms lv who:Nat) (es:List (Nat×Nat)) (us:List Un) (lo hi:Int):Prop where
 n6:n<=6
 gv:GV n es
 rv:RoV dm n us
 hk:1<=k/\k<=8
 m1:1<=ms
 m8:ms<=8
 lv:ms=5\/ms=6->lv<dm.l
 wg:ms=7->who<dm.g
 wp:ms=8->who<dm.p
 bd:av n (wlU us n) lo hi (k:Nat)
structure StM (H:PH) (w rw:Value) (es:List (Nat×Nat)) (us:List Un):Prop where
 tb:Tb H
 gr:SG H w es
 ro:RoR H rw us
structure Wo (dm:Dm) (H:PH) (b n k ms lv who:Nat) (w rw:Value) (es:List (Nat×Nat)) (us:List Un) (lo hi:Int) (wts:Value):Prop where
 bk:H b=some (.cells (woC dm n k ms lv who w rw lo hi wts (s5 us n)) 132 (0,0))
 mm:StM H w rw es us
 wt:SI H wts (wlU us n)
section
variable {dm:Dm} {H B:PH} {n k ms lv who:Nat} {es:List (Nat×Nat)} {us:List Un} {w rw wts:Value} {lo hi:Int} {b:Nat}
def StM.mono {H':PH} (h:StM H w rw es us) (hl:Pl H H'):StM H' w rw es us:=⟨h.tb.mono hl,h.gr.mono hl,h.ro.mono hl⟩
def Wo.mono {H':PH} (h:Wo dm H b n k ms lv who w rw es us lo hi wts) (hl:Pl H H'):Wo dm H' b n k ms lv who w rw es us lo hi wts:=⟨hl _ _ h.bk,h.mm.mono hl,h.wt.mono hl⟩
def UY:(j3 prog 4).cells= #[.bool false]:=aB
def UZ:(j3 prog 3).cells= #[ii 0]:=aB
def Uj (a b c:SV):SV:= .cat (.z 39) 1 (.cat (.sub (.put (.cat a 1 (.cat (.z 3) 1 (.z 3))) 1 1 b 0 noI) 0 2 0 noI) 2 c)
def DY {a b c:SV} {ρ:List Value} (ha:D prog ρ a=ii lo) (hb:D prog ρ b=ii hi) (hc:D prog ρ c=ii (k:Nat)):D prog ρ (Uj a b c)=bv (.slice none 0 0) lo hi (k:Nat):=by
 unfold Uj;simp only[D,ha,hb,hc,DD,UZ];rfl
def DZ {a b c:SV} {ρ:List Value} (ha:D prog ρ a=ii lo) (hb:D prog ρ b=ii hi) (hc:D prog ρ c=ii (k:Nat)):Rq.holds prog ρ (.cells 4 (Uj a b c)):=by
 show(D prog ρ (Uj a b c)).cells.size=4/\j0 (D prog ρ (Uj a b c)).cells;rw[DY ha hb hc];exact Wb (wts:= .slice none 0 0) rfl lo hi (k:Nat)
def VA {x a b c:SV} {ρ:List Value} (hx:D prog ρ x=stV dm n k ms lv who w rw lo hi) (ha:D prog ρ a=ii lo) (hb:D prog ρ b=ii hi) (hc:D prog ρ c=ii (k:Nat)):(D prog ρ (.cat (.ag x) 12 (.cat (Uj a b c) 4 (.z 4)))).cells=woC dm n k ms lv who w rw lo hi (.slice none 0 0) false:=by
 show(Value.agg ((Value.agg (D prog ρ x).cells).cells++(Value.agg ((D prog ρ (Uj a b c)).cells++(j3 prog 4).cells)).cells)).cells=_;rw[DY ha hb hc,hx,UY];rfl
set_option maxHeartbeats 400000 in
def Uk (hM:StM H w rw es us) (hS:StOk dm n k ms lv who es us lo hi) (hz:ms=1->s5 us n=true):Con prog 29 [stV dm n k ms lv who w rw lo hi] H fun r H'=>Pl H H'/\∃b wts,r= .pointer (some ⟨b,0,none⟩)/\Wo dm H' b n k ms lv who w rw es us lo hi wts:=by
 refine g5 mixed UB ?_;have hv:=hS.rv;have pY:=hv.le;have sM:=hv.l64;have hn6:=hS.n6;obtain⟨ul,sW,qC,rT⟩:=id hM.ro;refine b4 (En (t8 hM.gr) hM.ro.one) ?_;refine i8 (Lu hM.gr hS.gv) rfl fun H1 l1=> ?_;simp only[cA,nA];refine j9 (Ui) rfl ?_;simp only[cA,nA];refine i8 (ay (hM.ro.mono l1) hv) rfl fun H2 l2=> ?_;simp only[cA,nA];refine j9 (Ui) rfl ?_;simp only[cA,nA];have l02:=l1.trans l2;refine b4 (el_int.vcells _) ?_;refine b4 (el_int.vcells _) ?_;refine b4 (el_int.vcells _) ?_;refine b4 (DZ (lo:=lo) (hi:=hi) (k:=k) rfl rfl rfl) ?_;refine o0 (cs:=woC dm n k ms lv who w rw lo hi (.slice none 0 0) false) (VA (ms:=ms) (lv:=lv) (who:=who) (w:=w) (rw:=rw) (n:=n) (lo:=lo) (hi:=hi) (k:=k) rfl rfl rfl rfl) fun b hb=> ?_;simp only[cA,nA];have lb:=PH.le_put hb (.cells (woC dm n k ms lv who w rw lo hi (.slice none 0 0) false) 132 (0,0));have qM:=PH.put_self H2 b (.cells (woC dm n k ms lv who w rw lo hi (.slice none 0 0) false) 132 (0,0));generalize H2.put b (.cells (woC dm n k ms lv who w rw lo hi (.slice none 0 0) false) 132 (0,0))=H3 at lb qM⊢;have vK:H b=none:=by
  cases e:H b with
  |none=>rfl
  |some o=>rw[l02 _ _ e]at hb;cases hb
 have l03:=l02.trans lb;refine m9 Cb (sW.mono l03) ?_;simp only[cA,nA];refine r7 (α:=Nat×Value) (fun⟨i,out⟩=>[ii (i:Nat)]) (fun⟨i,out⟩=>fun H'=>i<=us.length/\Pl H H'/\H' b=some (.cells (woC dm n k ms lv who w rw lo hi out (s5 us (min i n))) 132 (0,0))/\SO H H' 3 1 (fun z:Int=>[ii z]) out (wlU us (min i n))) (fun⟨i,out⟩=>us.length-i) ((0,.slice none 0 0)) rfl (⟨bK _,l03,by rw[nJ];exact qM,by rw[nJ];exact SO.nil _ _ _ _ _⟩) fun⟨i,out⟩ H' hQ=> ?_;simp only[cA,nA];obtain⟨hiI,lX,uE,oX⟩:=hQ;refine b9 (b9 ?_);refine g6 (b:=decide (((i:Nat):Int)<(ul.length:Nat))) rfl (fun h=> ?_) (fun h=> ?_)
 ·replace h:=oDt h;have xC:i<ul.length:=aA;obtain⟨u,hu,_⟩:=q8 xC;obtain⟨x,hx,_⟩:=q8 (show i<us.length by omega);have yK:=rT i u x hu hx;have rG:u.wat=decide (n<=i):=yK.wat.trans (hv.wat i x hx);have hxp:=Iy hv x (aK hx);have hup:=yK.ppl;refine n9 Cb (sW.mono lX) hu fun _=> ?_;simp only[cA,nA];refine b4 (Gn u) ?_;refine b9 ?_;refine g6 (b:= !u.wat) rfl (fun qZ=> ?_) (fun qZ=> ?_)
  ·skip
   have wZ:¬n<=i:=fun hh=>by rw[rG,oDd hh]at qZ;cases qZ
   rw[show min i n=i by omega]at uE oX;have sG:min (i+1) n=i+1:=aA;refine j6 ?_;simp only[cA,nA];refine g8 Hy ?_;simp only[cA,nA];refine g8 Xo ?_;simp only[cA,nA];refine g9 Dt rfl rfl uE rfl rfl ?_;simp only[cA,nA];obtain⟨XB,xb1,xb2,xb3,xb4⟩:=It oX lX;refine Cf el_int rfl rfl rfl aF aF xb2 xb3 (by unfold wlU;rw[aR,bH];omega) (show _=[ii u.ppl]from rfl) aF rfl fun pv2 v15 H7 l7 o7=> ?_;simp only[cA,nA];obtain⟨_,a2,c2,rfl,_⟩:=id o7.se;have hb7:=l7 _ _ ((xb4 b (fun cs=>by rw[uE];simp only[ne_eq,cN,Obj.cells.injEq,not_and];intro _ e;exact absurd e.symm aC)).trans uE);refine j6 ?_;simp only[cA,nA];refine g8 Hy ?_;simp only[cA,nA];refine g8 Xo ?_;simp only[cA,nA];refine Bq (u:= .slice a2 (wlU us i++[u.ppl]).length c2) Dt rfl rfl rfl hb7 (by show 0+12+0<17;decide) rfl rfl rfl (fun h=>(nomatch h)) ?_;simp only[cA,nA];change den _ _ _ _ _ _ (H7.put b (.cells (woC dm n k ms lv who w rw lo hi (.slice a2 (wlU us i++[u.ppl]).length c2) (s5 us i)) 132 (0,0)));have wI:∀{Y:PH} {ob:Obj},Pl H Y->Pl H (Y.put b ob):=fun hy b' ob' wJ=>by rw[PH.put_ne _ _ (fun e=>by subst e;rw[vK]at wJ;cases wJ)];exact hy _ _ wJ
   have l8:=wI (ob:= .cells (woC dm n k ms lv who w rw lo hi (.slice a2 (wlU us i++[u.ppl]).length c2) (s5 us i)) 132 (0,0)) (xb1.trans l7);have o8:=(Ej (o7.less xb1) hb7 (show 3≠132 by decide)).mono (PH.cut_put H7 b (.cells (woC dm n k ms lv who w rw lo hi (.slice a2 (wlU us i++[u.ppl]).length c2) (s5 us i)) 132 (0,0)));have wK:=PH.put_self H7 b (.cells (woC dm n k ms lv who w rw lo hi (.slice a2 (wlU us i++[u.ppl]).length c2) (s5 us i)) 132 (0,0));generalize H7.put b (.cells (woC dm n k ms lv who w rw lo hi (.slice a2 (wlU us i++[u.ppl]).length c2) (s5 us i)) 132 (0,0))=H8 at l8 o8 wK⊢;have a1r:wlU us i++[u.ppl]=wlU us (i+1):=by rw[DX hx,hup]
   rw[a1r]at wK o8;refine j6 ?_;simp only[cA,nA];refine g8 Qm ?_;simp only[cA,nA];refine g9 Hw rfl rfl wK rfl rfl ?_;simp only[cA,nA];refine b9 ?_;refine g6 (b:=s5 us i) rfl (fun wL=> ?_) (fun wL=> ?_)
   ·skip
    refine j6 ?_;simp only[cA,nA];refine g8 Qm ?_;simp only[cA,nA];refine Bq (u:= .bool true) Hw rfl rfl rfl wK (by show 0+16<17;decide) rfl rfl rfl (fun h=>(nomatch h)) ?_;simp only[cA,nA];change den _ _ _ _ _ _ (H8.put b (.cells (woC dm n k ms lv who w rw lo hi (.slice a2 (wlU us (i+1)).length c2) true) 132 (0,0)));exact⟨(i+1,.slice a2 (wlU us (i+1)).length c2),by show us.length-(i+1)<us.length-i;omega,(p6 (j5 rfl aA)),⟨by show i+1<=us.length;omega,wI l8,by rw[sG,cu hx,wL];exact PH.put_self _ _ _,by rw[sG];exact(Ej o8 wK (show 3≠132 by decide)).mono (PH.cut_put _ _ _)⟩⟩
   ·skip
    refine b9 ?_;refine j6 ?_;simp only[cA,nA];refine g8 Qm ?_;simp only[cA,nA];refine Bq (u:= .bool (decide (u.ppl>0))) Hw rfl rfl rfl wK (by show 0+16<17;decide) rfl rfl rfl (fun h=>(nomatch h)) ?_;simp only[cA,nA];change den _ _ _ _ _ _ (H8.put b (.cells (woC dm n k ms lv who w rw lo hi (.slice a2 (wlU us (i+1)).length c2) (decide (u.ppl>0))) 132 (0,0)));exact⟨(i+1,.slice a2 (wlU us (i+1)).length c2),by show us.length-(i+1)<us.length-i;omega,(p6 (j5 rfl aA)),⟨by show i+1<=us.length;omega,wI l8,by rw[sG,cu hx,wL,<-hup];exact PH.put_self _ _ _,by rw[sG];exact(Ej o8 wK (show 3≠132 by decide)).mono (PH.cut_put _ _ _)⟩⟩
  ·skip
   have wZ:n<=i:=by rw[rG]at qZ;simpa using qZ
   have sG:min (i+1) n=min i n:=aA;exact⟨(i+1,out),by show us.length-(i+1)<us.length-i;omega,(p6 (j5 rfl aA)),⟨by show i+1<=us.length;omega,lX,by rw[sG];exact uE,by rw[sG];exact oX⟩⟩
 ·replace h:=oDf h;rw[show min i n=n by omega]at uE oX;refine j6 ?_;simp only[cA,nA];refine g8 Hy ?_;simp only[cA,nA];refine g8 Xo ?_;simp only[cA,nA];refine g9 Dt rfl rfl uE rfl rfl ?_;simp only[cA,nA];refine Dc el_int rfl rfl oX.se rfl ?_;simp only[cA,nA];have hwl:(wlU us n).length=n:=hS.bd.len;refine b9 (b9 ?_);refine j9 (Xk 5) (i0 (Py (a:=(((wlU us n).length:Nat):Int)) (b:=((n:Nat):Int)) aA) rfl) ?_;simp only[cA,nA];refine j6 ?_;simp only[cA,nA];refine g8 Hy ?_;simp only[cA,nA];refine x5 (vs:=[out,ii lo,ii hi,ii (k:Nat)]) Xq rfl rfl uE rfl (show 0+12+4<=17 by decide) rfl ?_;simp only[cA,nA];refine i8 (BU (hM.gr.mono lX) hS.gv aA oX.se hS.bd) rfl fun H4 l4=> ?_;simp only[cA,nA];refine j9 (Ui) rfl ?_;simp only[cA,nA];refine j9 (d0M (l4 _ _ uE) hS.m1 hS.m8 hS.lv hS.wg hS.wp hz) rfl ?_;simp only[cA,nA];exact d4 rfl ⟨lX.trans l4,b,out,rfl,l4 _ _ uE,hM.mono (lX.trans l4),oX.se.mono l4⟩
end
end Go.Z
namespace Go.GS
def Bn (ps:List Nat) (i:Nat):Nat:=match ps[i-1]? with|some x=>x%i|none=>i-1
def Ul {ps:List Nat} {i:Nat} (h:1<=i):Bn ps i<i:=by
 unfold Bn;split
 ·exact cI _ h
 ·omega
def Uo {p q:List Nat}:∀v,v<=p.length->clsP (p++q) v=clsP p v
 |0,_=>rfl
 |v+1,h=>by
  show u0 (clsP (p++q) v) v ((p++q).getD v 0)=u0 (clsP p v) v (p.getD v 0);rw[Uo v aA];congr 1;rw[aJ,aJ,aM aA]
structure PlD (ps:List Nat) (m:Nat) (p:List Nat) (k:Nat):Prop where
 k1:1<=k
 km:k<=m
 p0:1<=p.length
 lt:∀x∈p,x<k
 use:∀d,d<k->d∈p
 can:∀v,v<p.length->p.getD v 0<=(clsP p v).length
 len:(clsP p p.length).length=k
 par:∀v,v<p.length->(∀u,u<v->p.getD u 0≠p.getD v 0)\/(1<=v/\p.getD (Bn ps v) 0=p.getD v 0)
def PlD.one {ps:List Nat} {m:Nat} (hm:1<=m):PlD ps m [0] 1:=by
 refine⟨aS _,hm,aS _,fun x hx=> ?_,fun d hd=> ?_,fun v hv=> ?_,rfl,fun v hv=> ?_⟩
 ·rw[bB]at hx;subst hx;decide
 ·rw[bB];omega
 ·obtain rfl:v=0:=by simpa using hv
  exact bK _
 ·obtain rfl:v=0:=by simpa using hv
  exact .inl fun u hu=>absurd hu aA
def Jd {p:List Nat} {x v:Nat} (h:v<p.length):(p++[x]).getD v 0=p.getD v 0:=by
 rw[aJ,aJ,aM h]
def Up {p:List Nat} {x:Nat}:(p++[x]).getD p.length 0=x:=by
 rw[aJ,aN (aS _),dS];rfl
def VB {p:List Nat} {v:Nat} (h:v<p.length):p.getD v 0∈p:=by
 rw[aJ,aG h];exact dL h
section
variable {ps p:List Nat} {m k:Nat}
def PlD.old (h:PlD ps m p k):PlD ps m (p++[p.getD (Bn ps p.length) 0]) k:=by
 have hp:=Ul (ps:=ps) h.p0;have hx:p.getD (Bn ps p.length) 0<k:=h.lt _ (VB hp);have hl:(p++[p.getD (Bn ps p.length) 0]).length=p.length+1:=aD;refine⟨h.k1,h.km,aA,fun x hm=> ?_,fun d hd=>kH _ (h.use d hd),fun v hv=> ?_,?_,fun v hv=> ?_⟩
 ·rcases aV.1 hm with hm|hm
  ·exact h.lt x hm
  ·rw[bB]at hm;subst hm;exact hx
 ·rw[Uo v aA];by_cases e:v=p.length
  ·subst e;rw[Up,h.len];omega
  ·rw[Jd aA];exact h.can v aA
 ·rw[hl];show(u0 (clsP _ p.length) p.length ((p++_).getD p.length 0)).length=k;rw[Uo _ (aS _),Up,Pm,h.len,if_pos hx]
 ·by_cases e:v=p.length
  ·subst e;exact .inr ⟨h.p0,by rw[Up,Jd hp]⟩
  ·have wM:v<p.length:=aA;rw[Jd wM];rcases h.par v wM with h1|⟨h1,h2⟩
   ·exact .inl fun u hu=>by rw[Jd aA];exact h1 u hu
   ·have:=Ul (ps:=ps) h1;exact .inr ⟨h1,by rw[Jd aA];exact h2⟩
def PlD.new (h:PlD ps m p k) (hk:k<m):PlD ps m (p++[k]) (k+1):=by
 have hl:(p++[k]).length=p.length+1:=aD;refine⟨aA,hk,aA,fun x hm=> ?_,fun d hd=> ?_,fun v hv=> ?_,?_,fun v hv=> ?_⟩
 ·rcases aV.1 hm with hm|hm
  ·have:=h.lt x hm;omega
  ·rw[bB]at hm;omega
 ·by_cases e:d=k
  ·subst e;simp
  ·exact kH _ (h.use d aA)
 ·rw[Uo v aA];by_cases e:v=p.length
  ·subst e;rw[Up,h.len];exact aS _
  ·rw[Jd aA];exact h.can v aA
 ·rw[hl];show(u0 (clsP _ p.length) p.length ((p++_).getD p.length 0)).length=k+1;rw[Uo _ (aS _),Up,Pm,h.len,if_neg (Nat.lt_irrefl k)]
 ·by_cases e:v=p.length
  ·subst e;exact .inl fun u hu=>by rw[Up,Jd hu];have:=h.lt _ (VB hu);omega
  ·have wM:v<p.length:=aA;rw[Jd wM];rcases h.par v wM with h1|⟨h1,h2⟩
   ·exact .inl fun u hu=>by rw[Jd aA];exact h1 u hu
   ·have:=Ul (ps:=ps) h1;exact .inr ⟨h1,by rw[Jd aA];exact h2⟩
def r6 (p:List Nat):List Int:=p.map fun x:Nat=>(x:Int)
def Qn:(r6 p).length=p.length:=aR ..
def EA {v:Nat} (h:v<p.length):(r6 p)[v]? =some ((p.getD v 0:Nat):Int):=by
 unfold r6;rw[aX,aJ,aG h];rfl
def ow {d v:Nat}:bit (Dq (r6 p) (d:Nat)) v=(decide (v<p.length)&&decide (p.getD v 0=d)):=by
 unfold Dq;rw[Wa,Qn];by_cases h:v<p.length
 ·rw[EA h];congr 1;refine decide_eq_decide.2 ⟨fun e=>by injection e with e;omega,fun e=>by rw[e]⟩
 ·rw[decide_eq_false h];rfl
variable {es:List (Nat×Nat)} {n:Nat}
def PlD.root (h:PlD ps m p k) (he:∀v,1<=v->v<p.length->(Bn ps v,v)∈es) {d:Nat}:∀N v,v<N->v<p.length->p.getD v 0=d->∃f,f<=v/\p.getD f 0=d/\(∀u,u<f->p.getD u 0≠d)/\Rch es (Dq (r6 p) (d:Nat)) f v:=by
 intro N;induction N with
 |zero=>intro v h;omega
 |succ N ih=>
  intro v hN hv hd;rcases h.par v hv with h1|⟨h1,h2⟩
  ·exact⟨v,aS _,hd,fun u hu=>by have:=h1 u hu;omega,.base⟩
  ·have qB:=Ul (ps:=ps) h1;obtain⟨f,hf,hfd,hfu,hr⟩:=ih (Bn ps v) aA aA aA;exact⟨f,aA,hfd,hfu,hr.step ⟨_,he v h1 hv,.inl ⟨rfl,rfl⟩⟩ (by rw[ow,oDd hv,oDd hd];rfl)⟩
def PlD.cn (h:PlD ps m p k) (he:∀v,1<=v->v<p.length->(Bn ps v,v)∈es) {d:Nat} (hd:d<k):Cn es (Dq (r6 p) (d:Nat)):=by
 obtain⟨v,hv⟩:=dB (h.use d hd);have uL:=(aH.1 hv).1;have hvd:p.getD v 0=d:=by rw[aJ,hv];rfl
 obtain⟨f,hf,hfd,hfu,_⟩:=h.root he (v+1) v (bW v) uL hvd;refine⟨f,by rw[ow,oDd (show f<p.length by omega),oDd hfd];rfl,fun y hy=> ?_⟩;rw[ow,aQ,oDi,oDi]at hy;obtain⟨g,hg,hgd,hgu,hr⟩:=h.root he (y+1) y (bW y) hy.1 hy.2;have:g=f:=by
  rcases Nat.lt_trichotomy g f with h1|h1|h1
  ·exact absurd hgd (hfu g h1)
  ·exact h1
  ·exact absurd hfd (hgu f h1)
 subst this;exact hr
def PlD.plOk (h:PlD ps m p k) (hn:p.length=n):PlOk n k (r6 p):=by
 refine⟨by rw[Qn];exact hn,fun x hx=> ?_,fun d hd=>aZ.2 ⟨d,h.use d hd,rfl⟩⟩;obtain⟨y,hy,rfl⟩:=aZ.1 hx;have:=h.lt y hy;exact⟨eC _,aA⟩
def PlD.mask0 (h:PlD ps m p k) {d:Nat} (hd:d<k):Dq (r6 p) (d:Nat)≠0:=fun e=>by
 obtain⟨v,hv⟩:=dB (h.use d hd);have uL:=(aH.1 hv).1;have hvd:p.getD v 0=d:=by rw[aJ,hv];rfl
 have h1:bit (Dq (r6 p) (d:Nat)) v=true:=by rw[ow,oDd uL,oDd hvd];rfl
 rw[e,Gk]at h1;cases h1
variable {us:List Un} {lo hi:Int}
def VC {q:List Int} {d:Nat} (hu:n<=us.length) (hq:q.length=n):∀i,i<=n->i9 Un.ppl us q i d=(((eO i).filter fun x=>decide (q[x]? =some (d:Int))).map fun x=>(wlU us n).getD x 0).sum
 |0,_=>rfl
 |i+1,hi=>by
  have e1:q[i]? =some q[i]:=aG aA;have e2:us[i]? =some us[i]:=aG aA;have e3:(wlU us n).getD i 0=(us[i]).ppl:=by
   unfold wlU;rw[aJ,aX,dD aA,e2];rfl
  show i9 Un.ppl us q i d+(match q[i]?,us[i]? with|some x,some u=>if x=(d:Nat)then Un.ppl u else 0|_,_=>0)=_;rw[VC hu hq i aA,List.range_succ,fF,bM,jC];congr 1;rw[e1,e2];show(if q[i]=(d:Int)then(us[i]).ppl else 0)=_;by_cases h:q[i]=(d:Int)
  ·rw[if_pos h,eE (by rw[e1,h];simp)];simp only[List.filter_nil,bI,bR,eP,mS,e3,Int.add_zero]
  ·rw[if_neg h,dH (by rw[e1];simpa using h)];rfl
def d0N {q:List Int} {d:Nat} (hu:n<=us.length) (hq:q.length=n) (hn:n<=64):Bd (wlU us n) (Dq q (d:Nat))=i9 Un.ppl us q n d:=by
 rw[VC hu hq n (aS _)];unfold Bd;congr 2;refine LZ (yx _) (List.pairwise_lt_range.filter _) fun x=> ?_;have hM:Dq q (d:Nat)<M64:=NB q _ aA;rw[Ju hM,bZ,aW];unfold Dq;rw[Wa,hq,aQ,oDi,oDi]
def PlD.alB (h:PlD ps m p k) (he:∀v,1<=v->v<p.length->(Bn ps v,v)∈es) (hn:p.length=n) (zQ:n<=64) (hu:n<=us.length) (hw:∀d,d<k->lo<=i9 Un.ppl us (r6 p) n d/\i9 Un.ppl us (r6 p) n d<=hi) {d:Nat} (hd:d<k):alB es (wlU us n) lo hi (Dq (r6 p) (d:Nat))=true:=by
 have:=hw d hd;unfold Go.GS.alB;rw[cnB_iff.2 (h.cn he hd),d0N hu (by rw[Qn];exact hn) zQ,oDd (show i9 Un.ppl us (r6 p) n d≥lo from this.1),oDd this.2];rfl
def PlD.fit (h:PlD ps m p k) (hm:m<=8) (he:∀v,1<=v->v<p.length->(Bn ps v,v)∈es) (hn:p.length=n) (zQ:n<=64) (hu:n<=us.length) (hw:∀d,d<k->lo<=i9 Un.ppl us (r6 p) n d/\i9 Un.ppl us (r6 p) n d<=hi):Fo n es (wlU us n) lo hi (k:Nat) (r6 p)=true:=by
 have hk1:=h.k1;have hkm:=h.km;have wU:=h.p0;have hO:=h.plOk hn;unfold Fo;rw[aQ];refine⟨oDd ?_,cH.2 fun s hs=> ?_⟩
 ·unfold plE;rw[if_neg aA,if_pos ⟨hO.len,⟨hO.lab,by rw[Qn];omega,by rw[Qn];omega⟩,fun d hd=>h.mask0 aA⟩]
 ·rw[bU]at hs;obtain⟨d,hd,rfl⟩:=aZ.1 hs;exact h.alB he hn zQ hu hw (aW.1 hd)
def PlD.pos (h:PlD ps m p k) (he:∀v,1<=v->v<p.length->(Bn ps v,v)∈es) (hn:p.length=n) (zQ:n<=64) (hu:n<=us.length) (hw:∀d,d<k->lo<=i9 Un.ppl us (r6 p) n d/\i9 Un.ppl us (r6 p) n d<=hi):0<Fv (Go.GS.alB es (wlU us n) lo hi) n k:=by
 have hl:=h.len;have hc:=h.can;rw[hn]at hl hc;refine d5Q hc hl fun c uW=> ?_;obtain⟨d,hd⟩:=dB uW;have hdl:=(aH.1 hd).1;have uW:=QK (p:=p) n aA (fun u hu=>hc u hu) d hdl;rw[hd]at uW
 injection uW with uW
 subst uW;have:=h.alB he hn zQ hu hw (show d<k by omega);unfold Dq at this;rw[Qn,hn]at this;exact this
end
end Go.GS
namespace Go.RX
open RowKit
def PH.sub (H X:PH):PH:=fun b=>match X b with|some _=>none|none=>H b
def PH.or_sub {X H:PH} (h:Pl X H):X.or (H.sub X)=H:=funext fun b=>by
 unfold PH.or PH.sub;cases e:X b with
 |none=>rfl
 |some o=>exact(h b o e).symm
def PH.disj_sub (X H:PH):Disj X (H.sub X):=fun b hb=>by
 unfold PH.sub;cases e:X b with
 |none=>exact absurd e hb
 |some o=>rfl
def PH.or_nil (X:PH):X.or PH.nil=X:=funext fun b=>by
 unfold PH.or;cases e:X b<;>rfl
end Go.RX
namespace Go.Z
open Proofs.Tryz RowKit RX GS RZ WD
section
variable {dm:Dm} {H B:PH} {n k ms lv who:Nat} {es:List (Nat×Nat)} {us:List Un} {w rw wts u:Value} {lo hi:Int} {b:Nat} {p:List Int}
def d0O (hv:RoV dm n us):∀i,s5 us i=true->0<Aw us i:=by
 intro i;induction i with
 |zero=>intro h;simp[s5]at h
 |succ i ih=>
  intro h;have hb:=(bn hv.un i).1;have e:Aw us (i+1)=Aw us i+((us[i]?).map (·.ppl)).getD 0:=rfl;cases hx:us[i]? with
  |none=>
   have e2:s5 us (i+1)=s5 us i:=by unfold s5;rw[dE,hx];simp
   rw[e2]at h;rw[e,hx];have:=ih h;show 0<Aw us i+0;omega
  |some x=>
   rw[cu hx]at h;rw[e,hx];have hxp:=Iy hv x (aK hx);show 0<Aw us i+x.ppl;rcases cO _ _ ▸ h with h1|h1
   ·have:=ih h1;omega
   ·have:=oDt h1;omega
def StOk.mok (hS:StOk dm n k ms lv who es us lo hi) (hz:ms=1->s5 us n=true):Xe dm n us ms lv who:=⟨hS.m1,hS.m8,hS.lv,hS.wg,hS.wp,fun e=>by have:=d0O hS.rv n (hz e);omega⟩
def VD (hW:Wo dm H b n k ms lv who w rw es us lo hi wts) (hS:StOk dm n k ms lv who es us lo hi) (hz:ms=1->s5 us n=true) (hp:SI H u p) (ho:PlOk n k p):j4 prog 53 [.pointer (some ⟨b,0,none⟩),u] H (shR (An dm n es us k ms lv who p)):=by
 refine g5 mixed d7x ?_;refine j6 ?_;simp only[cA,nA];refine g8 Cd ?_;simp only[cA,nA];refine g8 Xn ?_;simp only[cA,nA];refine x5 (vs:=[ii (n:Nat),w]) Qg rfl rfl hW.bk rfl (show 0+0+0+2<=17 by decide) rfl ?_;simp only[cA,nA];refine j6 ?_;simp only[cA,nA];refine g8 Cd ?_;simp only[cA,nA];refine g8 cj ?_;simp only[cA,nA];refine x5 (vs:=[ii (dm.g:Nat),ii (dm.p:Nat),ii (dm.l:Nat),rw]) Pz rfl rfl hW.bk rfl (show 0+0+2+4<=17 by decide) rfl ?_;simp only[cA,nA];refine j6 ?_;simp only[cA,nA];refine g8 Cd ?_;simp only[cA,nA];refine g8 UW ?_;simp only[cA,nA];refine g9 sc_int rfl rfl hW.bk rfl rfl ?_;simp only[cA,nA];refine j6 ?_;simp only[cA,nA];refine g8 Cd ?_;simp only[cA,nA];refine g8 cm ?_;simp only[cA,nA];refine g9 sc_int rfl rfl hW.bk rfl rfl ?_;simp only[cA,nA];refine j6 ?_;simp only[cA,nA];refine g8 Cd ?_;simp only[cA,nA];refine g8 DV ?_;simp only[cA,nA];refine g9 sc_int rfl rfl hW.bk rfl rfl ?_;simp only[cA,nA];refine j6 ?_;simp only[cA,nA];refine g8 Cd ?_;simp only[cA,nA];refine g8 DW ?_;simp only[cA,nA];refine g9 sc_int rfl rfl hW.bk rfl rfl ?_;simp only[cA,nA];refine i8 (TY hW.mm.gr hS.gv hW.mm.ro hS.rv hp ho hS.hk (hS.mok hz)) rfl fun H1 l1=> ?_;simp only[cA,nA];refine g7 (g7 ?_);refine j9 (UT _ _) rfl ?_;simp only[cA,nA];refine b4 (j7 _ _) ?_;exact d4 rfl ⟨l1,rfl⟩
def cw:Sc prog 94:=⟨aB,aB,aB⟩
def cx:Sc prog 64:=⟨aB,aB,aB⟩
def VE:(j3 prog 64).cells= #[.slice none 0 0]:=aB
def EB:n8 prog 84=true:=aB
noncomputable def Aa (n k:Nat) (es:List (Nat×Nat)) (us:List Un) (lo hi:Int) (i:Nat):List Int:=Jz (alB es (wlU us n) lo hi) n k i
noncomputable def p7 (n k:Nat) (es:List (Nat×Nat)) (us:List Un) (lo hi:Int):Nat:=Fv (alB es (wlU us n) lo hi) n k
structure AllI (dm:Dm) (H:PH) (z c b n k ms lv who:Nat) (w rw:Value) (es:List (Nat×Nat)) (us:List Un) (lo hi:Int) (wts lv':Value) (m:List Slc):Prop where
 zb:H z=some (.cells #[lv'] 64 (0,0))
 cb:H c=some (.cells #[.pointer (some ⟨b,0,none⟩)] 94 (0,0))
 wo:Wo dm H b n k ms lv who w rw es us lo hi wts
 se:SE H 1 (fun s:Slc=>[vs s]) lv' m
 len:m.length=p7 n k es us lo hi
 at':∀(i:Nat) s,m[i]? =some s->SI H (vs s) (Aa n k es us lo hi i)
def AllI.mono {H':PH} {z c:Nat} {lv':Value} {m:List Slc} (h:AllI dm H z c b n k ms lv who w rw es us lo hi wts lv' m) (hl:Pl H H'):AllI dm H' z c b n k ms lv who w rw es us lo hi wts lv' m:=⟨hl _ _ h.zb,hl _ _ h.cb,h.wo.mono hl,h.se.mono hl,h.len,fun i s hs=>(h.at' i s hs).mono hl⟩
def EC (hW:Wo dm H b n k ms lv who w rw es us lo hi wts) (hS:StOk dm n k ms lv who es us lo hi) (hp:0<p7 n k es us lo hi):Con prog 30 [.pointer (some ⟨b,0,none⟩)] H fun r H'=>Pl H H'/\∃z c lv' m,r= .func (.func 84) #[] #[.pointer (some ⟨z,0,none⟩),.pointer (some ⟨c,0,none⟩)]/\AllI dm H' z c b n k ms lv who w rw es us lo hi wts lv' m:=by
 refine g5 mixed UE ?_;refine b4 (Uc rfl rfl) ?_;refine o0 (cs:= #[.pointer (some ⟨b,0,none⟩)]) rfl fun c hc=> ?_;simp only[cA,nA];have lc:=PH.le_put hc (.cells #[.pointer (some ⟨b,0,none⟩)] 94 (0,0));have vF:=PH.put_self H c (.cells #[.pointer (some ⟨b,0,none⟩)] 94 (0,0));generalize H.put c (.cells #[.pointer (some ⟨b,0,none⟩)] 94 (0,0))=H1 at lc vF⊢;have sO:=hW.mono lc;refine g9 cw rfl rfl vF rfl rfl ?_;simp only[cA,nA];refine j6 ?_;simp only[cA,nA];refine g8 Cd ?_;simp only[cA,nA];refine g8 Xn ?_;simp only[cA,nA];refine x5 (vs:=[ii (n:Nat),w]) Qg rfl rfl sO.bk rfl (show 0+0+0+2<=17 by decide) rfl ?_;simp only[cA,nA];refine g9 cw rfl rfl vF rfl rfl ?_;simp only[cA,nA];refine j6 ?_;simp only[cA,nA];refine g8 Hy ?_;simp only[cA,nA];refine x5 (vs:=[wts,ii lo,ii hi,ii (k:Nat)]) Xq rfl rfl sO.bk rfl (show 0+12+4<=17 by decide) rfl ?_;simp only[cA,nA];refine f0 (BV sO.mm.tb sO.mm.gr hS.gv hS.n6 sO.wt hS.bd) rfl ?_;rintro _ H2 ⟨l2,v,m,rfl,vP,qC,rV⟩;refine⟨(fun _=>l2),?_⟩;simp only[cA,nA];refine g7 (g7 ?_);refine j9 (UU _) rfl ?_;simp only[cA,nA];obtain⟨_,a1,c1,rfl,_⟩:=id vP;refine o0 (cs:= #[.slice none 0 0]) VE fun z hz=> ?_;simp only[cA,nA];refine Bq (u:= .slice a1 m.length c1) cx rfl rfl rfl (PH.put_self _ _ _) aD rfl rfl rfl (fun h=>(nomatch h)) ?_;simp only[cA,nA];rw[PH.put_put];change den _ _ _ _ _ _ (H2.put z (.cells #[.slice a1 m.length c1] 64 (0,0)));have lz:=PH.le_put hz (.cells #[.slice a1 m.length c1] 64 (0,0));have vL:=PH.put_self H2 z (.cells #[.slice a1 m.length c1] 64 (0,0));generalize H2.put z (.cells #[.slice a1 m.length c1] 64 (0,0))=H3 at lz vL⊢;refine g9 cx rfl rfl vL rfl rfl ?_;simp only[cA,nA];refine m9 Pe (vP.mono lz) ?_;simp only[cA,nA];refine b9 ?_;refine j9 (Xk 4) (i0 (bz (a:=((m.length:Nat):Int)) (by have:m.length=p7 n k es us lo hi:=qC;omega)) rfl) ?_;simp only[cA,nA];refine y8 (Ai (vs:=[.pointer (some ⟨z,0,none⟩),.pointer (some ⟨c,0,none⟩)]) rfl rfl) rfl ?_;simp only[cA,nA];exact d4 rfl ⟨lc.trans (l2.trans lz),z,c,_,m,rfl,vL,lz _ _ (l2 _ _ vF),sO.mono (l2.trans lz),vP.mono lz,qC,fun i s hs=>(rV i s hs).mono lz⟩
def Xr {i:Nat} (h:i<p7 n k es us lo hi):PlOk n k (Aa n k es us lo hi i):=by
 obtain⟨h1,h2,h3⟩:=c9B (ft:=alB es (wlU us n) lo hi) (n:=n) (k:=k) (i:=i) h;refine⟨by unfold Aa Jz;rw[aR];exact h1,fun x hx=> ?_,fun d hd=> ?_⟩
 ·unfold Aa Jz at hx;obtain⟨y,hy,rfl⟩:=aZ.1 hx;have:=h2 y hy;omega
 ·unfold Aa Jz;exact aZ.2 ⟨d,h3 d hd,rfl⟩
def ED {z c:Nat} {lv':Value} {m:List Slc} {Ro:PH} (hA:AllI dm Ro z c b n k ms lv who w rw es us lo hi wts lv' m) (hS:StOk dm n k ms lv who es us lo hi) (hz:ms=1->s5 us n=true) (ho:∀i,i<p7 n k es us lo hi->PlOk n k (Aa n k es us lo hi i)) (hm:m.length<=1000):
  ItC prog 84 [.pointer (some ⟨z,0,none⟩),.pointer (some ⟨c,0,none⟩)] Ro PH.nil (fun pre xs=>∃s,m[pre.length]? =some s/\xs=[vs s,shR (An dm n es us k ms lv who (Aa n k es us lo hi pre.length))]) (fun xs _=>xs.length=m.length) (fun _ _=>True):=by
 intro l J Jx uV hY X hX hd w' rU;refine(s7 (H:=X.or PH.nil) (V:=fun _ H'=>∃X' K',Pl (X'.or K') H'/\Disj X' K'/\((∃xs,xs.length=m.length/\J xs X')\/(∃pre,True/\Jx pre X'))) mixed d0A aB rfl ?_ w' rU).mono fun e w' ⟨v,H',he,rB,hV⟩=>⟨v,H',he,rB,hV⟩;have hA0:=hA.mono ((uV _ _ hX).trans (PH.le_or X PH.nil));refine g9 cx rfl rfl hA0.zb rfl rfl ?_;refine Dc Pe rfl rfl hA0.se rfl ?_;refine r7 (α:=Nat×List (List Value)×PH×PH) (fun⟨i,pre,X',K⟩=>[ii (i:Nat)]) (fun⟨i,pre,X',K⟩=>fun H'=>i<=m.length/\H'=X'.or K/\Disj X' K/\pre.length=i/\J pre X') (fun⟨i,pre,X',K⟩=>m.length-i) ((0,[],X,PH.nil)) rfl (⟨bK _,rfl,hd,rfl,hX⟩) fun⟨i,pre,X',K⟩ H' hQ=> ?_;obtain⟨hiI,rfl,qS,qD,hJ⟩:=hQ;have hA1:=hA.mono ((uV _ _ hJ).trans (PH.le_or X' K));refine b9 (b9 ?_);refine g6 (b:=decide (((i:Nat):Int)<(m.length:Nat))) rfl (fun h=> ?_) (fun h=> ?_)
 ·replace h:=oDt h;have qG:i<m.length:=aA;obtain⟨s,hs,_⟩:=q8 qG;have hiN:i<p7 n k es us lo hi:=by have:=hA.len;omega
  refine Ac Pe rfl rfl rfl rfl aF hA1.se hs rfl aF fun _=> ?_;refine g9 cw rfl rfl hA1.cb rfl rfl ?_;refine i8 (VD hA1.wo hS hz (hA1.at' i s hs) (ho i hiN)) rfl fun H2 l2=> ?_;have lX2:Pl X' H2:=(PH.le_or X' K).trans l2;rw[<-PH.or_sub lX2];refine Vu (hY _ [vs s,shR (An dm n es us k ms lv who (Aa n k es us lo hi i))] X' (H2.sub X') ⟨s,by rw[qD];exact hs,by rw[qD]⟩ hJ (PH.disj_sub _ _)) rfl rfl rfl rfl rfl fun v X2 qH hV=> ?_;obtain⟨bb,rfl,qU,wN⟩:∃bb,v= .bool bb/\(bb=true->J (pre++[[vs s,shR (An dm n es us k ms lv who (Aa n k es us lo hi i))]]) X2)/\(bb=false->Jx (pre++[[vs s,shR (An dm n es us k ms lv who (Aa n k es us lo hi i))]]) X2):=by
   rcases hV with⟨rfl,h⟩|⟨rfl,h⟩
   ·exact⟨true,rfl,fun _=>h,(fun h=>nomatch h)⟩
   ·exact⟨false,rfl,(fun h=>nomatch h),fun _=>h⟩
  refine b9 ?_;refine g6 (b:= !bb) rfl (fun qM=> ?_) (fun qM=> ?_)
  ·skip
   exact d4 rfl ⟨X2,H2.sub X',Pl.refl _,qH,.inr ⟨_,trivial,wN (by simpa using qM)⟩⟩
  ·skip
   exact⟨(i+1,pre++[[vs s,shR (An dm n es us k ms lv who (Aa n k es us lo hi i))]],X2,H2.sub X'),by show m.length-(i+1)<m.length-i;omega,(p6 (j5 rfl aA)),⟨qG,rfl,qH,by rw[aL];simp;omega,qU (by simpa using qM)⟩⟩
 ·replace h:=oDf h;exact d4 rfl ⟨X',K,Pl.refl _,qS,.inl ⟨pre,aA,hJ⟩⟩
end
def CntS (B H:PH) (m:Value) (l:List Rat) (i:Nat):Prop:=∃L:List (Rat×Value),MKO Rg shR B H m L/\(∀r,r∈L.map (·.1)↔r∈l.take i)/\∀q∈L,q.2=iw (((l.take i).count q.1:Nat):Int)
section
variable {dm:Dm} {H B:PH} {n k ms lv who:Nat} {es:List (Nat×Nat)} {us:List Un} {w rw wts u v:Value} {lo hi:Int} {b i:Nat} {p:List Int} {l:List Rat}
def ox (a:Nat):Asks prog 31 [wd a,ii 0] H (wd a):=by
 refine g5 mixed d7r ?_;refine b4 ⟨words_size a,words_one a⟩ ?_;refine b9 ?_;refine i7 (bF (p:=(0:Int)≠0) aD) ?_;exact d4 rfl ⟨rfl,rfl⟩
def Xs:prog.underlying 92=some (.map 53 51):=aB
def VF:∀w,(zeroValue 51).run prog w= .ok (wd 0) w:=by
 have hi:(prog.info? 51).map (fun i=>(i.zero,i.size))=some (some (.agg #[GS.uv 0,GS.uv 0,GS.uv 0,GS.uv 0,GS.uv 0,GS.uv 0,GS.uv 0,GS.uv 0]),8):=aB;have e:wd 0= .agg #[GS.uv 0,GS.uv 0,GS.uv 0,GS.uv 0,GS.uv 0,GS.uv 0,GS.uv 0,GS.uv 0]:=by rw[<-Ij];kernel_rfl
 rw[e];exact(Go.zero_of_info hi).1
def fits_small {z:Int} (h0:0<=z) (h1:z<9223372036854775808):Jo z:=by
 have:=e2K;unfold Jo;omega
def EE {a b:Int} (ha:0<=a) (hb:0<=b) (h:a+b<9223372036854775808):Det prog 32 [iw a,iw b] (.tuple #[iw (a+b),ii 0]):=by
 have h1:=P1 (rs a) (rs b);rw[Ii (fits_small ha aA),Ii (fits_small hb aA),xn (fits_small aA h)]at h1;exact h1
def b9q {c n:Nat} (hn:0<n) (hc:c<2^20) (h:n<2^20):j4 prog 87 [iw ((c:Nat):Int),iw ((n:Nat):Int)] H (.tuple #[shR (qN c n),ii 0]):=
 (LN _ _).mono fun u H' hh=>⟨hh.1,by
  rw[hh.2,Ii (fits_small aA aA),Ii (fits_small aA aA)];unfold Gi;rw[if_neg aA];exact Sj (Xf hn hc h)⟩
def VG (hM:CntS B H v l l.length) (hn:l≠[]) (hl:l.length<=400):Con prog 34 [v] H fun r H'=>Pl H H'/\∃m,SE H' 32 ceM r m/\TalP l m:=by
 refine g5 mixed d7y ?_;have hl0:0<l.length:=eD.2 hn;obtain⟨L,o1,hk,hv⟩:=hM;rw[eB]at hk hv;have hmk:=o1.mk;obtain⟨r,es,clock,rfl,-,hHr,hE,rW⟩:=id o1;have rC:es.map (·.1)=L.map (·.1):=by rw[<-rW];unfold kvN;rw[dO];rfl
 have hLl:L.length<=400:=by
  have:=jM hmk.keys.1 (l₂:=l) fun x hx=>(hk x).1 hx;rw[aR]at this;omega
 have rY:es.length=L.length:=by have:=congrArg pL rC;simpa using this
 have sR:∀q,l.count q<=400:=fun q=>by have:=gC (a:=q) (l:=l);omega
 have a1a:(es.map fun e=>l.count e.1).sum=l.length:=by
  have:=UM (l:=l) hE.keys (fun x hx=>by rw[rC];exact(hk x).2 hx)
  rwa[dO]at this
 have heL:∀e∈es,e.2.1=iw ((l.count e.1:Nat):Int):=fun e he=>hv (e.1,e.2.1) (by rw[<-rW];exact aZ.2 ⟨e,he,rfl⟩);have iw0:iw ((0:Nat):Int)=wd 0:=rfl;refine j1 (mn (κ:=Rat) (ke:=shR) (vs:=[.map (some r)]) rfl rfl Xs hHr) rfl ?_;rintro _ _ ⟨q,hq,rfl,rfl⟩;refine nmI ?_;have uZ:r≠q:=fun e=>by subst e;rw[hHr]at hq;cases hq
 have hI0:IT shR (H.put q (.mapIter (some r) clock #[] clock)) q r es clock []:=⟨PH.put_self _ _ _,by rw[PH.put_ne _ _ uZ];exact hHr⟩;refine r7 (α:=List Nat×Nat) (fun⟨seen,z⟩=>[iw ((z:Nat):Int)]) (fun⟨seen,z⟩=>fun H'=>Pl H H'/\IT shR H' q r es clock seen/\z+((left es seen).map fun e=>l.count e.1).sum=l.length) (fun⟨seen,z⟩=>(left es seen).length) (([],0)) (p6 (by show j3 prog 51=_;rw[Ij];rfl)) (⟨PH.le_put hq _,hI0,by rw[ns,a1a,bJ]⟩) fun⟨seen,z⟩ H4 ⟨l4,it4,hz⟩=> ?_;refine j1 (mr (ok:=Rg) (ke:=shR) (vs:=[.pointer (some ⟨q,0,none⟩)]) rfl rfl hE it4) rfl ?_;rintro v6 H5 yV;refine nmI ?_;obtain⟨bb,x,y,rfl,hbx⟩:=nr yV;refine b4 (nq bb x y) ?_;refine b4 ⟨bb,Qb bb x y⟩ ?_;refine g6 (b:=bb) (Qb bb x y) (fun qU=> ?_) (fun qU=> ?_)
 ·skip
  obtain⟨e,he,rfl,rfl,rfl⟩:∃p∈left es seen,x=shR p.1/\y=p.2.1/\H5=H4.put q (.mapIter (some r) clock (seen++[p.2.2]).toArray clock):=by
   rcases hbx with⟨h,_⟩|⟨_,h⟩
   ·rw[qU]at h;cases h
   ·exact h
  subst qU;have xQ:e∈es:=(bZ.1 he).1;have uT:=heL e xQ;have it5:IT shR (H4.put q (.mapIter (some r) clock (seen++[e.2.2]).toArray clock)) q r es clock (seen++[e.2.2]):=⟨PH.put_self _ _ _,by rw[PH.put_ne _ _ uZ];exact it4.2⟩;have l5:Pl H (H4.put q (.mapIter (some r) clock (seen++[e.2.2]).toArray clock)):=fun b' ob' qM=>by rw[PH.put_ne _ _ (fun e=>by subst e;rw[hq]at qM;cases qM)];exact l4 _ _ qM
  generalize H4.put q (.mapIter (some r) clock (seen++[e.2.2]).toArray clock)=H6 at it5 l5⊢;refine j1 (Rds.opn' (mt (ok:=Rg) (ke:=shR) (vs:=[.pointer (some ⟨q,0,none⟩)]) rfl rfl hE xQ it5)) rfl ?_;rintro _ _ ⟨rfl,rfl⟩;refine nmI ?_;rw[uT];refine g7 ?_;refine b4 ⟨words_size _,words_one _⟩ ?_;obtain⟨la,lb,tI,vB⟩:=nu (hE.asc.imp fun h=>pM h) he;have yF:z+l.count e.1+((left es (seen++[e.2.2])).map fun e=>l.count e.1).sum=l.length:=by
   rw[vB];rw[tI]at hz;simp only[bM,jC,bI,eP]at hz⊢;omega
  refine Db (EE (a:=((z:Nat):Int)) (b:=((l.count e.1:Nat):Int)) aA aA aA) rfl ?_;refine g7 (g7 ?_);refine j9 (ox _) rfl ?_;refine b4 ⟨words_size _,words_one _⟩ ?_;exact⟨(seen++[e.2.2],z+l.count e.1),by show(left es (seen++[e.2.2])).length<(left es seen).length;rw[tI,vB];simp,(p6 (by show wd _=iw (((z+l.count e.1:Nat)):Int);rw[dZ];rfl)),⟨l5,it5,yF⟩⟩
 ·skip
  obtain⟨wH,h54⟩:left es seen=[]/\H5=H4:=by
   rcases hbx with⟨_,h⟩|⟨h,_⟩
   ·exact h
   ·rw[qU]at h;cases h
  rw[h54];rw[wH,bR,mS,cJ]at hz;subst hz;refine j1 (mn (κ:=Rat) (ke:=shR) (vs:=[.map (some r)]) rfl rfl Xs it4.2) rfl ?_;rintro _ _ ⟨q2,uY,rfl,rfl⟩;refine nmI ?_;have a3b:r≠q2:=fun e=>by subst e;rw[it4.2]at uY;cases uY
  have a5r:=it4.2;have hI2:IT shR (H4.put q2 (.mapIter (some r) clock #[] clock)) q2 r es clock []:=⟨PH.put_self _ _ _,by rw[PH.put_ne _ _ a3b];exact a5r⟩;refine r7 (α:=List Nat×Value×List MaT) (fun⟨seen,out,m⟩=>[out]) (fun⟨seen,out,m⟩=>fun H'=>Pl H4 H'/\IT shR H' q2 r es clock seen/\SO H4 H' 63 32 ceM out m/\((m.map fun q=>q.1.1)++(left es seen).map (·.1)).Perm (es.map (·.1))/\(∀q∈m,q.1.2=qN (l.count q.1.1) l.length)) (fun⟨seen,out,m⟩=>(left es seen).length) (([],.slice none 0 0,[])) rfl (⟨PH.le_put uY _,hI2,SO.nil _ _ _ _ _,by rw[ns];exact oZ _,(fun q hq=>nomatch hq)⟩) fun⟨seen,out,m⟩ H7 ⟨l7,it7,o7,rJ,yL⟩=> ?_;refine j1 (mr (ok:=Rg) (ke:=shR) (vs:=[.pointer (some ⟨q2,0,none⟩)]) rfl rfl hE it7) rfl ?_;rintro v6 H8 yV;refine nmI ?_;obtain⟨bb,x,y,rfl,hbx⟩:=nr yV;refine b4 (nq bb x y) ?_;refine b4 ⟨bb,Qb bb x y⟩ ?_;refine g6 (b:=bb) (Qb bb x y) (fun qU=> ?_) (fun qU=> ?_)
  ·skip
   obtain⟨e,he,rfl,rfl,rfl⟩:∃p∈left es seen,x=shR p.1/\y=p.2.1/\H8=H7.put q2 (.mapIter (some r) clock (seen++[p.2.2]).toArray clock):=by
    rcases hbx with⟨h,_⟩|⟨_,h⟩
    ·rw[qU]at h;cases h
    ·exact h
   subst qU;have xQ:e∈es:=(bZ.1 he).1;have uT:=heL e xQ;have hRg:Rg e.1:=hE.oks e xQ;have hQg:Rg (qN (l.count e.1) l.length):=Xf hl0 (bO (sR e.1) aC) aA;have it8:IT shR (H7.put q2 (.mapIter (some r) clock (seen++[e.2.2]).toArray clock)) q2 r es clock (seen++[e.2.2]):=⟨PH.put_self _ _ _,by rw[PH.put_ne _ _ a3b];exact it7.2⟩;have l8:Pl H4 (H7.put q2 (.mapIter (some r) clock (seen++[e.2.2]).toArray clock)):=fun b' ob' qM=>by rw[PH.put_ne _ _ (fun e=>by subst e;rw[uY]at qM;cases qM)];exact l7 _ _ qM
   have o8:SO H4 (H7.put q2 (.mapIter (some r) clock (seen++[e.2.2]).toArray clock)) 63 32 ceM out m:=(Nb o7 (g:=q2) (fun cs T fz=>by rw[it7.1];exact fun h=>nomatch h)).mono (PH.cut_put _ _ _);generalize H7.put q2 (.mapIter (some r) clock (seen++[e.2.2]).toArray clock)=H9 at it8 l8 o8⊢;refine j1 (Rds.opn' (mt (ok:=Rg) (ke:=shR) (vs:=[.pointer (some ⟨q2,0,none⟩)]) rfl rfl hE xQ it8)) rfl ?_;rintro _ _ ⟨rfl,rfl⟩;refine nmI ?_;rw[uT];refine g7 (g7 ?_);refine b4 (j7 _ _) ?_;refine b4 ⟨words_size _,words_one _⟩ ?_;refine i8 (b9q (c:=l.count e.1) (n:=l.length) hl0 (bO (sR e.1) aC) aA) rfl fun H10 l10=> ?_;refine g7 (g7 ?_);refine j9 (UT _ _) rfl ?_;refine b4 (j7 _ _) ?_;obtain⟨la,lb,tI,vB⟩:=nu (hE.asc.imp fun h=>pM h) he;have uO:m.length+1<=400:=by
    have:=rJ.length_eq;rw[tI]at this;simp at this;omega
   obtain⟨XB,xb1,xb2,xb3,xb4⟩:=It (o8.mono l10) (l8.trans l10);refine Cf el_mass rfl rfl rfl aF aF xb2 xb3 aA (show _=[veM ⟨(e.1,qN (l.count e.1) l.length),hRg,hQg⟩]from by unfold veM;rw[<-Jb,<-Jb];rfl) aF rfl fun pv v11 H11 l11 o11=> ?_;exact⟨(seen++[e.2.2],v11,m++[⟨(e.1,qN (l.count e.1) l.length),hRg,hQg⟩]),by show(left es (seen++[e.2.2])).length<(left es seen).length;rw[tI,vB];simp,rfl,⟨xb1.trans l11,⟨l11 _ _ ((xb4 q2 (fun cs=>by rw[l10 _ _ it8.1];exact fun h=>nomatch h)).trans (l10 _ _ it8.1)),l11 _ _ ((xb4 r (fun cs=>by rw[l10 _ _ it8.2];exact fun h=>nomatch h)).trans (l10 _ _ it8.2))⟩,o11.less xb1,by show((kZ _ (m++[_]))++kZ _ (left es (seen++[e.2.2]))).Perm _;refine pA ?_ rJ;rw[tI,vB,bM,bL,bM,bM];exact pB _ (by simp only[bI,bR,List.singleton_append];exact(List.perm_middle (a:=e.1) (l₁:=la.map (·.1)) (l₂:=lb.map (·.1))).symm),fun q hq=>(aV.1 hq).elim (yL q) (fun hq=>by rw[bB.1 hq])⟩⟩
  ·skip
   obtain⟨wH,h54⟩:left es seen=[]/\H8=H7:=by
    rcases hbx with⟨_,h⟩|⟨h,_⟩
    ·exact h
    ·rw[qU]at h;cases h
   rw[h54];rw[wH,bR,cC]at rJ;have rI:∀x,x∈(m.map fun q=>q.1.1)↔x∈l:=fun x=>by rw[rJ.mem_iff,rC];exact hk x
   have hm0:m≠[]:=fun e=>by
    subst e;obtain⟨a,t,rfl⟩:=List.exists_cons_of_ne_nil hn;exact absurd ((rI a).2 aD) aD
   have hmc:m.length<=1000000:=by have:=rJ.length_eq;simp at this;omega
   refine f0 (UK c5c l7 o7 hm0 hmc (fun x y=>b9m x y)) rfl ?_;rintro _ H12 ⟨l12,m',tY,wV,o12⟩;refine nmI ?_;have zM:(m'.map fun q=>q.1.1).Perm (es.map (·.1)):=(tY.map _).trans rJ;exact d4 rfl ⟨l4.trans l12,m',o12.se,UL (zM.nodup_iff.2 hE.keys) (fun x=>by rw[zM.mem_iff,rC];exact hk x) (fun q hq=>yL q (tY.mem_iff.1 hq)) wV⟩
end
section
variable {dm:Dm} {H B:PH} {n k ms lv who:Nat} {es:List (Nat×Nat)} {us:List Un} {w rw wts u v:Value} {lo hi:Int} {b i:Nat} {p:List Int} {l:List Rat}
def CntS.put {H':PH} {m:Value} {r:Rat} {L:List (Rat×Value)} (hk:∀q,q∈L.map (·.1)↔q∈l.take i) (hv:∀q∈L,q.2=iw (((l.take i).count q.1:Nat):Int)) (hr:l[i]? =some r) (o2:MKO Rg shR B H' m (Bz L r (iw (((l.take i).count r+1:Nat):Int)))):CntS B H' m l (i+1):=by
 have hct:∀q,(l.take (i+1)).count q=(l.take i).count q+if r=q then 1 else 0:=fun q=>by
  rw[take_snoc hr,List.count_append,List.count_singleton];by_cases h:r=q
  ·rw[if_pos h,if_pos (by simpa using h)]
  ·rw[if_neg h,if_neg (by simpa using h)]
 have rI:∀q,q∈l.take (i+1)↔q=r\/q∈l.take i:=fun q=>by
  rw[take_snoc hr,aV,bB];exact Or.comm
 refine⟨_,o2,fun q=> ?_,fun q hq=> ?_⟩
 ·rw[rI];constructor
  ·intro hq;obtain⟨x,hx,rfl⟩:=aZ.1 hq;rcases Pn (x:=x.1) (y:=x.2) hx with⟨h,_⟩|⟨_,h⟩
   ·exact .inl h
   ·exact .inr ((hk _).1 (aZ.2 ⟨_,h,rfl⟩))
  ·rintro(rfl|hq)
   ·exact aZ.2 ⟨_,Po,rfl⟩
   ·by_cases e:q=r
    ·subst e;exact aZ.2 ⟨_,Po,rfl⟩
    ·obtain⟨x,hx,rfl⟩:=aZ.1 ((hk _).2 hq);exact aZ.2 ⟨_,mj (x:=x.1) (y:=x.2) hx e,rfl⟩
 ·rcases Pn (x:=q.1) (y:=q.2) hq with⟨h1,h2⟩|⟨h0,h1⟩
  ·rw[h2,h1,hct,if_pos rfl]
  ·rw[hct,if_neg (fun e=>h0 e.symm),cJ];exact hv _ h1
def CntS.mono {H':PH} {m:Value} (h:CntS B H m l i) (hl:Pl H H'):CntS B H' m l i:=by
 obtain⟨L,h1,h2,h3⟩:=h;exact⟨L,h1.mono hl,h2,h3⟩
noncomputable def vlL (dm:Dm) (n k ms lv who:Nat) (es:List (Nat×Nat)) (us:List Un) (lo hi:Int):List Rat:=(eO (p7 n k es us lo hi)).map fun i=>An dm n es us k ms lv who (Aa n k es us lo hi i)
def Gu:(vlL dm n k ms lv who es us lo hi).length=p7 n k es us lo hi:=by simp[vlL]
def cy {i:Nat} (h:i<p7 n k es us lo hi):(vlL dm n k ms lv who es us lo hi)[i]? =some (An dm n es us k ms lv who (Aa n k es us lo hi i)):=by
 unfold vlL;rw[aX,cP h];rfl
def Nj:Ag prog 38 12:=⟨aB,aB,aB⟩
def c5w {c0:Nat} (hs:H c0=some (.cells (stC dm n k ms lv who w rw lo hi).toArray 38 (0,0))) (hM:StM H w rw es us) (hS:StOk dm n k ms lv who es us lo hi) (hz:ms=1->s5 us n=true) (hp:0<p7 n k es us lo hi) (hN:p7 n k es us lo hi<=400) (hr:∀r∈vlL dm n k ms lv who es us lo hi,Rg r):
  Con prog 28 [.pointer (some ⟨c0,0,none⟩)] H fun r H'=>Pl H H'/\∃m,SE H' 32 ceM r m/\TalP (vlL dm n k ms lv who es us lo hi) m:=by
 refine g5 mixed DG ?_;refine j1 (Na (ok:=Rg) (ke:=shR) Hv rfl) rfl ?_;rintro v1 H1 ⟨l1,o1⟩;refine nmI ?_;simp only[cA,nA];obtain⟨g0,es0,cl0,rfl,hHg,uR,hE0,zR⟩:=id o1;refine b4 (Xb g0) ?_;refine x5 (vs:=(stC dm n k ms lv who w rw lo hi)) Nj rfl rfl (l1 _ _ hs) rfl (show 0+12<=12 by decide) rfl ?_;simp only[cA,nA];refine Ft (Uk hM hS hz) l1 rfl fun v3 X1 H2 a1 w1 b1 c1 d1=> ?_;simp only[cA,nA];obtain⟨b,wts,rfl,hW⟩:=w1;refine Ft (EC hW hS hp) b1 rfl fun v4 X2 H3 a2 w2 b2 c2 d2=> ?_;simp only[cA,nA];obtain⟨z,c,lv',m,rfl,hA⟩:=w2;have zS:X1 g0=none:=d1 g0 (by rw[uR];exact fun h=>nomatch h) hHg;have xR:X2 g0=none:=d2 g0 (by rw[c1 _ _ uR];exact fun h=>nomatch h) zS;have hC0:CntS X2 H3 (.map (some g0)) (vlL dm n k ms lv who es us lo hi) 0:=⟨[],⟨g0,es0,cl0,rfl,xR,c2 _ _ (c1 _ _ uR),hE0,zR⟩,fun r=>aD,(fun q hq=>nomatch hq)⟩;have hml:m.length=p7 n k es us lo hi:=hA.len;rw[<-PH.or_nil H3];refine Hi (X:=H3) (K:=PH.nil) (Ro:=X2) (fun pre vals X'=>vals=[]/\Pl X2 X'/\CntS X2 X' (.map (some g0)) (vlL dm n k ms lv who es us lo hi) pre.length) (fun _ _ _=>False) (ED hA hS hz (fun i hi=>Xr hi) aA) EB (Sm _) rfl (fun _ _ _ h=>h.2.1) ⟨rfl,b2,hC0⟩ ?_ ?_ ?_
 ·rintro pre xs vals X' ⟨s,hs,rfl⟩ _ ⟨rfl,lX,hC⟩;refine⟨rfl,?_⟩;simp only[cA,nA];have rJ:pre.length<p7 n k es us lo hi:=by have:=(aH.1 hs).1;omega
  have rV:=cy (dm:=dm) (ms:=ms) (lv:=lv) (who:=who) rJ;have hrv:=hr _ (aK rV);have sR:∀q,((vlL dm n k ms lv who es us lo hi).take pre.length).count q<=400:=fun q=>by
   have:=gC (a:=q) (l:=(vlL dm n k ms lv who es us lo hi).take pre.length);rw[bH,Gu]at this;omega
  generalize hvv:An dm n es us k ms lv who (Aa n k es us lo hi pre.length)=vv at rV hrv;obtain⟨L,o3,zU,hv3⟩:=hC;refine b4 (j7 _ _) ?_;have wY:(iw ((((vlL dm n k ms lv who es us lo hi).take pre.length).count vv:Nat):Int)=wd 0/\vv∉L.map (·.1))\/(vv,iw ((((vlL dm n k ms lv who es us lo hi).take pre.length).count vv:Nat):Int))∈L:=by
   by_cases h:vv∈L.map (·.1)
   ·obtain⟨q,hq,rfl⟩:=aZ.1 h;right;rw[<-hv3 q hq];exact hq
   ·left;refine⟨?_,h⟩;rw[List.count_eq_zero.2 (fun h2=>h ((zU vv).2 h2))];rfl
  refine j8 (CV Hv (k:=vv) (u:=iw ((((vlL dm n k ms lv who es us lo hi).take pre.length).count vv:Nat):Int)) (vs:=[.map (some g0),shR vv]) rfl rfl rfl Xs hrv VF o3.mk wY) (i0 (Bc rfl rfl) rfl) ?_;simp only[cA,nA];refine Db (iy 1 aA aA) rfl ?_;simp only[cA,nA];refine Db (EE (a:=((((vlL dm n k ms lv who es us lo hi).take pre.length).count vv:Nat):Int)) (b:=1) aA aA (by have:=sR vv;omega)) rfl ?_;simp only[cA,nA];refine g7 (g7 ?_);refine j9 (ox _) rfl ?_;simp only[cA,nA];refine j1 (Pq Hv (k:=vv) (v:=iw ((((vlL dm n k ms lv who es us lo hi).take pre.length).count vv+1:Nat):Int)) (vs:=[.map (some g0),shR vv,iw ((((vlL dm n k ms lv who es us lo hi).take pre.length).count vv+1:Nat):Int)]) rfl rfl rfl rfl Xs hrv lX o3) (By (Bc rfl rfl) rfl (by rw[dZ];rfl)) ?_;rintro _ H5 ⟨rfl,l5,o5,-⟩;refine nmI ?_;simp only[cA,nA];exact⟨rfl,l5,by rw[aL];exact CntS.put zU hv3 rV o5⟩
 ·rintro xs vals X' K' hxn hd _ ⟨rfl,lX,hC⟩;simp only[cA,nA];have sQ:xs.length=(vlL dm n k ms lv who es us lo hi).length:=by rw[Gu];omega
  rw[sQ]at hC;refine f0 (VG (hC.mono (PH.le_or X' K')) (fun e=>by have:=congrArg pL e;rw[Gu]at this;simp at this;omega) (by rw[Gu];exact hN)) (p6 (Bc rfl rfl)) ?_;rintro r H6 ⟨l6,m',vP,hT⟩;refine nmI ?_;simp only[cA,nA];exact d4 rfl ⟨a1.trans (a2.trans (lX.trans ((PH.le_or X' K').trans l6))),m',vP,hT⟩
 ·exact fun _ _ _ _ _ _ _ h=>h.elim
end
end Go.Z

/- Lemmas: chapter 32. -/
import Derived.Test.YtmannekkmdockaaGreatDoorGdH
open List renaming getElem?_set_ne->fP,getElem?_set_self->fJ,replicate->eK,set_set->pC
open Nat renaming not_lt_zero->lS
namespace Go.RX
open RowKit
section
variable {P:Program} {T e:TypeId} {sz:Nat} {ag:Bool} {α:Type} {ce:α->List Value} {ve:α->Value} (E:El P T e sz ag ce ve)
variable {G:Value->PH->Prop} {nx:List (List Value->PH->Prop)} {ρ:List Value} {H:PH} {o:Oper} {id i:Nat} {args:List SV} {t:Tree} {l:List α} {vs:List Value}
include E
theorem al {N:Nat} {parts:Array (Nat×Operand)} (hl:l.length=N) (h0:0<N) (hN:N<=1000) (ho:o.op= .buildSlice T N parts) (hp:parts.toList.map (fun p=>(p.1,g8 (parts.toList.map (·.2)) vs p.2))=(l.zipIdx 0).map fun p=>(p.2,ve p.1)) (ha:args.map (D P ρ)=vs)
  (n:∀v H',Pl H H'->SO H H' e sz ce v l->den P G t nx (ρ++[v]) H'):den P G (.mk id i o args t) nx ρ H:=by
 obtain⟨ti,zv,h1,h2,h3,h4,h5⟩:=E.inf;have rO:=E.pos;have vC:=E.small;have hb:N*sz<=1000*1000:=bU hN vC;have hNp:0<N*sz:=eE h0 rO;refine⟨fun b=> .slice (some ⟨b,0,none⟩) N N,.cells (l.flatMap ce).toArray e (0,0),fun w=> ?_,fun b hb=>n _ _ (PH.le_put hb _) (Yy E hb hl (by simp only[maxLen];omega) aD)⟩;have qK:o.op.operands.toList=parts.toList.map (·.2):=by simp[ho,Op.operands]
 have hf:Instr.fill (fun j=>some (j*ti.size,ti.size)) ((Array.range (N*ti.size)).map (zv.cells[· %zv.cells.size]!)) (parts.toList.map fun p=>(p.1,g8 (parts.toList.map (·.2)) vs p.2))=some (l.flatMap ce).toArray:=by
  rw[h3,hp,Xq _ _ _ fun p hp=> ?_]
  ·rw[ya E.len E.cells,cD,fi (by rw[Kq E.len,hl];simp)]
  ·simp only[aY,Prod.exists]at hp;obtain⟨a,k,hk,rfl⟩:=hp;have qY:=List.mem_zipIdx hk;refine⟨k*sz,sz,rfl,(E.vcells a).1,?_⟩;have:(k+1)*sz<=N*sz:=bL _ aA;rw[cK,cM]at this;simpa using this
 have hr:=run_buildSlice (P:=P) w T e N (parts.map fun(j,x)=>(j,g8 (parts.toList.map (·.2)) vs x)) (l.flatMap ce).toArray ti zv E.und h1 h2 (by rw[h3];omega) (by rw[h3];omega) (by rw[Array.toList_map];exact hf);rw[qK,ha];simp only[execOp,ho,Sem.run_bind,hr,Result.andThen_ok,Sem.run_pure]
end
end Go.RX
namespace Go.Z
open Proofs.Tryz RowKit RX GS
open WD (wd toI iw rs)
theorem Ba:El prog 48 33 1 false (fun s:Slc=>[vs s]) vs where
 und:=aB
 has:=aB
 cel:=aB
 agg:=aB
 pos:=aC
 one1:=fun _=>rfl
 small:=aC
 inf:=⟨(prog.info? 33).getD default,vs (none,0,0),aB,aB,aB,rfl,oDt aB⟩
 len:=fun _=>rfl
 val:=fun _=>rfl
 cells:=fun _=>rfl
 one:=fun x c hc=>by simp at hc;subst hc;rfl
def yv (n:Nat) (w wts:Value) (lo hi k:Int) (s:Value):Value:= .agg #[ii n,w,wts,ii lo,ii hi,ii k,s]
theorem RF {ρ:List Value} {a b c:SV} {n:Nat} {w wts s:Value} {lo hi k:Int} (h1:D prog ρ a=gv n w) (h2:D prog ρ b=bv wts lo hi k) (h3:D prog ρ c=s) (hs:s.cells= #[s]):D prog ρ (.cat (.ag a) 2 (.cat (.ag b) 4 c))=yv n w wts lo hi k s:=by
 show Value.agg ((Value.agg (D prog ρ a).cells).cells++(Value.agg ((Value.agg (D prog ρ b).cells).cells++(D prog ρ c).cells)).cells)=_;rw[h1,h2,h3,hs];rfl
theorem RG:∀(ys:List Value) (cs:Array Value) (q:Nat),(spl cs q ys).size=cs.size
 |[],_,_=>rfl
 |y::ys,cs,q=>by rw[spl,RG ys];simp
theorem RH (ys:List Value) (cs:Array Value) (q:Nat) (h:q+ys.length<=cs.size):((spl cs q ys).toList.drop q).take ys.length=ys:=by
 induction ys generalizing cs q with
 |nil=>simp
 |cons y ys ih=>
  simp only[aO]at h;have h1:=ih (cs.setIfInBounds q y) (q+1) (by simp;omega);have h2:(spl (cs.setIfInBounds q y) (q+1) ys).toList[q]? =some y:=by
   have:∀(zs:List Value) (cs:Array Value) (p:Nat),q<p->(spl cs p zs)[q]? =cs[q]?:=by
    intro zs;induction zs with
    |nil=>intro cs p hp;rfl
    |cons z zs ih=>intro cs p hp;rw[spl,ih _ _ aA,dK aA]
   rw[cT,this _ _ _ aA,dI aA]
  obtain⟨hl,he⟩:=aH.1 h2;rw[spl,cV hl,aO,List.take_succ_cons,he,h1]
theorem d5j (ys:List Value) (cs:Array Value) (q r n:Nat) (h:r+n<=q):((spl cs q ys).toList.drop r).take n=(cs.toList.drop r).take n:=by
 induction ys generalizing cs q with
 |nil=>rfl
 |cons y ys ih=>
  rw[spl,ih _ _ aA,Array.toList_setIfInBounds];apply bG;intro i;by_cases hi:i<n
  ·rw[dO hi,dO hi,cS,cS,fP aA]
  ·rw[aW (by rw[bM];omega),aW (by rw[bM];omega)]
theorem RI (cs:Array Value) (q n:Nat):(cs.extract q (q+n)).toList=(cs.toList.drop q).take n:=by
 rw[Array.toList_extract,List.extract_eq_take_drop,Nat.add_sub_cancel_left]
section
variable {ρ:List Value} {x:SV} {n:Nat} {w wts s:Value} {lo hi k:Int} (h:D prog ρ x=yv n w wts lo hi k s)
include h
theorem Wb:D prog ρ (.sub x 0 2 0 noI)=gv n w:=(Nw h).trans rfl
theorem Wc:D prog ρ (.sub x 2 4 0 noI)=bv wts lo hi k:=(Nw h).trans rfl
theorem We:D prog ρ (.cell x 6 0 noI)=s:=by
 show(D prog ρ x).cells.getD (6+0*t6 (D prog ρ noI)) undef=_;rw[h,cD];rfl
end
theorem BJ {ρ:List Value} {x y:SV} {z:Int} (hx:D prog ρ x=ii z) (hy:D prog ρ y=ii z):D prog ρ (.op2 .neq .i64 x y)= .bool false:=by
 show Value.bool (intOf (D prog ρ x) !=intOf (D prog ρ y))=_;rw[hx,hy];simp
theorem RJ {ρ:List Value} {a b c d e f g h:SV} {a' b' c' d' e' f' g' h':Value} (h1:D prog ρ a=a') (h2:D prog ρ b=b') (h3:D prog ρ c=c') (h4:D prog ρ d=d') (h5:D prog ρ e=e') (h6:D prog ρ f=f') (h7:D prog ρ g=g') (h8:D prog ρ h=h'):[a,b,c,d,e,f,g,h].map (D prog ρ)=[a',b',c',d',e',f',g',h']:=by
 rw[aN,h1,aN,h2,aN,h3,aN,h4,Hz h5 h6 h7 h8]
section
variable {H H0:PH} {u v w wts:Value} {p q wl t:List Int} {n a b:Nat} {es:List (Nat×Nat)} {lo hi ds k:Int} {set x:Nat}
abbrev OE (H0 H:PH) (v:Value) (l:List (Nat×Nat)):Prop:=SO H0 H 99 2 ec v l
theorem c9K {k:Nat} (hk:k<=8):Con prog 111 [ii (k:Nat)] H fun r H'=>Pl H H'/\OE H H' r (i0 k):=by
 refine i9 mixed d3Y ?_;refine s8 (α:=Nat×Value) (fun⟨i,v⟩=>[v,ii (i:Nat)]) (fun⟨i,v⟩=>fun H'=>i<=k/\Pl H H'/\OE H H' v (prI k i)) (fun⟨i,v⟩=>k-i) ((0,.slice none 0 0)) rfl (⟨bI _,Pl.refl _,SO.nil _ _ _ _ _⟩) fun⟨i,v⟩ H' hQ=> ?_;obtain⟨hi,l1,o1⟩:=hQ;refine d9 (d9 ?_);refine g7 (b:=decide (((i:Nat):Int)<(k:Nat))) rfl (fun h=> ?_) (fun h=> ?_)
 ·replace h:=oDt h;have qB:i<k:=aA;refine s8 (α:=Nat×Value) (fun⟨j,v⟩=>[v,ii (j:Nat)]) (fun⟨j,v⟩=>fun H2=>i+1<=j/\j<=k/\Pl H H2/\OE H H2 v (prI k i++Gq i j)) (fun⟨j,v⟩=>k-j) ((i+1,v)) (i7 rfl (i6 rfl aA)) (⟨aS _,qB,l1,by rw[OD,bQ];exact o1⟩) fun⟨j,v⟩ H2 xQ=> ?_;obtain⟨hj1,vG,l2,o2⟩:=xQ;refine d9 ?_;refine g7 (b:=decide (((j:Nat):Int)<(k:Nat))) rfl (fun h2=> ?_) (fun h2=> ?_)
  ·replace h2:=oDt h2;have sU:j<k:=aA;have qS:=ae k i;have a5r:i*k<=64:=bU (show i<=8 by omega) hk;refine d4 (el_int.vcells _) ?_;refine d4 (el_int.vcells _) ?_;refine Dk el_edge rfl rfl rfl aE aE l2 o2 (by rw[aM,AD];omega) (z8 (Ky (a:=i) (b:=j) rfl rfl)) aE rfl fun p7 v7 H7 l7 o7=> ?_;exact⟨(j+1,v7),by show k-(j+1)<k-j;omega,(i7 rfl (i6 rfl aA)),⟨by show i+1<=j+1;omega,sU,l7,by rw[OC hj1,<-bH];exact o7⟩⟩
  ·replace h2:=oDf h2;have xO:j=k:=aA;subst xO;exact⟨(i+1,v),by show j-(i+1)<j-i;omega,(i7 rfl (i6 rfl aA)),⟨qB,l2,by rw[AC];exact o2⟩⟩
 ·replace h:=oDf h;have vZ:i=k:=aA;subst vZ;exact g6 rfl ⟨l1,o1⟩
theorem c0l {k:Nat} (hk:k<=8):Con prog 97 [ii (k:Nat)] H fun r H'=>Pl H H'/\OE H H' r (i0 k):=by
 refine i9 mixed c5b ?_;refine s8 (α:=Nat×Value) (fun⟨i,v⟩=>[v,ii (i:Nat)]) (fun⟨i,v⟩=>fun H'=>i<=k/\Pl H H'/\OE H H' v (prI k i)) (fun⟨i,v⟩=>k-i) ((0,.slice none 0 0)) rfl (⟨bI _,Pl.refl _,SO.nil _ _ _ _ _⟩) fun⟨i,v⟩ H' hQ=> ?_;obtain⟨hi,l1,o1⟩:=hQ;refine d9 (d9 ?_);refine g7 (b:=decide (((i:Nat):Int)<(k:Nat))) rfl (fun h=> ?_) (fun h=> ?_)
 ·replace h:=oDt h;have qB:i<k:=aA;refine s8 (α:=Nat×Value) (fun⟨j,v⟩=>[v,ii (j:Nat)]) (fun⟨j,v⟩=>fun H2=>i+1<=j/\j<=k/\Pl H H2/\OE H H2 v (prI k i++Gq i j)) (fun⟨j,v⟩=>k-j) ((i+1,v)) (i7 rfl (i6 rfl aA)) (⟨aS _,qB,l1,by rw[OD,bQ];exact o1⟩) fun⟨j,v⟩ H2 xQ=> ?_;obtain⟨hj1,vG,l2,o2⟩:=xQ;refine d9 ?_;refine g7 (b:=decide (((j:Nat):Int)<(k:Nat))) rfl (fun h2=> ?_) (fun h2=> ?_)
  ·replace h2:=oDt h2;have sU:j<k:=aA;have qS:=ae k i;have a5r:i*k<=64:=bU (show i<=8 by omega) hk;refine d4 (el_int.vcells _) ?_;refine d4 (el_int.vcells _) ?_;refine Dk el_edge rfl rfl rfl aE aE l2 o2 (by rw[aM,AD];omega) (z8 (Ky (a:=i) (b:=j) rfl rfl)) aE rfl fun p7 v7 H7 l7 o7=> ?_;exact⟨(j+1,v7),by show k-(j+1)<k-j;omega,(i7 rfl (i6 rfl aA)),⟨by show i+1<=j+1;omega,sU,l7,by rw[OC hj1,<-bH];exact o7⟩⟩
  ·replace h2:=oDf h2;have xO:j=k:=aA;subst xO;exact⟨(i+1,v),by show j-(i+1)<j-i;omega,(i7 rfl (i6 rfl aA)),⟨qB,l2,by rw[AC];exact o2⟩⟩
 ·replace h:=oDf h;have vZ:i=k:=aA;subst vZ;exact g6 rfl ⟨l1,o1⟩
theorem c0m (hw:SG H w es) (hg:GV n es) (ha:a<M64) (hb:b<M64):Asks prog 169 [gv n w,uv a,uv b] H (ii (Af es a b:Nat)):=by
 refine i9 mixed c5a ?_;have hl:=hw.len;have rM:=hg.n64;have qD:=hg.len;refine d4 (t8 hw) ?_;refine Bf (α:=Nat) (fun i=>[ii (Af (es.take i) a b:Nat),ii (i:Nat)]) (fun i=>i<=es.length) (fun i=>es.length-i) (0) rfl (bI _) fun i hQ=> ?_;simp only[cA,nA];refine j1 el_edge hw ?_;refine d9 (d9 ?_);refine g7 (b:=decide (((i:Nat):Int)<(es.length:Nat))) rfl (fun h=> ?_) (fun h=> ?_)
 ·replace h:=oDt h;have qB:i<es.length:=aA;obtain⟨e,he,hde⟩:=m7 qB;obtain⟨he1,he2⟩:=hg.mem he;have qI:Af (es.take (i+1)) a b=if btB a b e=true then Af (es.take i) a b+1 else Af (es.take i) a b:=by rw[take_snoc he,c4n]
  have pY:Af (es.take i) a b<=i:=bD (cC _ _) (by rw[bM];omega);refine Kt rfl rfl rfl rfl rfl aE aE aE hw he rfl aE (fun _ _=>rfl) fun _ _=> ?_;simp only[cA,nA];refine Nk rfl rfl rfl rfl rfl aE aE aE hw he rfl aE (fun _ _=>rfl) fun _ _=> ?_;simp only[cA,nA];refine y8 (Dq (s:=a) (n:=e.1) ha aA) rfl ?_;simp only[cA,nA];refine d9 ?_;refine g7 (b:=bit a e.1) rfl (fun b1=> ?_) (fun b1=> ?_)
  ·skip
   refine y8 (Dq (s:=b) (n:=e.2) hb aA) rfl ?_;simp only[cA,nA];refine d9 ?_;refine g7 (b:=bit b e.2) rfl (fun b2=> ?_) (fun b2=> ?_)
   ·skip
    refine d9 ?_;exact⟨i+1,aA,(i7 (by rw[qI,if_pos (by simp[btB,b1,b2])];exact i6 rfl aA) (i6 rfl aA)),⟨qB,rfl⟩⟩
   ·skip
    refine y8 (Dq (s:=a) (n:=e.2) ha aA) rfl ?_;simp only[cA,nA];refine d9 ?_;refine g7 (b:=bit a e.2) rfl (fun b3=> ?_) (fun b3=> ?_)
    ·skip
     refine y8 (Dq (s:=b) (n:=e.1) hb aA) rfl ?_;simp only[cA,nA];refine d9 ?_;refine g7 (b:=bit b e.1) rfl (fun b4=> ?_) (fun b4=> ?_)
     ·skip
      refine d9 ?_;exact⟨i+1,aA,(i7 (by rw[qI,if_pos (by simp[btB,b1,b2,b3,b4])];exact i6 rfl aA) (i6 rfl aA)),⟨qB,rfl⟩⟩
     ·skip
      exact⟨i+1,aA,(i7 (by rw[qI,if_neg (by simp[btB,b1,b2,b3,b4])];rfl) (i6 rfl aA)),⟨qB,rfl⟩⟩
    ·skip
     exact⟨i+1,aA,(i7 (by rw[qI,if_neg (by simp[btB,b1,b2,b3])];rfl) (i6 rfl aA)),⟨qB,rfl⟩⟩
  ·skip
   refine y8 (Dq (s:=a) (n:=e.2) ha aA) rfl ?_;simp only[cA,nA];refine d9 ?_;refine g7 (b:=bit a e.2) rfl (fun b3=> ?_) (fun b3=> ?_)
   ·skip
    refine y8 (Dq (s:=b) (n:=e.1) hb aA) rfl ?_;simp only[cA,nA];refine d9 ?_;refine g7 (b:=bit b e.1) rfl (fun b4=> ?_) (fun b4=> ?_)
    ·skip
     refine d9 ?_;exact⟨i+1,aA,(i7 (by rw[qI,if_pos (by simp[btB,b1,b3,b4])];exact i6 rfl aA) (i6 rfl aA)),⟨qB,rfl⟩⟩
    ·skip
     exact⟨i+1,aA,(i7 (by rw[qI,if_neg (by simp[btB,b1,b3,b4])];rfl) (i6 rfl aA)),⟨qB,rfl⟩⟩
   ·skip
    exact⟨i+1,aA,(i7 (by rw[qI,if_neg (by simp[btB,b1,b3])];rfl) (i6 rfl aA)),⟨qB,rfl⟩⟩
 ·replace h:=oDf h;have he:i=es.length:=aA;subst he;rw[List.take_length];exact g6 rfl ⟨rfl,rfl⟩
theorem ou {o R:List Int} {m:Nat} {y:Int} (h:∀j,o[j]? =if j<m then R[j]? else p[j]?) (hm:m<o.length) (hy:R[m]? =some y):∀j,(o.set m y)[j]? =if j<m+1 then R[j]? else p[j]?:=fun j=>by
 by_cases e:j=m
 ·subst e;rw[fJ hm,if_pos aA,hy]
 ·rw[fP (fun e2=>e e2.symm),h j];by_cases h2:j<m
  ·rw[if_pos h2,if_pos aA]
  ·rw[if_neg h2,if_neg aA]
theorem d5k {o R:List Int} {m:Nat} (h:∀j,o[j]? =if j<m then R[j]? else p[j]?) (hy:R[m]? =p[m]?):∀j,o[j]? =if j<m+1 then R[j]? else p[j]?:=fun j=>by
 rw[h j];by_cases e:j=m
 ·subst e;rw[if_neg aA,if_pos aA,hy]
 ·by_cases h2:j<m
  ·rw[if_pos h2,if_pos aA]
  ·rw[if_neg h2,if_neg aA]
theorem d8u {o R:List Int} (h:∀j,o[j]? =if j<p.length then R[j]? else p[j]?) (hl:R.length=p.length):o=R:=bG fun j=>by
 rw[h j];by_cases h2:j<p.length
 ·rw[if_pos h2]
 ·rw[if_neg h2,aW aA,aW aA]
theorem c9L {i k a:Nat} (hu:SI H u p) (hL:LabOk p 8) (hi:i<8) (hk:k<8) (ha:a<M64):Con prog 116 [u,ii (i:Nat),ii (k:Nat),uv a] H fun r H'=>Pl H H'/\SI H' r (j6 (Ax p (i:Nat) (k:Nat) a)):=by
 refine i9 mixed d3X ?_;have hl:=hu.len;have wM:=hL.2.2;have hRl:=Ir p (i:Nat) (k:Nat) a;refine g9 (RA hu aA) rfl ?_;rintro v4 H1 ⟨l1,o1⟩;refine nmI ?_;refine j1 el_plan (hu.mono l1) ?_;refine s8 (α:=Nat×List Int) (fun⟨m,o⟩=>[ii (m:Nat)]) (fun⟨m,o⟩=>fun H'=>m<=p.length/\o.length=p.length/\(∀j,o[j]? =if j<m then(Ax p (i:Nat) (k:Nat) a)[j]? else p[j]?)/\Pl H H'/\OI H H' v4 o) (fun⟨m,o⟩=>p.length-m) ((0,p)) rfl (⟨bI _,rfl,fun j=>by rw[if_neg (lS _)],l1,o1⟩) fun⟨m,o⟩ H' hQ=> ?_;obtain⟨hm,hol,sA,l2,o2⟩:=hQ;refine d9 (d9 ?_);refine g7 (b:=decide (((m:Nat):Int)<(p.length:Nat))) rfl (fun h=> ?_) (fun h=> ?_)
 ·replace h:=oDt h;have tW:m<p.length:=aA;obtain⟨y,hy,_⟩:=m7 tW;have hR:=ac (i:=(i:Int)) (k:=(k:Int)) (a:=a) hy;refine j4 el_plan (hu.mono l2) hy fun _=> ?_;refine d9 (d9 ?_);refine j8 (p:=(y≠(i:Nat))) (bN _ _) (fun h1=> ?_) fun h1=> ?_
  ·refine d9 ?_;refine j8 (p:=(y≠(k:Nat))) (bN _ _) (fun h2=> ?_) fun h2=> ?_
   ·have hv:rcV (i:Nat) (k:Nat) a m y=y:=if_neg (fun e=>e.elim h1 h2);exact⟨(m+1,o),by show p.length-(m+1)<p.length-m;omega,(z8 (i6 rfl aA)),⟨tW,hol,d5k sA (by rw[hR,hv,hy]),l2,o2⟩⟩
   ·have vZ:y=(i:Nat)\/y=(k:Nat):= .inr (bB h2);refine Dp el_plan (a:=((k:Nat):Int)) rfl rfl rfl rfl aE aE l2 o2 (show m<o.length by omega) rfl aE rfl fun q3 u3 H3 l3 o3 _=> ?_;refine d9 ?_;refine d4 ⟨_,_,rfl⟩ ?_;refine d4 (by show(0:Int)<=((m:Nat):Int);omega) ?_;refine g7 (b:=bit a m) (Va rfl ha rfl aA) (fun b1=> ?_) (fun b1=> ?_)
    ·skip
     refine Dp el_plan (a:=((i:Nat):Int)) rfl rfl rfl rfl aE aE l3 o3 (show m<(o.set m (k:Nat)).length by rw[cJ];omega) rfl aE rfl fun q5 u5 H5 l5 o5 _=> ?_;rw[pC]at o5;exact⟨(m+1,o.set m (i:Nat)),by show p.length-(m+1)<p.length-m;omega,(z8 (i6 rfl aA)),⟨tW,by rw[cJ];exact hol,ou sA aA (by rw[hR];unfold rcV;rw[if_pos vZ,if_pos b1]),l5,o5⟩⟩
    ·skip
     exact⟨(m+1,o.set m (k:Nat)),by show p.length-(m+1)<p.length-m;omega,(z8 (i6 rfl aA)),⟨tW,by rw[cJ];exact hol,ou sA aA (by rw[hR];unfold rcV;rw[if_pos vZ,if_neg (by rw[b1];simp)]),l3,o3⟩⟩
  ·have vZ:y=(i:Nat)\/y=(k:Nat):= .inl (bB h1);refine Dp el_plan (a:=((k:Nat):Int)) rfl rfl rfl rfl aE aE l2 o2 (show m<o.length by omega) rfl aE rfl fun q3 u3 H3 l3 o3 _=> ?_;refine d9 ?_;refine d4 ⟨_,_,rfl⟩ ?_;refine d4 (by show(0:Int)<=((m:Nat):Int);omega) ?_;refine g7 (b:=bit a m) (Va rfl ha rfl aA) (fun b1=> ?_) (fun b1=> ?_)
   ·skip
    refine Dp el_plan (a:=((i:Nat):Int)) rfl rfl rfl rfl aE aE l3 o3 (show m<(o.set m (k:Nat)).length by rw[cJ];omega) rfl aE rfl fun q5 u5 H5 l5 o5 _=> ?_;rw[pC]at o5;exact⟨(m+1,o.set m (i:Nat)),by show p.length-(m+1)<p.length-m;omega,(z8 (i6 rfl aA)),⟨tW,by rw[cJ];exact hol,ou sA aA (by rw[hR];unfold rcV;rw[if_pos vZ,if_pos b1]),l5,o5⟩⟩
   ·skip
    exact⟨(m+1,o.set m (k:Nat)),by show p.length-(m+1)<p.length-m;omega,(z8 (i6 rfl aA)),⟨tW,by rw[cJ];exact hol,ou sA aA (by rw[hR];unfold rcV;rw[if_pos vZ,if_neg (by rw[b1];simp)]),l3,o3⟩⟩
 ·replace h:=oDf h;have he:m=p.length:=aA;subst he;obtain rfl:=d8u sA hRl;refine g9 (oh o2.se (mn hL aA aA)) rfl ?_;rintro r H5 ⟨l5,z,rfl,hz⟩;refine nmI ?_;refine i8 (i8 ?_);exact g6 rfl ⟨l2.trans l5,hz.se⟩
end
section
variable {H H0:PH} {u v w wts:Value} {p q wl t l m:List Int} {n a b:Nat} {es:List (Nat×Nat)} {lo hi ds k:Int} {set x:Nat}
theorem ow (hu:SI H u l) (hv:SI H v m):Asks prog 57 [u,v] H (.bool (decide (l=m))):=by
 refine i9 mixed c3J ?_;have h1:=hu.len;have h2:=hv.len;refine j1 el_plan hu ?_;refine j1 el_plan hv ?_;refine d9 (d9 ?_);refine j8 (p:=(l.length≠m.length)) (by show Value.bool (((l.length:Nat):Int) !=((m.length:Nat):Int))=_;rw[bN];congr 1;apply decide_eq_decide.2;omega) (fun h=> ?_) fun h=> ?_
 ·exact g6 rfl ⟨rfl,by rw[decide_eq_false (fun e=>h (by rw[e]))];rfl⟩
 ·have hlm:l.length=m.length:=aA;refine Bf (α:=Nat×Value) (fun⟨i,z⟩=>[z,ii (i:Nat)]) (fun⟨i,z⟩=>i<=l.length/\∀j,j<i->l[j]? =m[j]?) (fun⟨i,z⟩=>l.length-i) ((0,.bool false)) rfl (⟨bI _,fun j hj=>absurd hj (lS _)⟩) fun⟨i,z⟩ hQ=> ?_;obtain⟨hi,hq⟩:=hQ;refine j1 el_plan hu ?_;refine d9 (d9 ?_);refine g7 (b:=decide (((i:Nat):Int)<(l.length:Nat))) rfl (fun h3=> ?_) (fun h3=> ?_)
  ·replace h3:=oDt h3;obtain⟨y,hy,_⟩:=m7 (l:=l) (i:=i) aA;obtain⟨z2,hz,_⟩:=m7 (l:=m) (i:=i) aA;refine j4 el_plan hu hy fun _=> ?_;refine j4 el_plan hv hz fun _=> ?_;refine d9 (d9 ?_);refine j8 (p:=(y≠z2)) (bN _ _) (fun h4=> ?_) fun h4=> ?_
   ·exact g6 rfl ⟨rfl,by rw[decide_eq_false (fun e=>by subst e;rw[hy]at hz;exact h4 (Option.some.inj hz))];rfl⟩
   ·have yY:y=z2:=bB h4;exact⟨(i+1,z),by show l.length-(i+1)<l.length-i;omega,(i7 rfl (i6 rfl aA)),⟨⟨by show i+1<=l.length;omega,fun j hj=>by
     by_cases e:j=i
     ·subst e;rw[hy,hz,yY]
     ·exact hq j (by have:j<i+1:=hj;omega)⟩,rfl⟩⟩
  ·replace h3:=oDf h3;have he:i=l.length:=aA;subst he;have a5s:l=m:=bG fun j=>by
    by_cases hj:j<l.length
    ·exact hq j hj
    ·rw[aW aA,aW aA]
   exact g6 rfl ⟨rfl,by rw[oDd a5s];rfl⟩
def Sep (H H':PH) (v2:Value) (l2:List Int) (v4:Value) (l4:List Int):Prop:=∃X,Pl H X/\Pl X H'/\OI H X v2 l2/\OI X H' v4 l4
theorem d5l {H':PH} {v2 v4:Value} {l2 l4:List Int} (hS:Sep H H' v2 l2 v4 l4) (rO:0<l2.length):∃Bi,Pl Bi H'/\OI Bi H' v2 l2/\∀H'' l2',Pl Bi H''->OI Bi H'' v2 l2'->Sep H H'' v2 l2' v4 l4:=by
 obtain⟨X,hX,hXH,⟨qD,hv⟩,o4⟩:=hS;rcases hv with⟨_,h0⟩|⟨g,cap,cur,rfl,rZ,hg,h4⟩
 ·omega
 ·refine⟨j9 H' g,Vk _ _,⟨qD,.inr ⟨g,cap,cur,rfl,by unfold j9;rw[if_pos rfl],hXH _ _ hg,h4⟩⟩,fun H'' l2' hl ho=> ?_⟩;obtain⟨a3k,hv'⟩:=ho;rcases hv' with⟨e,_⟩|⟨g',cap',cur',e,_,hg',yY⟩
  ·cases e
  ·have eg:g'=g:=by injection e with e;injection e with e;injection e with e;exact e.symm
   subst eg;refine⟨fun k=>if k=g' then H'' g' else X k,fun k o hk=> ?_,fun k o hk=> ?_,⟨a3k,.inr ⟨g',cap',cur',e,rZ,by simp only[if_true];exact hg',yY⟩⟩,SO.tr o4 fun g2 ob h5 h6=> ?_⟩
   ·have:k≠g':=fun e=>by subst e;rw[rZ]at hk;cases hk
    simp only[if_neg this];exact hX _ _ hk
   ·by_cases e2:k=g'
    ·subst e2;simpa using hk
    ·simp only[if_neg e2]at hk;exact hl k o (by unfold j9;rw[if_neg e2];exact hXH _ _ hk)
   ·have e2:g2≠g':=fun e=>by subst e;rw[hg]at h5;cases h5
    exact⟨by simp only[if_neg e2];exact h5,hl _ _ (by unfold j9;rw[if_neg e2];exact h6)⟩
def nmV (F:List Int) (d:Nat):Int:=if((d:Nat):Int)∈F then((F.idxOf ((d:Nat):Int):Nat):Int)else -1
theorem oy (hu:SI H u p) (hL:LabOk p 8):Con prog 54 [u] H fun r H'=>Pl H H'/\∃z,r= .tuple #[z,ii 0]/\SI H' z (j6 p):=by
 refine i9 mixed c3I ?_;have hl:=hu.len;have wM:=hL.2.2;refine s6 (NQ hu 8) rfl ?_;simp only[cA,nA];refine d9 ?_;refine r9 (by show Value.bool (!decide (LabOk p 8))=_;rw[oDd hL];rfl) ?_;refine Fp el_int (l:=eK 8 (-1)) (N:=8) rfl aC aC rfl rfl rfl fun v2 H1 l1 o1 _=> ?_;simp only[cA,nA];refine s8 (α:=Nat×List Int×List Int×List Int×Value) (fun⟨i,F,nm,done,v4⟩=>[ii (F.length:Nat),v4,ii (i:Nat)]) (fun⟨i,F,nm,done,v4⟩=>fun H'=>i<=p.length/\done.length=i/\done++Fb F (p.drop i)=j6 p/\F.Nodup/\F.length<=i/\nm.length=8/\(∀d,d<8->nm[d]? =some (nmV F d))/\Sep H H' v2 nm v4 done) (fun⟨i,F,nm,done,v4⟩=>p.length-i) ((0,[],eK 8 (-1),[],.slice none 0 0)) rfl (⟨bI _,rfl,rfl,dG,aS _,rfl,fun d hd=>by rw[dX,if_pos hd];rfl,H1,l1,Pl.refl _,o1,SO.nil _ _ _ _ _⟩) fun⟨i,F,nm,done,v4⟩ H' hQ=> ?_;simp only[cA,nA];obtain⟨hi,hdl,hR,hF,hFi,hnl,hnm,hS⟩:=hQ;have hS':=hS;obtain⟨X,x1,x2,x3,x4⟩:=hS';have lH:=x1.trans x2;refine j1 el_plan (hu.mono lH) ?_;refine d9 (d9 ?_);refine g7 (b:=decide (((i:Nat):Int)<(p.length:Nat))) rfl (fun h=> ?_) (fun h=> ?_)
 ·replace h:=oDt h;have qB:i<p.length:=aA;obtain⟨x,hx,tK⟩:=m7 qB;have hx8:=hL.1 x (aG hx);obtain⟨d,rfl⟩:∃d:Nat,x=(d:Int):=⟨x.toNat,aA⟩;have hd8:d<8:=aA;refine j4 el_plan (hu.mono lH) hx fun _=> ?_;simp only[cA,nA];refine j4 el_int (x3.se.mono x2) (hnm d hd8) fun _=> ?_;simp only[cA,nA];refine d9 ?_;refine g7 (b:=decide (nmV F d<0)) rfl (fun h2=> ?_) (fun h2=> ?_)
  ·replace h2:=oDt h2;have hdF:((d:Nat):Int)∉F:=fun e=>by unfold nmV at h2;rw[if_pos e]at h2;omega
   refine j4 el_plan (hu.mono lH) hx fun _=> ?_;simp only[cA,nA];obtain⟨Bi,b1,b2,b3⟩:=d5l hS aA;refine Dp el_int (a:=((F.length:Nat):Int)) rfl rfl rfl rfl aE aE b1 b2 (show d<nm.length by omega) rfl aE rfl fun q3 u3 H3 l3 o3 _=> ?_;simp only[cA,nA];have hS3:=b3 H3 _ l3 o3;obtain⟨X3,y1,y2,y3,y4⟩:=hS3;have y5:=y1.trans y2;have y6:=y3.se.mono y2;refine d9 ?_;refine j4 el_plan (hu.mono y5) hx fun _=> ?_;simp only[cA,nA];refine Ey el_int rfl rfl rfl rfl aE y6 (show(nm.set d ((F.length:Nat):Int))[d]? =some ((F.length:Nat):Int) by rw[fJ aA]) rfl aE fun _=> ?_;simp only[cA,nA];refine Dk el_plan rfl rfl rfl aE aE y2 y4 aA rfl aE rfl fun q5 v5 H5 l5 o5=> ?_;simp only[cA,nA];exact⟨(i+1,F++[((d:Nat):Int)],nm.set d ((F.length:Nat):Int),done++[((F.length:Nat):Int)],v5),by show p.length-(i+1)<p.length-i;omega,(Bo (by rw[aM];exact i6 rfl aA) rfl (i6 rfl aA)),⟨qB,by rw[aM,hdl];rfl,by rw[<-hR,tK];simp only[Fb,if_neg hdF];rw[bH];rfl,cQ.2 ⟨hF,aD,fun a ha b hb=>by obtain rfl:=aL.1 hb;exact fun e=>hdF (e ▸ ha)⟩,by rw[aM];simp only[aO,bX];omega,by rw[cJ];exact hnl,fun d2 qL=>by
    by_cases e:d2=d
    ·subst e;rw[fJ aA];unfold nmV;rw[if_pos aD,List.idxOf_append,if_neg hdF];simp
    ·rw[fP (fun e2=>e e2.symm),hnm d2 qL];unfold nmV;have e3:((d2:Nat):Int)≠(d:Nat):=aA;by_cases h5:((d2:Nat):Int)∈F
     ·rw[if_pos h5,if_pos (by simp[h5]),AA h5]
     ·rw[if_neg h5,if_neg (by simp[h5];omega)],X3,y1,l5,y3,o5⟩⟩
  ·replace h2:=oDf h2;have hdF:((d:Nat):Int)∈F:=bB fun e=>h2 (by unfold nmV;rw[if_neg e];omega);have hnv:nmV F d=((F.idxOf ((d:Nat):Int):Nat):Int):=if_pos hdF;refine j4 el_plan (hu.mono lH) hx fun _=> ?_;simp only[cA,nA];refine j4 el_int (x3.se.mono x2) (hnm d hd8) fun _=> ?_;simp only[cA,nA];refine Dk el_plan rfl rfl rfl aE aE x2 x4 aA rfl aE rfl fun q5 v5 H5 l5 o5=> ?_;simp only[cA,nA];exact⟨(i+1,F,nm,done++[nmV F d],v5),by show p.length-(i+1)<p.length-i;omega,(Bo rfl rfl (i6 rfl aA)),⟨qB,by rw[aM,hdl];rfl,by rw[<-hR,tK,hnv];simp only[Fb,if_pos hdF];rw[bH];rfl,hF,by show F.length<=i+1;omega,hnl,hnm,X,x1,l5,x3,o5⟩⟩
 ·replace h:=oDf h;have he:i=p.length:=aA;subst he;rw[List.drop_length]at hR;simp only[Fb,bQ]at hR;subst hR;exact g6 rfl ⟨lH,v4,rfl,x4.se⟩
theorem c0n {i k a:Nat} (hu:SI H u p) (hL:LabOk p 8) (hi:i<8) (hk:k<8) (ha:a<M64):Con prog 170 [u,ev2 (i,k),uv a] H fun r H'=>Pl H H'/\SI H' r (j6 (Ax p (i:Nat) (k:Nat) a)):=by
 refine i9 mixed c5c ?_;have hl:=hu.len;have wM:=hL.2.2;have hRl:=Ir p (i:Nat) (k:Nat) a;refine d4 (el_edge.vcells (i,k)) ?_;refine s8 (α:=Nat×Value) (fun⟨m,v⟩=>[v,ii (m:Nat)]) (fun⟨m,v⟩=>fun H'=>m<=p.length/\Pl H H'/\OI H H' v ((Ax p (i:Nat) (k:Nat) a).take m)) (fun⟨m,v⟩=>p.length-m) ((0,.slice none 0 0)) rfl (⟨bI _,Pl.refl _,SO.nil _ _ _ _ _⟩) fun⟨m,v⟩ H' hQ=> ?_;simp only[cA,nA];obtain⟨hm,l2,o2⟩:=hQ;refine j1 el_plan (hu.mono l2) ?_;refine d9 (d9 ?_);refine g7 (b:=decide (((m:Nat):Int)<(p.length:Nat))) rfl (fun h=> ?_) (fun h=> ?_)
 ·replace h:=oDt h;have tW:m<p.length:=aA;obtain⟨y,hy,_⟩:=m7 tW;have hR:=ac (i:=(i:Int)) (k:=(k:Int)) (a:=a) hy;have vA:((Ax p (i:Nat) (k:Nat) a).take m).length=m:=by rw[bM];omega
  refine j4 el_plan (hu.mono l2) hy fun _=> ?_;simp only[cA,nA];refine d9 (d9 ?_);refine j8 (p:=(y=(i:Nat))) (bE _ _) (fun h1=> ?_) fun h1=> ?_
  ·have vZ:y=(i:Nat)\/y=(k:Nat):= .inl h1;refine y8 (Dq (s:=a) (n:=m) ha aA) rfl ?_;simp only[cA,nA];refine d9 ?_;refine g7 (b:=bit a m) rfl (fun b1=> ?_) (fun b1=> ?_)
   ·skip
    refine Dk el_plan rfl rfl rfl aE aE l2 o2 aA rfl aE rfl fun q5 v5 H5 l5 o5=> ?_;simp only[cA,nA];exact⟨(m+1,v5),by show p.length-(m+1)<p.length-m;omega,(i7 rfl (i6 rfl aA)),⟨tW,l5,by rw[take_snoc hR,show rcV (i:Nat) (k:Nat) a m y=(i:Nat) by unfold rcV;rw[if_pos vZ,if_pos b1]];exact o5⟩⟩
   ·skip
    refine Dk el_plan rfl rfl rfl aE aE l2 o2 aA rfl aE rfl fun q5 v5 H5 l5 o5=> ?_;simp only[cA,nA];exact⟨(m+1,v5),by show p.length-(m+1)<p.length-m;omega,(i7 rfl (i6 rfl aA)),⟨tW,l5,by rw[take_snoc hR,show rcV (i:Nat) (k:Nat) a m y=(k:Nat) by unfold rcV;rw[if_pos vZ,if_neg (by rw[b1];simp)]];exact o5⟩⟩
  ·refine d9 ?_;refine j8 (p:=(y=(k:Nat))) (bE _ _) (fun h2=> ?_) fun h2=> ?_
   ·have vZ:y=(i:Nat)\/y=(k:Nat):= .inr h2;refine y8 (Dq (s:=a) (n:=m) ha aA) rfl ?_;simp only[cA,nA];refine d9 ?_;refine g7 (b:=bit a m) rfl (fun b1=> ?_) (fun b1=> ?_)
    ·skip
     refine Dk el_plan rfl rfl rfl aE aE l2 o2 aA rfl aE rfl fun q5 v5 H5 l5 o5=> ?_;simp only[cA,nA];exact⟨(m+1,v5),by show p.length-(m+1)<p.length-m;omega,(i7 rfl (i6 rfl aA)),⟨tW,l5,by rw[take_snoc hR,show rcV (i:Nat) (k:Nat) a m y=(i:Nat) by unfold rcV;rw[if_pos vZ,if_pos b1]];exact o5⟩⟩
    ·skip
     refine Dk el_plan rfl rfl rfl aE aE l2 o2 aA rfl aE rfl fun q5 v5 H5 l5 o5=> ?_;simp only[cA,nA];exact⟨(m+1,v5),by show p.length-(m+1)<p.length-m;omega,(i7 rfl (i6 rfl aA)),⟨tW,l5,by rw[take_snoc hR,show rcV (i:Nat) (k:Nat) a m y=(k:Nat) by unfold rcV;rw[if_pos vZ,if_neg (by rw[b1];simp)]];exact o5⟩⟩
   ·have hv:rcV (i:Nat) (k:Nat) a m y=y:=if_neg (fun e=>e.elim h1 h2);refine Dk el_plan rfl rfl rfl aE aE l2 o2 aA rfl aE rfl fun q5 v5 H5 l5 o5=> ?_;simp only[cA,nA];exact⟨(m+1,v5),by show p.length-(m+1)<p.length-m;omega,(i7 rfl (i6 rfl aA)),⟨tW,l5,by rw[take_snoc hR,hv];exact o5⟩⟩
 ·replace h:=oDf h;have he:m=p.length:=aA;rw[aF aA]at o2;refine g9 (oy o2.se (mn hL aA aA)) rfl ?_;rintro r H5 ⟨l5,z,rfl,hz⟩;refine nmI ?_;simp only[cA,nA];refine i8 (i8 ?_);exact g6 rfl ⟨l2.trans l5,hz⟩
theorem c0o {pr:Nat×Nat} (hu:SI H u p) (rM:p.length<=64):Asks prog 164 [u,ev2 pr] H (uv (e1v p pr)):=by
 refine i9 mixed c5d ?_;refine d4 (el_edge.vcells pr) ?_;refine s6 (mb hu rM (pr.1:Nat)) rfl ?_;refine s6 (mb hu rM (pr.2:Nat)) rfl ?_;refine d9 (d9 ?_);exact g6 rfl ⟨rfl,Du rfl rfl (lp _ _ rM) (lp _ _ rM)⟩
end
open Go.WD
section
variable {H:PH} {s x:Nat} {z:Int}
theorem Lg.agg {H:PH} {v:Value} {z:Int} (h:Lg H v z):Value.agg v.cells=v:=by obtain⟨w,rfl,_⟩:=h;rfl
end
end Go.Z
namespace Go.GS
open RowKit RX
theorem RL {P:Program} {ρ:List Value} {a:SV} {p:Nat} (ha:D P ρ a=ii (p:Nat)) (h0:0<p) (h:p<9223372036854775807):D P ρ (.op2 .sub .i64 a (.k (.int .i64 1)))=ii ((p-1:Nat):Int):=by
 obtain⟨k,rfl⟩:∃k,p=k+1:=⟨p-1,aA⟩;exact d7B ha aA
end Go.GS
namespace Go.Z
open Proofs.Tryz RowKit RX GS
theorem e0u:FA prog 137 0 0:=⟨aB,oDt aB,aB,aB,oDt aB⟩
section
variable {H H0:PH} {u v w wts:Value} {p q wl t l:List Int} {n c e m bw:Nat} {es:List (Nat×Nat)} {lo hi ds:Int} {set x:Nat}
def rwc (wts:Value) (lo hi ds:Int) (n:Nat) (w:Value) (c e:Nat):Array Value:= #[wts,ii lo,ii hi,ii ds,ii (n:Nat),w,uv c,ii (e:Nat)]
def RwO (wts:Value) (lo hi ds:Int) (n:Nat) (w:Value) (c e:Nat):Obj:= .cells (rwc wts lo hi ds n w c e) 137 (0,0)
end
end Go.Z

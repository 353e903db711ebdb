/- Lemmas: chapter 32. -/
import Derived.Test.YtcdnhlplkhldbaaGreatDoorLgT
open Go.Value.int renaming injEq->kP
open Int renaming eq_nat_or_neg->nQ,natAbs_natCast->eU,natAbs_neg->iC
open List renaming drop_of_length_le->iK
open Nat renaming add_comm->iP,add_mul_div_right->mP,add_mul_mod_self_right->lM,div_add_mod->jA,div_eq_of_lt->fV,dvd_trans->pG,eq_zero_or_pos->kR,gcd->fO,gcd_comm->nF,lt_trans->iE,mul_add->fE,mul_assoc->eY,mul_left_comm->nR,mul_one->fY,mul_zero->gP,or_lt_two_pow->iY,pow_add->fW,pow_pos->jD,pow_zero->kQ,zero_lt_succ->eM
set_option linter.all false
set_option maxRecDepth 100000
open Go.IntKind renaming wrap->wQ
namespace Go.Z
open Proofs.Tryz RowKit RX WD
def Lm (z:Int):Prop:=z.natAbs<BP 10000
def T0 (z:Int):sn (!decide (z<0)) z.natAbs= -z:=by
 unfold sn;by_cases h:z<0<;>simp[h]<;>omega
def T4 (z:Int):sn (decide (z<0)) z.natAbs=z:=by
 unfold sn;by_cases h:z<0<;>simp[h]<;>omega
section
variable {H:PH} {v x y:Value} {z p q:Int}
def T5 (h:(decide (p<0)==decide (q<0))=true):sn (decide (p<0)) (p.natAbs+q.natAbs)=p+q:=by
 unfold sn;by_cases h1:p<0<;>by_cases h2:q<0<;>simp[h1,h2]at h⊢<;>omega
def KE (h:(decide (p<0)==decide (q<0))=false) (hl:q.natAbs<=p.natAbs):sn (decide (p<0)) (p.natAbs-q.natAbs)=p+q:=by
 unfold sn;by_cases h1:p<0<;>by_cases h2:q<0<;>simp[h1,h2]at h⊢<;>omega
def T6:sn (true !=(decide (p<0)==decide (q<0))) (p.natAbs*q.natAbs)=p*q:=by
 obtain⟨a,ha⟩:=nQ p;obtain⟨b,hb⟩:=nQ q;have tP:(((a*b:Nat):Int))=(a:Int)*b:=eA a b;have hz:a=0\/b=0->(a:Int)*b=0:=by rintro(h|h)<;>rw[h]<;>simp
 unfold sn;rcases ha with ha|ha<;>rcases hb with hb|hb<;>subst ha<;>subst hb
 ·simp[show ¬(a:Int)<0 by omega,show ¬(b:Int)<0 by omega]
 ·rw[iC,eU,eU,tP,Int.mul_neg];by_cases h:b=0
  ·rw[hz (.inr h)];simp
  ·rw[decide_eq_false (show ¬(a:Int)<0 by omega),oDd (show -(b:Int)<0 by omega)];rfl
 ·rw[iC,eU,eU,tP,Int.neg_mul];by_cases h:a=0
  ·rw[hz (.inl h)];simp
  ·rw[decide_eq_false (show ¬(b:Int)<0 by omega),oDd (show -(a:Int)<0 by omega)];rfl
 ·rw[iC,eU,iC,eU,tP,Int.neg_mul_neg];by_cases h:a=0\/b=0
  ·rw[hz h];simp
  ·rw[oDd (show -(a:Int)<0 by omega),oDd (show -(b:Int)<0 by omega)];rfl
end
def xq:j3 prog 4= .bool false:=aB
open Classical in
section
variable {H:PH} {v x y:Value} {z p q:Int}
def Lm.nat {n:Nat} (h:n<BP 10000):Lm (n:Int):=by unfold Lm;rw[eU];exact h
def xr:Lm 1:=by
 unfold Lm;have:=BP_lt_iff.2 (show 0<10000 by omega);rw[BP_zero]at this;exact this
end
open Go.RowKit Go.RX Go.WD
def T7 {z:Int} (h:z.natAbs<M):Lm z:=by
 unfold Lm;have:=Ha (show 16<=10000 by omega);rw[J7]at this;omega
def jc (a:Nat):Lm (toI a):=T7 (Vk a)
def Es.len {H:PH} {v:Value} {l:List Nat} (h:Es H v l):l.length<9223372036854775808:=by
 have:=h.1.len_le;simp only[maxLen]at this;omega
def Es.take {H:PH} {v:Value} {l:List Nat} {o:Oper} {x hi:Operand} {i:Nat} {k:IntKind} {vs:List Value} (h:Es H v l) (ho:o.op= .slice 104 x none (some hi) none) (hx:e8 [x,hi] vs x=v) (hl:e8 [x,hi] vs hi= .int k (i:Nat)) (h1:i<=l.length):∃u,Yld prog o vs u/\Es H u (l.take i):=by
 obtain⟨u,h2,h3⟩:=F1 (P:=prog) ho hx hl Lq Lo h.1 h1;refine⟨u,h2,?_,h.2.take i⟩;rw[bH,cD h1,List.map_take]
 rwa[fY]at h3
def On (l:List Nat) (k:Nat):ul (l.take (k+1))=ul (l.take k)+PW k*l.getD k 0:=by
 rcases dU k l.length with h|h
 ·exact Vj h
 ·rw[aI aA,aI h,Vh h,gP,cJ]
def Mu.one {H:PH} {v:Value} {n:Nat} (h:Mu H v n):v.cells= #[v]/\v.cells.size=1/\j0 v.cells:=by
 obtain⟨l,h1,_⟩:=h;exact⟨h1.cells,h1.one⟩
def Lw (H:PH) (v:Value) (z:Int):Prop:=∃w,v= .agg #[.bool (decide (z<0)),w]/\Mu H w z.natAbs
def Lw.mono {H H':PH} {v:Value} {z:Int} (h:Lw H v z) (hl:Pl H H'):Lw H' v z:=by
 obtain⟨w,h1,h2⟩:=h;exact⟨w,h1,h2.mono hl⟩
def Lw.rq {H:PH} {v:Value} {z:Int} (h:Lw H v z):v.cells.size=2/\j0 v.cells:=by
 obtain⟨w,rfl,hw⟩:=h;refine⟨rfl,fun c hc=> ?_⟩;have h1:=hw.one.2.2;rw[hw.one.1]at h1;rw[show(Value.agg #[.bool (decide (z<0)),w]).cells= #[.bool (decide (z<0)),w]from rfl]at hc;simp only[bG,cF,or_false]at hc;rcases hc with h2|h2
 ·rw[h2];rfl
 ·rw[h2];exact h1 w aD
section
variable {H:PH} {v:Value} {l:List Nat}
def KF {n:Nat} (hn:n<=l.length) (hz:∀k,n<=k->l.getD k 0=0):ul (l.take n)=ul l:=by
 obtain⟨d,hd⟩:=Nat.exists_eq_add_of_le hn;induction d generalizing n with
 |zero=>rw[aI aA]
 |succ d ih=>
  have:=ih (n:=n+1) aA (fun k hk=>hz k aA) aA;rw[Vj aA,hz n (aS n),gP,cJ]at this;exact this
def Ik (b:Bool) (h:Es H v l):Con prog 140 [.bool b,v] H fun u H'=>H'=H/\Lw H u (sn b (ul l)):=by
 have qC:=h.len;refine s7 mixed P4 aB rfl (Ak rfl rfl h rfl ⟨fun vals H'=>∃n:Nat,vals=[iv n]/\H'=H/\n<=l.length/\∀k,n<=k->l.getD k 0=0,fun vals _=>(intOf (vals.getD 0 undef)).toNat,⟨l.length,rfl,rfl,aS _,fun k hk=>Vh hk⟩,?_⟩);rintro vals H'-⟨n,rfl,rfl,hn,hz⟩;simp only[cA,nA];refine⟨fun vs H1=>H1=H'/\vs=[.bool (decide (0<n/\l.getD (n-1) 0=0))],b4 ⟨_,rfl⟩ (g6 (b:=decide ((n:Int)>0)) rfl (fun hb=> ?_) (fun hb=> ?_)),?_⟩
 ·have hb:=oDt hb;have e1:wQ .i64 ((n:Int)-1)=((n-1:Nat):Int):=JS aA aA;refine Do (k:= .i64) (j:=n-1) rfl rfl rfl rfl aF h aA (by simp only[rxs,iv,e1]) aF fun p=>b4 ⟨_,rfl⟩ ⟨rfl,?_⟩;simp only[rxs,uvL];congr 2;rw[bY];simp only[beq_iff_eq,decide_eq_true_eq];omega
 ·have hb:=oDf hb;refine⟨rfl,?_⟩;simp only[rxs];congr 2;rw[eq_comm,decide_eq_false_iff_not];omega
 rintro vs H1-⟨rfl,rfl⟩;simp only[cA,nA];refine b4 ⟨_,rfl⟩ (g6 rfl (fun hb=> ?_) (fun hb=> ?_))
 ·have hb:=oDt hb;have e1:wQ .i64 ((n:Int)-1)=((n-1:Nat):Int):=JS aA aA;refine b4 ⟨_,rfl⟩ ⟨⟨n-1,?_,rfl,aA,fun k hk=> ?_⟩,?_⟩
  ·simp only[rxs,iv,e1]
  ·rcases Nat.eq_or_lt_of_le hk with e|e
   ·rw[<-e];exact hb.2
   ·exact hz k aA
  ·simp only[rxs,iv,e1];omega
 ·have hb:=oDf hb;have htm:Um (l.take n):=by
   rcases kR n with e|e
   ·subst e;exact Um.nil
   ·refine Um.of (n:=n-1) (by rw[bH];omega) ?_;rw[aJ,eI,if_pos aA,<-aJ];exact fun h0=>hb ⟨e,h0⟩
  have rS:=htm.pos;rw[KF hn hz,bH,cD hn]at rS;obtain⟨u,hu,hd⟩:=Es.take (vs:=[v,iv n]) (k:= .i64) (i:=n) h P5 rfl rfl hn;have hMu:Mu H1 u (ul l):=⟨l.take n,hd,htm,KF hn hz⟩;refine b4 ⟨_,rfl⟩ (g6 rfl (fun hb=> ?_) (fun hb=> ?_))
  ·subst hb;refine b4 ⟨_,rfl⟩ (j8 (hu.rds _) rfl (b4 hd.one (d4 rfl ⟨rfl,u,?_,?_⟩)))
   ·simp only[rxs,Ab,hd.cells,iv,uw];show Value.agg #[.bool (decide ((n:Int)>0)),u]=_;congr 4;rw[decide_eq_decide];show _↔ -(ul l:Int)<0;omega
   ·show Mu _ u (-(ul l:Int)).natAbs;rw[iC,eU];exact hMu
  ·subst hb;refine j8 (hu.rds _) rfl (b4 hd.one (d4 rfl ⟨rfl,u,?_,?_⟩))
   ·simp only[rxs,Ab,hd.cells,uw];show Value.agg #[.bool false,u]=_;congr 4
   ·exact hMu
def T8 {a b:List Nat} (ha:Eg a) (hb:Eg b) (ta:Um a) (tb:Um b) (h:a.length≠b.length):((a.length:Int)-b.length<0↔ul a<ul b)/\((a.length:Int)-b.length=0↔ul a=ul b):=by
 rcases Nat.lt_or_gt_of_ne h with h1|h1
 ·have:=Um.lt_of_len ha tb h1;omega
 ·have:=Um.lt_of_len hb ta h1;omega
def KG {a b:List Nat} {va vb:Value} (ha:Es H va a) (hb:Es H vb b) (ta:Um a) (tb:Um b):Con prog 158 [va,vb] H fun u H'=>H'=H/\∃c:Int,u= .int .i64 c/\(c<0↔ul a<ul b)/\(c=0↔ul a=ul b):=by
 have tI:=ha.len;have vB:=hb.len;refine s7 mixed Q0 aB rfl (Ak rfl rfl ha rfl (Ak rfl rfl hb rfl (b4 ⟨_,rfl⟩ (b4 ⟨_,rfl⟩ (g6 (b:=((a.length:Int) !=(b.length:Int))) rfl (fun h=> ?_) (fun h=> ?_))))))
 ·have h:a.length≠b.length:=by have:=bne_iff_ne.1 h;omega
  have e1:wQ .i64 ((a.length:Int)-(b.length:Int))=(a.length:Int)-(b.length:Int):=Ln aA aA;refine Ak rfl rfl ha rfl (Ak rfl rfl hb rfl (b4 ⟨_,rfl⟩ (b4 ⟨_,rfl⟩ (d4 rfl ⟨rfl,_,?_,T8 ha.2 hb.2 ta tb h⟩))));simp only[rxs,iv,Ab,e1]
 have h:a.length=b.length:=by have:=bne_eq_false_iff_eq.1 h;omega
 have e1:wQ .i64 ((a.length:Int)-1)=(a.length:Int)-1:=Ln aA aA;refine Ak rfl rfl ha rfl (b4 ⟨_,rfl⟩ ⟨fun vals H'=>∃i:Nat,vals=[.int .i64 0,.int .i64 ((i:Int)-1)]/\H'=H/\i<=a.length/\a.drop i=b.drop i,fun vals _=>(intOf (vals.getD 1 undef)+1).toNat,⟨a.length,?_,rfl,aS _,?_⟩,?_⟩)
 ·simp only[rxs,iv,e1]
 ·rw[iK (aS _),iK aA]
 rintro vals H'-⟨i,rfl,rfl,hi,hd⟩;simp only[cA,nA];refine b4 ⟨_,rfl⟩ (g6 (b:=decide ((i:Int)-1≥0)) rfl (fun tJ=> ?_) (fun tJ=> ?_))
 ·have tJ:=oDt tJ;obtain⟨j,rfl⟩:∃j,i=j+1:=⟨i-1,aA⟩;have ej:((j+1:Nat):Int)-1=(j:Int):=aA;rw[ej];have e2:wQ .i64 ((j:Int)-1)=(j:Int)-1:=Ln aA aA;refine Do (k:= .i64) (j:=j) rfl rfl rfl rfl aF ha aA rfl aF fun p1=>Do (k:= .i64) (j:=j) rfl rfl rfl rfl aF hb aA rfl aF fun p2=> ?_;refine b4 ⟨_,rfl⟩ (b4 ⟨_,rfl⟩ (g6 (b:=decide (((a.getD j 0:Nat):Int)<((b.getD j 0:Nat):Int))) rfl (fun h1=> ?_) (fun h1=> ?_)))
  ·have h1:=oDt h1;have:=JF ha.2 hb.2 (show j<a.length by omega) aA hd aA;exact d4 rfl ⟨rfl,-1,rfl,aA,aA⟩
  ·have h1:=oDf h1;refine Do (k:= .i64) (j:=j) rfl rfl rfl rfl aF ha aA rfl aF fun p3=>Do (k:= .i64) (j:=j) rfl rfl rfl rfl aF hb aA rfl aF fun p4=> ?_;refine b4 ⟨_,rfl⟩ (b4 ⟨_,rfl⟩ (g6 (b:=decide (((a.getD j 0:Nat):Int)>((b.getD j 0:Nat):Int))) rfl (fun h2=> ?_) (fun h2=> ?_)))
   ·have h2:=oDt h2;have:=JF hb.2 ha.2 (show j<b.length by omega) aA hd.symm aA;exact d4 rfl ⟨rfl,1,rfl,aA,aA⟩
   ·have h2:=oDf h2;refine⟨⟨j,?_,rfl,aA,?_⟩,?_⟩
    ·simp only[rxs,e2]
    ·rw[ij (show j<a.length by omega),ij (show j<b.length by omega),hd,show a.getD j 0=b.getD j 0 from aA]
    ·simp only[rxs,e2];omega
 ·have tJ:=oDf tJ;have uX:i=0:=aA;subst uX;rw[cS,cS]at hd;exact d4 rfl ⟨rfl,0,rfl,by rw[hd];omega,by rw[hd];omega⟩
end
section
variable {H:PH} {a b:List Nat} {va vb:Value}
def T9 (ha:Es H va a) (hb:Es H vb b) (hA:a.length<=100000) (hB:b.length<=100000):Con prog 157 [va,vb] H fun u H'=>Pl H H'/\∃l,Es H' u l/\ul l=ul a+ul b:=by
 refine s7 mixed Q1 aB rfl (Ak rfl rfl ha rfl (Ak rfl rfl hb rfl (b4 ⟨_,rfl⟩ (b4 ⟨_,rfl⟩ ⟨fun vals H'=>H'=H/\∃(x y:List Nat) (vx vy:Value),vals=[vx,vy]/\Es H vx x/\Es H vy y/\x.length<=100000/\y.length<=x.length/\ul x+ul y=ul a+ul b,g6 (b:=decide ((a.length:Int)<(b.length:Int))) rfl (fun h=> ?_) (fun h=> ?_),?_⟩))))
 ·have h:=oDt h;exact⟨rfl,b,a,vb,va,rfl,hb,ha,hB,aA,iP _ _⟩
 ·have h:=oDf h;exact⟨rfl,a,b,va,vb,rfl,ha,hb,hA,aA,rfl⟩
 rintro vals H0-⟨rfl,x,y,vx,vy,rfl,hx,hy,hX,hyx,a1a⟩;simp only[cA,nA];have e0:wQ .i64 ((x.length:Int)+1)=((x.length+1:Nat):Int):=Ll aA;refine Ak rfl rfl hx rfl (b4 ⟨_,rfl⟩ (Zl (kl:= .i64) (kc:= .i64) (m:=x.length+1) rfl rfl rfl aA (by simp only[rxs,iv,e0]) fun out H1 rL h1=> ?_));refine Ak rfl rfl (hx.mono rL) rfl ⟨fun vals H'=>∃(c i:Nat) (l:List Nat),vals=[.int .u64 (c:Nat),iv i]/\c<=1/\i<=x.length/\Pl H0 H'/\Eo H0 H' out l/\l.length=x.length+1/\(∀k,i<=k->l.getD k 0=0)/\ul l+PW i*c=ul (x.take i)+ul (y.take i),fun vals _=>(x.length-intOf (vals.getD 1 undef)).toNat,⟨0,0,_,rfl,aA,aA,rL,h1,aD,fun k _=>Zd _ k,?_⟩,?_⟩
 ·rw[Rx];simp[ul]
 rintro vals H'-⟨c,i,l,rfl,hc,hi,pY,hO,uO,hz,hv⟩;simp only[cA,nA];have xB:=hx.mono pY;have yC:=hy.mono pY;refine b4 ⟨_,rfl⟩ (b4 ⟨_,rfl⟩ (g6 (b:=decide ((i:Int)<x.length)) rfl (fun h=> ?_) (fun h=> ?_)))
 ·have h:i<x.length:=by have:=oDt h;omega
  have dx:=hx.2.at i;have dy:=hy.2.at i;have e1:wQ .i64 ((i:Int)+1)=((i+1:Nat):Int):=Ll aA;refine Do (k:= .i64) (j:=i) rfl rfl rfl rfl aF xB h rfl aF fun p=> ?_;refine Ak rfl rfl yC rfl (b4 ⟨_,rfl⟩ ⟨fun vals H2=>H2=H'/\vals=[uvL (y.getD i 0)],g6 (b:=decide ((i:Int)<y.length)) rfl (fun h1=> ?_) (fun h1=> ?_),?_⟩)
  ·have h1:=oDt h1;exact Do (k:= .i64) (j:=i) rfl rfl rfl rfl aF yC aA rfl aF fun p=>⟨rfl,rfl⟩
  ·have h1:=oDf h1;refine⟨rfl,?_⟩;rw[Vh (l:=y) aA];rfl
  rintro vals H2-⟨rfl,rfl⟩;simp only[cA,nA];refine gx (ik (x.getD i 0) (y.getD i 0) c dx dy hc) rfl (b4 ⟨_,rfl,eM _⟩ (b4 ⟨_,rfl,bW _⟩ ?_));obtain⟨s,hs⟩:∃s,s=(x.getD i 0+y.getD i 0+c)%18446744073709551616:=⟨_,rfl⟩;obtain⟨c',hc'⟩:∃c',c'=(x.getD i 0+y.getD i 0+c)/18446744073709551616:=⟨_,rfl⟩;have key:s+18446744073709551616*c'=x.getD i 0+y.getD i 0+c:=aA;rw[<-hs,<-hc'];refine Lr (k:= .i64) (j:=i) (d:=s) rfl rfl rfl rfl aF aF pY hO aA aA rfl aF rfl fun p u H3 vZ h3 _=>⟨⟨c',i+1,_,?_,aA,aA,vZ,h3,by rw[cX];exact uO,?_,?_⟩,?_⟩
  ·simp only[rxs,iv,e1]
  ·intro k hk;rw[Lh aA];exact hz k aA
  ·have k1:=Jp (l:=l) s (show i<l.length by omega);rw[hz i (aS _),gP,cJ]at k1;have k2:=congrArg (PW i* ·) key;simp only[fE]at k2;rw[On,On,k1,u6,eY];omega
  ·simp only[rxs,iv,e1];omega
 ·have h:i=x.length:=by have:=oDf h;omega
  subst h;refine Ak rfl rfl xB rfl ?_;refine Lr (k:= .i64) (j:=x.length) (d:=c) rfl rfl rfl rfl aF aF pY hO aA aA rfl aF rfl fun p u H3 vZ h3 _=>d4 rfl ⟨vZ,_,h3.es,?_⟩;have k1:=Jp (l:=l) c (show x.length<l.length by omega);rw[hz _ (aS _),gP,cJ]at k1;rw[k1,hv,aI (aS _),aI hyx,a1a]
def xt (ha:Es H va a) (hb:Es H vb b) (tP:ul b<=ul a) (hl:b.length<=a.length) (hA:a.length<=100000):Con prog 159 [va,vb] H fun u H'=>Pl H H'/\∃l,Es H' u l/\ul l=ul a-ul b:=by
 refine s7 mixed Q4 aB rfl (Ak rfl rfl ha rfl (Zl (kl:= .i64) (kc:= .i64) (m:=a.length) rfl rfl rfl aA rfl fun out H1 rL h1=> ?_));refine Ak rfl rfl (ha.mono rL) rfl ⟨fun vals H'=>∃(c i:Nat) (l:List Nat),vals=[.int .u64 (c:Nat),iv i]/\c<=1/\i<=a.length/\Pl H H'/\Eo H H' out l/\l.length=a.length/\(∀k,i<=k->l.getD k 0=0)/\ul l+ul (b.take i)=ul (a.take i)+PW i*c,fun vals _=>(a.length-intOf (vals.getD 1 undef)).toNat,⟨0,0,_,rfl,aA,aA,rL,h1,aD,fun k _=>Zd _ k,?_⟩,?_⟩
 ·rw[Rx];simp[ul]
 rintro vals H'-⟨c,i,l,rfl,hc,hi,pY,hO,uO,hz,hv⟩;simp only[cA,nA];have vD:=ha.mono pY;have rO:=hb.mono pY;refine b4 ⟨_,rfl⟩ (b4 ⟨_,rfl⟩ (g6 (b:=decide ((i:Int)<a.length)) rfl (fun h=> ?_) (fun h=> ?_)))
 ·have h:i<a.length:=by have:=oDt h;omega
  have dx:=ha.2.at i;have dy:=hb.2.at i;have e1:wQ .i64 ((i:Int)+1)=((i+1:Nat):Int):=Ll aA;refine Do (k:= .i64) (j:=i) rfl rfl rfl rfl aF vD h rfl aF fun p=> ?_;refine Ak rfl rfl rO rfl (b4 ⟨_,rfl⟩ ⟨fun vals H2=>H2=H'/\vals=[uvL (b.getD i 0)],g6 (b:=decide ((i:Int)<b.length)) rfl (fun h1=> ?_) (fun h1=> ?_),?_⟩)
  ·have h1:=oDt h1;exact Do (k:= .i64) (j:=i) rfl rfl rfl rfl aF rO aA rfl aF fun p=>⟨rfl,rfl⟩
  ·have h1:=oDf h1;refine⟨rfl,?_⟩;rw[Vh (l:=b) aA];rfl
  rintro vals H2-⟨rfl,rfl⟩;simp only[cA,nA];refine gx (IY (a.getD i 0) (b.getD i 0) c hc) rfl (b4 ⟨_,rfl,eM _⟩ (b4 ⟨_,rfl,bW _⟩ ?_));obtain⟨s,hs⟩:∃s,s=(a.getD i 0+18446744073709551616-b.getD i 0-c)%18446744073709551616:=⟨_,rfl⟩;obtain⟨c',hc'⟩:∃c',c'=(if a.getD i 0<b.getD i 0+c then 1 else 0):=⟨_,rfl⟩;have rX:c'<=1:=by rw[hc'];split<;>omega
  have key:s+b.getD i 0+c=a.getD i 0+18446744073709551616*c':=by rw[hs,hc'];split<;>omega
  rw[<-hs,<-hc'];refine Lr (k:= .i64) (j:=i) (d:=s) rfl rfl rfl rfl aF aF pY hO aA aA rfl aF rfl fun p u H3 vZ h3 _=>⟨⟨c',i+1,_,?_,aA,aA,vZ,h3,by rw[cX];exact uO,?_,?_⟩,?_⟩
  ·simp only[rxs,iv,e1]
  ·intro k hk;rw[Lh aA];exact hz k aA
  ·have k1:=Jp (l:=l) s (show i<l.length by omega);rw[hz i (aS _),gP,cJ]at k1;have k2:=congrArg (PW i* ·) key;simp only[fE]at k2;rw[On,On,k1,u6,eY];omega
  ·simp only[rxs,iv,e1];omega
 ·have h:i=a.length:=by have:=oDf h;omega
  subst h;rw[aI (aS _),aI hl]at hv;have qB:=Hf hO.2;rw[uO]at qB;have xZ:c=0:=by
   rcases kR c with e|e
   ·exact e
   ·have:c=1:=aA;rw[this]at hv;omega
  rw[xZ]at hv;exact d4 rfl ⟨pY,l,hO.es,aA⟩
def U0 {x y:Nat} (hx:x<18446744073709551616) (hy:y<18446744073709551616):x*y<=18446744073709551615*18446744073709551615:=eH aA aA
set_option maxHeartbeats 1000000 in
def U1 (ha:Es H va a) (hb:Es H vb b) (hA:a.length<=100000) (hB:b.length<=100000):Con prog 141 [va,vb] H fun u H'=>Pl H H'/\∃l,Es H' u l/\ul l=ul a*ul b:=by
 have e0:wQ .i64 ((a.length:Int)+(b.length:Int))=((a.length+b.length:Nat):Int):=Zj aA;refine s7 mixed Q5 aB rfl (Ak rfl rfl ha rfl (Ak rfl rfl hb rfl (b4 ⟨_,rfl⟩ (b4 ⟨_,rfl⟩ (Zl (kl:= .i64) (kc:= .i64) (m:=a.length+b.length) rfl rfl rfl aA (by simp only[rxs,iv,e0]) fun out H1 rL h1=> ?_)))));refine Ak rfl rfl (ha.mono rL) rfl ⟨fun vals H'=>∃(i:Nat) (l:List Nat),vals=[iv i]/\i<=a.length/\Pl H H'/\Eo H H' out l/\l.length=a.length+b.length/\(∀k,i+b.length<=k->l.getD k 0=0)/\ul l=ul (a.take i)*ul b,fun vals _=>(a.length-intOf (vals.getD 0 undef)).toNat,⟨0,_,rfl,aA,rL,h1,aD,fun k _=>Zd _ k,?_⟩,?_⟩
 ·rw[Rx];simp[ul]
 rintro vals H'-⟨i,l,rfl,hi,pY,hO,uO,hz,hv⟩;simp only[cA,nA];have vD:=ha.mono pY;refine b4 ⟨_,rfl⟩ (b4 ⟨_,rfl⟩ (g6 (b:=decide ((i:Int)<a.length)) rfl (fun h=> ?_) (fun h=> ?_)))
 ·have h:i<a.length:=by have:=oDt h;omega
  have da:=ha.2.at i;refine Do (k:= .i64) (j:=i) rfl rfl rfl rfl aF vD h rfl aF fun p0=> ?_;refine Ak rfl rfl (hb.mono pY) rfl ⟨fun vals H'=>∃(c j:Nat) (l:List Nat),vals=[.int .u64 (c:Nat),iv j]/\j<=b.length/\c<18446744073709551616/\Pl H H'/\Eo H H' out l/\l.length=a.length+b.length/\(∀k,i+b.length<=k->l.getD k 0=0)/\ul l+PW (i+j)*c=ul (a.take i)*ul b+PW i*(a.getD i 0*ul (b.take j)),fun vals _=>(b.length-intOf (vals.getD 1 undef)).toNat,⟨0,0,l,rfl,aA,aA,pY,hO,uO,hz,?_⟩,?_⟩
  ·simp[ul,hv]
  rintro vals H2-⟨c,j,l2,rfl,hj,hc,zH,hO2,a2n,yF,hv2⟩;simp only[cA,nA];have qZ:=hb.mono zH;refine b4 ⟨_,rfl⟩ (b4 ⟨_,rfl⟩ (g6 (b:=decide ((j:Int)<b.length)) rfl (fun vM=> ?_) (fun vM=> ?_)))
  ·have vM:j<b.length:=by have:=oDt vM;omega
   have db:=hb.2.at j;have dl:=hO2.2.at (i+j);have e1:wQ .i64 ((i:Int)+(j:Int))=((i+j:Nat):Int):=Zj aA;have e10:wQ .i64 ((j:Int)+1)=((j+1:Nat):Int):=Ll aA;have hm:=U0 da db;refine Do (k:= .i64) (j:=j) rfl rfl rfl rfl aF qZ vM rfl aF fun p1=> ?_;refine Db (O7 (a.getD i 0) (b.getD j 0) da db) rfl (b4 ⟨_,rfl,eM _⟩ (b4 ⟨_,rfl,bW _⟩ ?_));generalize hP:a.getD i 0*b.getD j 0=P at hm;obtain⟨qG,zD⟩:∃x,x=P/18446744073709551616:=⟨_,rfl⟩;obtain⟨lo,zF⟩:∃x,x=P%18446744073709551616:=⟨_,rfl⟩;rw[<-zD,<-zF];refine Do (k:= .i64) (j:=i+j) rfl rfl rfl rfl aF hO2.es aA (by simp only[rxs,iv,e1]) aF fun p2=> ?_;generalize hd:l2.getD (i+j) 0=d at dl;refine gx (ik d lo 0 dl aA aA) rfl (b4 ⟨_,rfl,eM _⟩ (b4 ⟨_,rfl,bW _⟩ ?_));obtain⟨s1,tA⟩:∃x,x=(d+lo+0)%18446744073709551616:=⟨_,rfl⟩;obtain⟨c1,rX⟩:∃x,x=(d+lo+0)/18446744073709551616:=⟨_,rfl⟩;rw[<-tA,<-rX];refine gx (ik s1 c 0 aA hc aA) rfl (b4 ⟨_,rfl,eM _⟩ (b4 ⟨_,rfl,bW _⟩ ?_));obtain⟨s2,xY⟩:∃x,x=(s1+c+0)%18446744073709551616:=⟨_,rfl⟩;obtain⟨c2,rR⟩:∃x,x=(s1+c+0)/18446744073709551616:=⟨_,rfl⟩;rw[<-xY,<-rR];have key:s2+18446744073709551616*(qG+c1+c2)=c+d+P:=aA;have vF:qG+c1+c2<18446744073709551616:=aA;have e2:wQ .u64 ((qG:Int)+(c1:Int))=((qG+c1:Nat):Int):=by rw[<-dZ];exact wu aA
   have e3:wQ .u64 (((qG+c1:Nat):Int)+(c2:Int))=((qG+c1+c2:Nat):Int):=by rw[<-dZ];exact wu aA
   refine b4 ⟨_,rfl⟩ (b4 ⟨_,rfl⟩ (b4 ⟨_,rfl⟩ (Lr (k:= .i64) (j:=i+j) (d:=s2) rfl rfl rfl rfl aF aF zH hO2 aA aA (by simp only[rxs,iv,e1]) (fun p=>rfl) rfl fun p u H3 vZ h3 _=>⟨⟨qG+c1+c2,j+1,_,?_,aA,vF,vZ,h3,by rw[cX];exact a2n,?_,?_⟩,?_⟩)))
   ·simp only[rxs,iv,e2,e3,e10]
   ·intro k hk;rw[Lh aA];exact yF k hk
   ·have k1:=Jp (l:=l2) s2 (show i+j<l2.length by omega);rw[hd]at k1;have k2:=congrArg (PW (i+j)* ·) key;simp only[fE]at k2;have k3:PW i*(a.getD i 0*(PW j*b.getD j 0))=PW (i+j)*P:=by
     rw[Vd,nR (a.getD i 0),hP,eY]
    rw[On,fE (a.getD i 0),fE (PW i),k3,<-Nat.add_assoc i j 1,u6,eY];simp only[fE];omega
   ·simp only[rxs,iv,e10];omega
  ·have vM:j=b.length:=by have:=oDf vM;omega
   subst vM;have e1:wQ .i64 ((i:Int)+(b.length:Int))=((i+b.length:Nat):Int):=Zj aA;have e10:wQ .i64 ((i:Int)+1)=((i+1:Nat):Int):=Ll aA;refine Ak rfl rfl qZ rfl (b4 ⟨_,rfl⟩ (Lr (k:= .i64) (j:=i+b.length) (d:=c) rfl rfl rfl rfl aF aF zH hO2 aA hc (by simp only[rxs,iv,e1]) (fun p=>rfl) rfl fun p u H3 vZ h3 _=>⟨⟨i+1,_,?_,aA,vZ,h3,by rw[cX];exact a2n,?_,?_⟩,?_⟩))
   ·simp only[rxs,iv,e10]
   ·intro k hk;rw[Lh aA];exact yF k aA
   ·have k1:=Jp (l:=l2) c (show i+b.length<l2.length by omega);rw[yF _ (aS _),gP,cJ]at k1;rw[k1,hv2,aI (aS _),On,dC,eY]
   ·simp only[rxs,iv,e10];omega
 ·have h:i=a.length:=by have:=oDf h;omega
  rw[aI aA]at hv;exact d4 rfl ⟨pY,l,hO.es,hv⟩
end
end Go.Z
namespace Go.WD
open RX
def Zn {l:List Nat} (h:Eg l) (j:Nat):dig (ul l) j=l.getD j 0:=by
 rcases dU j l.length with hj|hj
 ·have e1:=xf l (show j<=l.length by omega);have e2:=xe hj;have h1:=Hf (h.take j);rw[bH,cD aA]at h1;have h2:=h.at j;unfold dig;rw[e1,Nat.add_mul_div_left _ _ (Bi j),fV h1,bJ,e2,Nat.add_mul_mod_self_left,dV h2]
 ·rw[Vh hj];refine xi (aU (Hf h) (Rw hj))
def Um.top {l:List Nat} (h:Um l) (hD:Eg l) {n:Nat} (hn:l.length=n+1):l.getD n 0≠0:=fun h0=>by
 have h1:=Vj (l:=l) (k:=n) aA;rw[aI aA,h0,gP,cJ]at h1;have h4:=Hf (hD.take n);rw[bH,cD aA]at h4;have h3:l.length<=n:=h n aA;omega
def U2 {l:List Nat} (h:Um l) (hD:Eg l) {n:Nat} (hn:l.length=n+1):blen (ul l)=64*n+blen (l.getD n 0):=by
 have ht:=h.top hD hn;have qB:=Hf hD;rw[hn]at qB;have:=O3 (A:=ul l) (i:=n) (by rw[Zn hD];exact ht) qB
 rwa[Zn hD]at this
def U3 {q k:Nat} (h:2^(k+1) ∣ q):dig q (k/64)|||2^(k%64)=dig q (k/64)+2^(k%64):=by
 refine O6 ?_;obtain⟨m,rfl⟩:=h;have e:2^(k+1)*m/PW (k/64)=2^(k%64+1)*m:=by
  rw[Vn,show k+1=64*(k/64)+(k%64+1)from aA,fW,eY,Nat.mul_div_cancel_left _ (jD aA)]
 unfold dig;rw[e,Lj];have hd:2^(k%64+1) ∣ 2^64:=Nat.pow_dvd_pow 2 aA;exact(Nat.dvd_mod_iff hd).2 ⟨m,rfl⟩
def xu (k:Nat):2^k=PW (k/64)*2^(k%64):=by
 rw[Vn,<-fW,show 64*(k/64)+k%64=k from aA]
def xw {r:Nat} (h:r<64):2^r<18446744073709551616:=by
 rw[Lj];exact cU aA h
end Go.WD
namespace Go.Z
open Proofs.Tryz RowKit RX WD
def Eo.frame {Hr H Hr' H':PH} {v:Value} {l:List Nat} (h:Eo Hr H v l) (hk:∀k ob,H k=some ob->Hr k=none->Hr' k=none/\H' k=some ob):Eo Hr' H' v l:=⟨h.1.frame hk,h.2⟩
def U4 (d r:Nat) (h:r<=64):wQ .u64 ((d:Int)*2^min r (IntKind.bits .u64))=((d*2^r%18446744073709551616:Nat):Int):=by
 rw[show min r (IntKind.bits .u64)=r from cD h,show(d:Int)*2^r=((d*2^r:Nat):Int)from by rw[eA,Int.natCast_pow];rfl,IntKind.wrap_u64];omega
section
variable {H:PH} {a b:List Nat} {va vb:Value}
def KH (ha:Es H va a) (ta:Um a) (hA:a.length<=1000000):Con prog 197 [va] H fun u H'=>H'=H/\u= .int .i64 (blen (ul a):Nat):=by
 refine s7 mixed Q6 aB rfl (Ak rfl rfl ha rfl (b4 ⟨_,rfl⟩ (g6 (b:=((a.length:Int)==0)) rfl (fun h=> ?_) (fun h=> ?_))))
 ·have h:=beq_iff_eq.1 h;obtain rfl:a=[]:=aT aA;exact d4 rfl ⟨rfl,rfl⟩
 ·have h:=beq_eq_false_iff_ne.1 h;obtain⟨n,hn⟩:∃n,a.length=n+1:=⟨a.length-1,aA⟩;have e1:wQ .i64 ((a.length:Int)-1)=((n:Nat):Int):=by rw[Ln aA aA];omega
  have dt:=ha.2.at n;have xJ:=blen_le (x:=a.getD n 0) (k:=64) dt;refine Ak rfl rfl ha rfl (b4 ⟨_,rfl⟩ (Ak rfl rfl ha rfl (b4 ⟨_,rfl⟩ ?_)));refine Do (k:= .i64) (j:=n) rfl rfl rfl rfl aF ha aA (by simp only[rxs,iv,e1]) aF fun p=>Db (JX _ dt) rfl (b4 ⟨_,rfl⟩ (d4 ?_ ⟨rfl,rfl⟩));simp only[dM,dA,rxs,iv,Ab];rw[U2 ta ha.2 hn];congr 1;rw[IntKind.wrap_i64,IntKind.wrap_i64];omega
set_option maxHeartbeats 1000000 in
def U5 (k:Nat) (ha:Es H va a) (hA:a.length<=100000) (hk:k<=20000000):Con prog 198 [va,.int .i64 (k:Nat)] H fun u H'=>Pl H H'/\Mu H' u (ul a*2^k):=by
 obtain⟨q,hq⟩:∃q,q=k/64:=⟨_,rfl⟩;obtain⟨r,hr⟩:∃r,r=k%64:=⟨_,rfl⟩;have a2o:r<64:=aA;have hkq:k=64*q+r:=aA;have eq1:wQ .i64 ((k:Int).tdiv 64)=((q:Nat):Int):=by rw[hq];exact KB k aA
 have er1:(k:Int).tmod 64=((r:Nat):Int):=by rw[hr];exact KC k
 have e0:wQ .i64 ((a.length:Int)+(q:Int))=((a.length+q:Nat):Int):=Zj aA;have e00:wQ .i64 (((a.length+q:Nat):Int)+1)=((a.length+q+1:Nat):Int):=Ll aA;have vN:2^k=PW q*2^r:=by rw[hq,hr];exact xu k
 refine s7 mixed Q7 aB rfl (Ak rfl rfl ha rfl (b4 ⟨_,rfl⟩ (b4 ⟨_,rfl⟩ (Zl (kl:= .i64) (kc:= .i64) (m:=a.length+q+1) rfl rfl rfl aA (by simp only[rxs,iv,eq1,e0,e00]) fun out H1 rL h1=> ?_))));refine Ak rfl rfl (ha.mono rL) rfl ⟨fun vals H'=>∃(i:Nat) (l:List Nat),vals=[iv i]/\i<=a.length/\Pl H H'/\Eo H H' out l/\l.length=a.length+q+1/\(∀k,i+q<k->l.getD k 0=0)/\l.getD (i+q) 0<2^r/\ul l=ul (a.take i)*2^k,fun vals _=>(a.length-intOf (vals.getD 0 undef)).toNat,⟨0,_,rfl,aA,rL,h1,aD,fun k _=>Zd _ k,?_,?_⟩,?_⟩
 ·rw[Zd];exact jD aA
 ·rw[Rx];simp[ul]
 rintro vals H'-⟨i,l,rfl,hi,pY,hO,uO,hz,zI,hv⟩;simp only[cA,nA];have vD:=ha.mono pY;refine b4 ⟨_,rfl⟩ (b4 ⟨_,rfl⟩ (g6 (b:=decide ((i:Int)<a.length)) rfl (fun h=> ?_) (fun h=> ?_)))
 ·have h:i<a.length:=by have:=oDt h;omega
  have da:=ha.2.at i;have e1:wQ .i64 ((i:Int)+(q:Int))=((i+q:Nat):Int):=Zj aA;have e2:wQ .i64 (((i+q:Nat):Int)+1)=((i+q+1:Nat):Int):=Ll aA;have e10:wQ .i64 ((i:Int)+1)=((i+1:Nat):Int):=Ll aA;refine Do (k:= .i64) (j:=i) rfl rfl rfl rfl aF vD h rfl aF fun p0=> ?_;refine Do (k:= .i64) (j:=i+q) rfl rfl rfl rfl aF hO.es aA (by simp only[rxs,iv,eq1,e1]) aF fun p1=> ?_;generalize hx:a.getD i 0=x at da;generalize hc:l.getD (i+q) 0=c at zI;have a1b:c<18446744073709551616:=iE zI (xw a2o);have wR:c|||(x*2^r%18446744073709551616)=(x%2^(64-r))*2^r+c:=by
   rw[O5 x aA,Nat.or_comm,JM zI]
  have hw0:(x%2^(64-r))*2^r+c<18446744073709551616:=by
   rw[<-wR,Lj];exact iY (by rw[<-Lj];exact a1b) (by rw[<-Lj];exact cI _ aA)
  have e3:=U4 x r aA;have e4:=xj c (x*2^r%18446744073709551616) a1b (cI _ aA);rw[wR]at e4;have a1c:=iq (r:=r) aA;have hdm:=jA x (2^(64-r));refine b4 ⟨_,rfl⟩ (b4 ?_ (b4 ⟨_,rfl⟩ (Lr (k:= .i64) (j:=i+q) (d:=(x%2^(64-r))*2^r+c) rfl rfl rfl rfl aF aF pY hO aA hw0 (by simp only[rxs,iv,eq1,e1]) (fun p=> ?_) rfl fun p2 u2 H2 tO h2 _=> ?_)))
  ·show(0:Int)<=(k:Int).tmod 64;rw[er1];omega
  ·simp only[rxs,uvL,er1,bU,e3,e4]
  simp only[cA,nA];have k1:=Jp (l:=l) ((x%2^(64-r))*2^r+c) (show i+q<l.length by omega);rw[hc]at k1;have hP:PW i*x*2^k=PW (i+q)*(2^r*x):=by
   rw[vN,Vd,eY (PW i),nR x,<-eY (PW i),eF x]
  refine g6 (b:=decide (((r:Nat):Int)>0)) ?_ (fun h0=> ?_) (fun h0=> ?_)
  ·show Value.bool (decide ((k:Int).tmod 64>0))=_;rw[er1]
  ·have h0:=oDt h0;have e5:wQ .i64 (64-((r:Nat):Int))=((64-r:Nat):Int):=by rw[Ln aA aA];omega
   have e6:=Vm x (64-r) aA;have hw1:=JO da (r:=r) aA;refine b4 ?_ (Lr (k:= .i64) (j:=i+q+1) (d:=x/2^(64-r)) rfl rfl rfl rfl aF aF tO h2 (by rw[cX];omega) (iE hw1 (xw a2o)) (by simp only[rxs,iv,eq1,e1,e2]) (fun p=> ?_) rfl fun p3 u3 H3 vZ h3 _=>⟨⟨i+1,_,?_,aA,vZ,h3,by rw[cX,cX];exact uO,?_,?_,?_⟩,?_⟩)
   ·show(0:Int)<=wQ .i64 (64-(k:Int).tmod 64);rw[er1,e5];omega
   ·simp only[rxs,uvL,er1,e5,bU,e6]
   ·simp only[rxs,iv,e10]
   ·intro j hj;rw[Lh aA,Lh aA];exact hz j aA
   ·rw[show i+1+q=i+q+1 from aA,IW (by rw[cX];omega)];exact hw1
   ·have k2:=Jp (l:=l.set (i+q) ((x%2^(64-r))*2^r+c)) (x/2^(64-r)) (show i+q+1<(l.set (i+q) ((x%2^(64-r))*2^r+c)).length by rw[cX];omega);rw[Lh aA,hz (i+q+1) aA,gP,cJ]at k2;rw[k2,On,hx,dC,hP,<-hv];have k3:2^r*x=(x%2^(64-r))*2^r+18446744073709551616*(x/2^(64-r)):=by
     rw[a1c];generalize x/2^(64-r)=X at hdm;generalize x%2^(64-r)=Y at hdm;generalize 2^(64-r)=S at hdm;rw[<-hdm,fE,eF (2^r) Y,<-eY,eF (2^r) S];omega
    rw[k3,u6];rw[fE]at k1;rw[fE,eY];omega
   ·simp only[rxs,iv,e10];omega
  ·have h0:=oDf h0;have yW:r=0:=aA;rw[yW]at zI k1 hP h2 hdm;rw[kQ]at zI;have vV:c=0:=aA;rw[Nat.sub_zero,<-Lj,dV da,kQ,fY]at k1 h2;refine⟨⟨i+1,_,?_,aA,tO,h2,by rw[cX];exact uO,?_,?_,?_⟩,?_⟩
   ·simp only[rxs,iv,e10]
   ·intro j hj;rw[Lh aA];exact hz j aA
   ·rw[Lh aA,hz (i+1+q) aA];exact jD aA
   ·rw[On,hx,dC,hP,<-hv,kQ,cQ];rw[vV,gP,cJ,cJ]at k1;rw[vV,cJ];exact k1
   ·simp only[rxs,iv,e10];omega
 ·have h:i=a.length:=by have:=oDf h;omega
  rw[aI aA]at hv;refine f0 (Ik false hO.es) rfl ?_;rintro u H2 ⟨rfl,w,rfl,hw⟩;refine⟨fun h=>(nomatch h),b4 ⟨_,rfl,rfl⟩ (d4 rfl ⟨pY,?_⟩)⟩;have e:(sn false (ul l)).natAbs=ul l:=rfl;rw[e,hv]at hw;exact hw
end
open Go.RowKit Go.RX Go.WD
section
variable {H:PH} {a b:List Nat} {va vb:Value}
def U6 {X Q R d s R' c:Nat} (h1:X=Q*d+R) (h2:s*d+R'=R*18446744073709551616+c):c+18446744073709551616*X=(s+18446744073709551616*Q)*d+R':=by
 rw[dC,eY,h1];generalize Q*d=Y;generalize s*d=Z at h2;omega
set_option maxHeartbeats 1000000 in
def KI (ha:Es H va a) (hb:Es H vb b) (ta:Um a) (tb:Um b) (xZ:0<ul b) (hA:a.length<=50000) (hB:b.length<=50000):
  Con prog 138 [va,vb] H fun u H'=>Pl H H'/\∃q r lq,u= .tuple #[q,r]/\Es H' q lq/\ul lq=ul a/ul b/\Mu H' r (ul a%ul b):=by
 refine s7 mixed Q8 aB rfl (Ak rfl rfl ha rfl (Zl (kl:= .i64) (kc:= .i64) (m:=a.length) rfl rfl rfl aA rfl fun vq H1 rL h1=> ?_));refine Ak rfl rfl (hb.mono rL) rfl (b4 ⟨_,rfl⟩ (g6 (b:=((b.length:Int)==1)) rfl (fun h=> ?_) (fun h=> ?_)))
 ·have h:b.length=1:=by have:=beq_iff_eq.1 h;omega
  obtain⟨d,rfl⟩:∃d,b=[d]:=by
   match b,h with
   |[d],_=>exact⟨d,rfl⟩
  rw[xd]at xZ⊢;have hd:d<18446744073709551616:=hb.2.at 0;have e0:wQ .i64 ((a.length:Int)-1)=(a.length:Int)-1:=Ln aA aA;refine Ak rfl rfl (ha.mono rL) rfl (b4 ⟨_,rfl⟩ ⟨fun vals H'=>∃(i R:Nat) (lq:List Nat),vals=[.int .u64 (R:Nat),.int .i64 ((i:Int)-1)]/\i<=a.length/\Pl H H'/\Eo H H' vq lq/\lq.length=a.length/\R<d/\ul (a.drop i)=ul (lq.drop i)*d+R,fun vals _=>(intOf (vals.getD 1 undef)+1).toNat,⟨a.length,0,_,?_,aS _,rL,h1,aD,xZ,?_⟩,?_⟩)
  ·simp only[dM,dA,rxs,iv,e0];rfl
  ·rw[iK (aS _),iK aD];simp[ul]
  rintro vals H'-⟨i,R,lq,rfl,hi,pY,hO,uO,hR,hv⟩;simp only[cA,nA];refine b4 ⟨_,rfl⟩ (g6 (b:=decide ((i:Int)-1≥0)) rfl (fun tJ=> ?_) (fun tJ=> ?_))
  ·have tJ:=oDt tJ;obtain⟨j,rfl⟩:∃j,i=j+1:=⟨i-1,aA⟩;have ej:((j+1:Nat):Int)-1=(j:Int):=aA;rw[ej];have e2:wQ .i64 ((j:Int)-1)=(j:Int)-1:=Ln aA aA;have da:=ha.2.at j;refine Do (k:= .i64) (j:=j) rfl rfl rfl rfl aF (ha.mono pY) aA rfl aF fun p1=> ?_;refine Do (k:= .i64) (j:=0) rfl rfl rfl rfl aF (hb.mono pY) aD rfl aF fun p2=> ?_;refine Db (S3 R (a.getD j 0) d hR da hd) rfl (b4 ⟨_,rfl,eM _⟩ (b4 ⟨_,rfl,bW _⟩ ?_));obtain⟨s,hs⟩:∃s,s=(R*18446744073709551616+a.getD j 0)/d:=⟨_,rfl⟩;obtain⟨R',hR'⟩:∃s,s=(R*18446744073709551616+a.getD j 0)%d:=⟨_,rfl⟩;have key:s*d+R'=R*18446744073709551616+a.getD j 0:=by
    rw[hs,hR',eF];exact jA _ _
   have a0w:s<18446744073709551616:=by
    rw[hs,Nat.div_lt_iff_lt_mul xZ];have:=bC 18446744073709551616 (show R+1<=d from hR);rw[dC,cQ]at this;rw[eF 18446744073709551616 d];omega
   have hRd:R'<d:=by rw[hR'];exact cI _ xZ
   rw[<-hs,<-hR'];refine Lr (k:= .i64) (j:=j) (d:=s) rfl rfl rfl rfl aF aF pY hO aA a0w rfl aF rfl fun p u H3 vZ h3 _=>⟨⟨j,R',_,?_,aA,vZ,h3,by rw[cX];exact uO,hRd,?_⟩,?_⟩
   ·simp only[rxs,e2]
   ·rw[xe (l:=a) (show j<a.length by omega),xe (l:=lq.set j s) (by rw[cX];omega),IW aA,J9 aA];exact U6 hv key
   ·simp only[rxs,e2];omega
  ·have tJ:=oDf tJ;have uX:i=0:=aA;subst uX;rw[cS,cS]at hv;refine JW (d:=R) rfl rfl aA rfl fun vr H2 tO h2=> ?_;refine f0 (Ik false h2.es) rfl ?_;rintro u H3 ⟨rfl,w,rfl,hw⟩;have e3:(sn false (ul [R])).natAbs=R:=by rw[xd];rfl
   rw[e3]at hw;refine⟨fun h=>(nomatch h),b4 ⟨_,rfl,rfl⟩ (d4 rfl ⟨pY.trans tO,vq,w,lq,rfl,(hO.mono tO).es,?_,?_⟩)⟩
   ·rw[hv,iP,mP _ _ xZ,fV hR,bJ]
   ·rw[hv,iP,lM,dV hR];exact hw
 ·have lA:blen (ul a)<=64*a.length:=KD (Hf ha.2);have lB:blen (ul b)<=64*b.length:=KD (Hf hb.2);obtain⟨p1,p2⟩:=Zi (x:=ul b) aA;refine f0 (KH (ha.mono rL) ta aA) rfl ?_;rintro _ H2 ⟨rfl,rfl⟩;simp only[cA,nA];refine⟨fun h=>(nomatch h),f0 (KH (hb.mono rL) tb aA) rfl ?_⟩;rintro _ H3 ⟨rfl,rfl⟩;simp only[cA,nA];have e0:wQ .i64 ((blen (ul a):Int)-(blen (ul b):Int))=(blen (ul a):Int)-(blen (ul b):Int):=Ln aA aA;refine⟨fun h=>(nomatch h),b4 ⟨_,rfl⟩ (b4 ⟨_,rfl⟩ ⟨fun vals H'=>∃(t:Int) (r:Nat) (vr:Value) (Hr:PH) (lq:List Nat),vals=[vr,.int .i64 t]/\ -10000000<=t/\t<=10000000/\Pl H Hr/\Pl Hr H'/\Eo Hr H' vq lq/\lq.length=a.length/\Mu Hr vr r/\ul a=ul lq*ul b+r/\((t<0/\r<ul b)\/(0<=t/\r<ul b*2^(t.toNat+1)/\2^(t.toNat+1) ∣ ul lq/\t.toNat+blen (ul b)<=blen (ul a))),fun vals _=>(intOf (vals.getD 1 undef)+1).toNat,⟨(blen (ul a):Int)-(blen (ul b):Int),ul a,va,H,_,?_,aA,aA,Pl.refl _,rL,h1,aD,⟨a,ha,ta,rfl⟩,?_,?_⟩,?_⟩)⟩
  ·simp only[rxs,e0]
  ·rw[Rx,bV,bJ]
  ·have hlA:=Zh (ul a);by_cases qB:blen (ul a)<blen (ul b)
   ·left;refine⟨aA,?_⟩;have:2^blen (ul a)<=2^(blen (ul b)-1):=bQ aA aA;omega
   ·right;refine⟨aA,?_,by rw[Rx];exact Nat.dvd_zero _,aA⟩;rw[show((blen (ul a):Int)-(blen (ul b):Int)).toNat+1=blen (ul a)-blen (ul b)+1 from aA];have h3:=bC (2^(blen (ul a)-blen (ul b)+1)) p2;rw[<-fW,show blen (ul b)-1+(blen (ul a)-blen (ul b)+1)=blen (ul a)from aA]at h3;omega
  rintro vals H'-⟨t,r,vr,Hr,lq,rfl,ht1,ht2,pY,a1d,hq,hlq,zJ,hqr,zK⟩;simp only[cA,nA];refine b4 ⟨_,rfl⟩ (g6 (b:=decide (t≥0)) rfl (fun ht=> ?_) (fun ht=> ?_))
  ·have ht:=oDt ht;obtain⟨k,rfl⟩:∃k:Nat,t=(k:Int):=⟨t.toNat,aA⟩;rw[bU]at zK;obtain⟨_,hr,wT,hk⟩:=zK.resolve_left aA;have e1:wQ .i64 ((k:Int)-1)=(k:Int)-1:=Ln aA aA;have hQ:=KB k aA;have hR:=KC k;have vN:2^(k+1)=2*2^k:=by rw[Nat.pow_succ,eF]
   have hrA:r<=ul a:=aA;have a0k:∀(q' r':Nat),r'<ul b*2^k->2^k ∣ q'->(((k:Int)-1<0/\r'<ul b)\/(0<=(k:Int)-1/\r'<ul b*2^(((k:Int)-1).toNat+1)/\2^(((k:Int)-1).toNat+1) ∣ q'/\((k:Int)-1).toNat+blen (ul b)<=blen (ul a))):=fun q' r' g2 g3=>by
    by_cases xW:k=0
    ·left;subst xW;rw[kQ,fY]at g2;exact⟨aA,g2⟩
    ·right;rw[show((k:Int)-1).toNat+1=k from aA];exact⟨aA,g2,g3,aA⟩
   refine f0 ((U5 k (hb.mono pY) aA aA).frame a1d) rfl ?_;rintro vt H2 ⟨Hr',⟨s1,s2⟩,s3,s4⟩;have yS:=hq.frame s4;obtain⟨lt,dt,tt,vt'⟩:=s2;obtain⟨lr,dr,tr,vr'⟩:=id zJ;refine⟨fun h=>(nomatch h),f0 (KG ((dr.mono s1).mono s3) (dt.mono s3) tr tt) rfl ?_⟩;rintro c H3 ⟨rfl,c,rfl,rX,rR⟩;rw[vr',vt']at rX rR;refine⟨fun h=>(nomatch h),b4 ⟨_,rfl⟩ (g6 (b:=decide (c≥0)) rfl (fun hc=> ?_) (fun hc=> ?_))⟩
   ·have hc:=oDt hc;have vW:ul b*2^k<=r:=aA;have llr:lr.length<=a.length:=Um.len_le tr ha.2 aA;refine f0 ((xt (dr.mono s1) dt aA (Um.len_le tt dr.2 aA) aA).frame s3) rfl ?_;rintro vk H4 ⟨Hr2,⟨t1,lk,dk,vk'⟩,t3,t4⟩;have uY:=yS.frame t4;refine⟨fun h=>(nomatch h),f0 ((Ik false dk).frame t3) rfl ?_⟩;rintro u H5 ⟨Hr3,⟨e3,w,rfl,hw⟩,w3,w4⟩;have e3:=e3.symm;subst e3;have yG:=uY.frame w4;have ew:(sn false (ul lk)).natAbs=r-ul b*2^k:=by rw[vk',vr',vt'];rfl
    rw[ew]at hw;simp only[cA,nA];have hkl:k/64<lq.length:=by rw[hlq];omega
    have dq:=yG.2.at (k/64);have a4k:=Zn yG.2 (k/64);have wB:=U3 wT;rw[a4k]at wB;have a1e:2^(k%64)<18446744073709551616:=xw (cI _ aA);have wR:=xj (lq.getD (k/64) 0) (2^(k%64)) dq a1e;rw[wB]at wR;have qU:=S4 (k%64) (cI _ aA);have zC:lq.getD (k/64) 0+2^(k%64)<18446744073709551616:=by
     rw[<-wB,Lj];exact iY dq a1e
    refine⟨fun h=>(nomatch h),b4 ⟨_,rfl,rfl⟩ (Do (k:= .i64) (j:=k/64) rfl rfl rfl rfl aF yG.es hkl (by simp only[rxs,hQ]) aF fun p=> ?_)⟩;refine b4 ?_ (b4 ⟨_,rfl⟩ (Lr (k:= .i64) (j:=k/64) (d:=lq.getD (k/64) 0+2^(k%64)) rfl rfl rfl rfl aF aF w3 yG hkl zC (by simp only[rxs,hQ]) (fun p=> ?_) rfl fun p2 u2 H6 hl6 h6 _=>⟨⟨(k:Int)-1,r-ul b*2^k,w,Hr2,_,?_,aA,aA,pY.trans (s1.trans t1),hl6,h6,by rw[cX];exact hlq,hw,?_,?_⟩,?_⟩))
    ·show(0:Int)<=(k:Int).tmod 64;rw[hR];omega
    ·simp only[rxs,uvL,hR,qU,wR]
    ·simp only[rxs,e1];rfl
    ·have k1:=Jp (l:=lq) (lq.getD (k/64) 0+2^(k%64)) hkl;rw[fE,<-xu k]at k1;have k2:ul (lq.set (k/64) (lq.getD (k/64) 0+2^(k%64)))=ul lq+2^k:=aA;rw[k2,dC,eF (2^k)];omega
    ·have k1:=Jp (l:=lq) (lq.getD (k/64) 0+2^(k%64)) hkl;rw[fE,<-xu k]at k1;have k2:ul (lq.set (k/64) (lq.getD (k/64) 0+2^(k%64)))=ul lq+2^k:=aA;rw[k2];refine a0k _ _ ?_ ((Nat.dvd_add_right (pG ⟨2,by rw[vN,eF]⟩ wT)).2 (Nat.dvd_refl _));rw[vN,<-eY,eF (ul b) 2,eY]at hr;omega
    ·simp only[rxs,e1];omega
   ·have hc:=oDf hc;refine⟨⟨(k:Int)-1,r,vr,Hr',lq,?_,aA,aA,pY.trans s1,s3,yS,hlq,zJ.mono s1,hqr,a0k _ _ aA (pG ⟨2,by rw[vN,eF]⟩ wT)⟩,?_⟩
    ·simp only[rxs,e1]
    ·simp only[rxs,e1];omega
  ·have ht:=oDf ht;obtain⟨_,hr⟩:=zK.resolve_right aA;refine d4 rfl ⟨pY.trans a1d,vq,vr,lq,rfl,hq.es,?_,?_⟩
   ·rw[hqr,iP,mP _ _ xZ,fV hr,bJ]
   ·rw[hqr,iP,lM,dV hr];exact zJ.mono a1d
end
open Go.RowKit Go.RX Go.WD
def KJ:∀{a b:List Nat},a.map uvL=b.map uvL->a=b
 |[],[],_=>rfl
 |[],_::_,h=>by simp at h
 |_::_,[],h=>by simp at h
 |x::a,y::b,h=>by
  simp only[bI,List.cons.injEq,uvL,kP,true_and]at h;rw[KJ h.2];have:=h.1;congr 1;omega
def Mu.uniq {H:PH} {v:Value} {m n:Nat} (h:Mu H v m) (k:Mu H v n):m=n:=by
 obtain⟨l,⟨⟨_,a,c,e,_,_,h1⟩,_⟩,_,rfl⟩:=h;obtain⟨l',⟨⟨_,a',c',e',_,_,h2⟩,_⟩,_,rfl⟩:=k;rw[e,Value.slice.injEq]at e';obtain⟨rfl,hl,rfl⟩:=e';congr 1;rcases h1 with h1|⟨b,o,cs,T,fz,h3,h4,h5⟩
 ·rw[aT h1,aT (show l'.length=0 by omega)]
 ·rcases h2 with h2|⟨b',o',cs',T',fz',h3',h4',h5'⟩
  ·rw[aT h2,aT (show l.length=0 by omega)]
  ·rw[h3]at h3';simp only[cN,Addr.mk.injEq,and_true]at h3';obtain⟨rfl,rfl⟩:=h3';rw[h4]at h4';simp only[cN,Obj.cells.injEq]at h4';obtain⟨rfl,rfl,rfl⟩:=h4';rw[hl]at h5;exact KJ (h5.symm.trans h5')
open Classical in
noncomputable def Zo (H:PH) (v:Value):Nat:=if h:∃n,Mu H v n then h.choose else 0
def KL {H:PH} {v:Value} {n:Nat} (h:Mu H v n):Zo H v=n:=by
 have:∃n,Mu H v n:=⟨n,h⟩;unfold Zo;rw[dif_pos this];exact this.choose_spec.uniq h
def Oo {l:List Nat} {n:Nat} (t:Um l) (hv:ul l=n) (h:n<BP 10000):l.length<=5000:=t _ (by rw[hv,<-IU];exact h)
section
variable {H:PH} {v x y:Value} {z p q:Int}
def xx {w:Value} {n:Nat} (h:Mu H w n):Lw H (.agg #[.bool false,w]) (n:Int):=
 ⟨w,by rw[decide_eq_false aA],by rw[eU];exact h⟩
def xy (b:Bool) {w:Value} {n:Nat} (h:Mu H w n):Value.agg ((Value.bool b).cells++w.cells)= .agg #[.bool b,w]:=by
 rw[h.one.1];rfl
def xz (h:Lw H v z):Con prog 156 [v] H fun u H'=>H'=H/\Lw H u (-z):=by
 have uZ:=h.rq;obtain⟨w,rfl,l,hd,ht,hv⟩:=h;refine s7 mixed Q9 aB rfl (b4 uZ (b4 ⟨_,rfl⟩ (f0 (Ik (!decide (z<0)) hd) rfl ?_)));rintro u H' ⟨rfl,hu⟩;rw[hv,T0]at hu;have hr:=hu.rq;obtain⟨w',rfl,rU⟩:=hu;exact⟨fun h=>(nomatch h),b4 hr (d4 rfl ⟨rfl,w',rfl,rU⟩)⟩
def Zp (hx:Lw H x p) (hy:Lw H y q) (hp:Lm p) (hq:Lm q):Con prog 110 [x,y] H fun u H'=>Pl H H'/\Lw H' u (p+q):=by
 have r1:=hx.rq;have r2:=hy.rq;obtain⟨wx,rfl,a,da,ta,va⟩:=hx;obtain⟨wy,rfl,b,db,tb,vb⟩:=hy;have la:=Oo ta va hp;have lb:=Oo tb vb hq;refine s7 mixed R0 aB rfl (b4 r1 (b4 r2 (b4 ⟨_,rfl⟩ (b4 ⟨_,rfl⟩ (g6 (b:=(decide (p<0)==decide (q<0))) ?_ (fun h=> ?_) (fun h=> ?_))))))
 ·show Value.bool (false !=(decide (p<0)==decide (q<0)))=_;rw[Bool.false_bne]
 ·refine f0 (T9 da db aA aA) rfl ?_;rintro u H1 ⟨rL,l,hd,hv⟩;refine⟨fun _=>rL,f0 (Ik (decide (p<0)) hd) rfl ?_⟩;rintro u2 H2 ⟨rfl,hu⟩;rw[hv,va,vb,T5 h]at hu;have hr:=hu.rq;obtain⟨w',rfl,rU⟩:=hu;exact⟨fun _=>Pl.refl _,b4 hr (d4 rfl ⟨rL,w',rfl,rU⟩)⟩
 ·refine f0 (KG da db ta tb) rfl ?_;rintro c H1 ⟨rfl,c,rfl,rX,rR⟩;rw[va,vb]at rX rR;refine⟨fun h=>(nomatch h),b4 ⟨_,rfl⟩ (g6 (b:=decide (c<0)) rfl (fun hc=> ?_) (fun hc=> ?_))⟩
  ·have hc:=oDt hc;refine f0 (xt db da aA (Um.len_le ta db.2 aA) aA) rfl ?_;rintro u H2 ⟨rL,l,hd,hv⟩;refine⟨fun _=>rL,f0 (Ik (decide (q<0)) hd) rfl ?_⟩;rintro u2 H3 ⟨rfl,hu⟩;rw[hv,va,vb,KE (by rw[<-h];exact Bool.beq_comm) aA,Int.add_comm]at hu;have hr:=hu.rq;obtain⟨w',rfl,rU⟩:=hu;exact⟨fun _=>Pl.refl _,b4 hr (d4 rfl ⟨rL,w',rfl,rU⟩)⟩
  ·have hc:=oDf hc;refine f0 (xt da db aA (Um.len_le tb da.2 aA) aA) rfl ?_;rintro u H2 ⟨rL,l,hd,hv⟩;refine⟨fun _=>rL,f0 (Ik (decide (p<0)) hd) rfl ?_⟩;rintro u2 H3 ⟨rfl,hu⟩;rw[hv,va,vb,KE h aA]at hu;have hr:=hu.rq;obtain⟨w',rfl,rU⟩:=hu;exact⟨fun _=>Pl.refl _,b4 hr (d4 rfl ⟨rL,w',rfl,rU⟩)⟩
def KN (hx:Lw H x p) (hy:Lw H y q) (hp:Lm p) (hq:Lm q):Con prog 139 [x,y] H fun u H'=>Pl H H'/\Lw H' u (p-q):=by
 have r1:=hx.rq;have r2:=hy.rq;have yS:Lm (-q):=by unfold Lm at hq⊢;rw[iC];exact hq
 have xB:=hx;have yC:=hy;obtain⟨wx,rfl,a,da,ta,va⟩:=hx;obtain⟨wy,rfl,b,db,tb,vb⟩:=hy;refine s7 mixed R1 aB rfl (b4 r1 (b4 r2 (f0 (xz yC) rfl ?_)));rintro u H1 ⟨rfl,hu⟩;refine⟨fun _=>Pl.refl _,f0 (Zp xB hu hp yS) rfl ?_⟩;rintro u2 H2 ⟨hl,sB⟩;rw[<-Int.sub_eq_add_neg]at sB;have hr:=sB.rq;obtain⟨w',rfl,rU⟩:=sB;exact⟨fun _=>hl,b4 hr (d4 rfl ⟨hl,w',rfl,rU⟩)⟩
def Jq (hx:Lw H x p) (hy:Lw H y q) (hp:Lm p) (hq:Lm q):Con prog 94 [x,y] H fun u H'=>Pl H H'/\Lw H' u (p*q):=by
 have r1:=hx.rq;have r2:=hy.rq;obtain⟨wx,rfl,a,da,ta,va⟩:=hx;obtain⟨wy,rfl,b,db,tb,vb⟩:=hy;have la:=Oo ta va hp;have lb:=Oo tb vb hq;refine s7 mixed R2 aB rfl (b4 r1 (b4 r2 (b4 ⟨_,rfl⟩ (b4 ⟨_,rfl⟩ (f0 (U1 da db aA aA) rfl ?_)))));rintro u H1 ⟨rL,l,hd,hv⟩;refine⟨fun _=>rL,f0 (Ik (true !=(decide (p<0)==decide (q<0))) hd) rfl ?_⟩;rintro u2 H2 ⟨rfl,hu⟩;rw[hv,va,vb,T6]at hu;have hr:=hu.rq;obtain⟨w',rfl,rU⟩:=hu;exact⟨fun _=>Pl.refl _,b4 hr (d4 rfl ⟨rL,w',rfl,rU⟩)⟩
def jd (hx:Lw H x z):Con prog 37 [x] H fun u H'=>H'=H/\u= .int .i64 (sgI z 0):=by
 have r1:=hx.rq;obtain⟨wx,rfl,a,da,ta,va⟩:=hx;have rS:=ta.pos;rw[va]at rS;refine s7 mixed R5 aB rfl (b4 r1 (b4 ⟨_,rfl⟩ (g6 (b:=decide (z<0)) rfl (fun h=> ?_) (fun h=> ?_))))
 ·have h:=oDt h;refine d4 rfl ⟨rfl,?_⟩;unfold sgI;rw[if_pos h];rfl
 ·have h:=oDf h;refine Ak rfl rfl da rfl (b4 ⟨_,rfl⟩ (g6 (b:=((a.length:Int)==0)) rfl (fun h2=> ?_) (fun h2=> ?_)))
  ·have h2:=beq_iff_eq.1 h2;refine d4 rfl ⟨rfl,?_⟩;unfold sgI;rw[if_neg h,if_pos aA];rfl
  ·have h2:=beq_eq_false_iff_ne.1 h2;refine d4 rfl ⟨rfl,?_⟩;unfold sgI;rw[if_neg h,if_neg aA];rfl
def U7 (p q:Int):sgI (p-q) 0=sgI p q:=by
 unfold sgI;by_cases h1:p<q
 ·rw[if_pos aA,if_pos h1]
 ·rw[if_neg aA,if_neg h1];by_cases h2:p=q
  ·rw[if_pos aA,if_pos h2]
  ·rw[if_neg aA,if_neg h2]
def KO (hx:Lw H x p) (hy:Lw H y q) (hp:Lm p) (hq:Lm q):Con prog 92 [x,y] H fun u H'=>Pl H H'/\u= .int .i64 (sgI p q):=by
 have r1:=hx.rq;have r2:=hy.rq;have xB:=hx;have yC:=hy;obtain⟨wx,rfl,_⟩:=hx;obtain⟨wy,rfl,_⟩:=hy;refine s7 mixed R6 aB rfl (b4 r1 (b4 r2 (f0 (KN xB yC hp hq) rfl ?_)));rintro u H1 ⟨hl,hu⟩;refine⟨fun h=>(nomatch h),f0 (jd hu) rfl ?_⟩;rintro u2 H2 ⟨rfl,rfl⟩;exact⟨fun h=>(nomatch h),d4 rfl ⟨hl,by rw[U7];rfl⟩⟩
def yd (hx:Lw H x p) (hy:Lw H y q) (hp:Lm p) (hq:Lm q) (zG:q≠0):Con prog 155 [x,y] H fun u H'=>Pl H H'/\∃a b,u= .tuple #[a,b]/\Lw H' a (p/q)/\Lw H' b (p%q):=by
 have r1:=hx.rq;have r2:=hy.rq;obtain⟨wx,rfl,a,da,ta,va⟩:=hx;obtain⟨wy,rfl,b,db,tb,vb⟩:=hy;have la:=Oo ta va hp;have lb:=Oo tb vb hq;unfold Lm at hp hq;have xZ:0<ul b:=by rw[vb];omega
 have hR:p.natAbs%q.natAbs<q.natAbs:=cI _ aA;have hQ:p.natAbs/q.natAbs<=p.natAbs:=Nat.div_le_self _ _;obtain⟨s1,s2⟩:=S6 p q (p.natAbs/q.natAbs) (p.natAbs%q.natAbs) zG hR (by rw[eF];exact(jA _ _).symm);generalize hQd:p.natAbs/q.natAbs=Q at*;generalize hRd:p.natAbs%q.natAbs=R at*;refine s7 mixed R3 aB rfl (b4 r1 (b4 r2 (f0 (KI da db ta tb xZ aA aA) rfl ?_)));rintro u H1 ⟨rL,uq,ur,lq,rfl,dq,vq,sX⟩;rw[va,vb,hQd]at vq;rw[va,vb,hRd]at sX;obtain⟨lr,dr,tr,vr⟩:=sX;refine⟨fun h=>(nomatch h),b4 ⟨_,rfl,eM _⟩ (b4 ⟨_,rfl,bW _⟩ (b4 ⟨_,rfl⟩ (b4 ⟨_,rfl⟩ (f0 (Ik (true !=(decide (p<0)==decide (q<0))) dq) rfl ?_))))⟩;rintro u3 H2 ⟨rfl,vO⟩;rw[vq]at vO;refine⟨fun _=>Pl.refl _,f0 (Ik (decide (p<0)) dr) rfl ?_⟩;rintro u4 H3 ⟨rfl,wC⟩;rw[vr]at wC;have hr3:=vO.rq;have hr4:=wC.rq;have a4l:=vO;have a4m:=wC;obtain⟨w3,rfl,n3⟩:=vO;obtain⟨w4,rfl,n4⟩:=wC;refine⟨fun _=>Pl.refl _,b4 hr3 (b4 hr4 (b4 ⟨_,rfl⟩ (g6 rfl (fun h=> ?_) (fun h=> ?_))))⟩
 ·have h:=oDt h;have wU:p<0:=by
   rcases Int.lt_or_le p 0 with h1|h1
   ·exact h1
   ·exfalso;unfold sn at h;rw[decide_eq_false (show ¬p<0 by omega)]at h;simp only[aY,if_false]at h;omega
  have hR0:R≠0:=by
   intro h0;rw[h0]at h;unfold sn at h;split at h<;>omega
  have eR:sn (decide (p<0)) R= -(R:Int):=by unfold sn;rw[oDd wU];rfl
  simp only[wU,hR0,decide_true,decide_false,Bool.not_false,Bool.and_true,if_true]at s1 s2;have nb:Mu H3 wy q.natAbs:=⟨b,db.mono rL,tb,vb⟩;have a2p:=Zp a4m (xx nb) (by unfold Lm;rw[eR,iC,eU];omega) (Lm.nat hq);refine b4 nb.one.2 (f0 a2p ?_ ?_)
  ·simp only[bI,bR];congr 2;show Value.agg ((j3 prog 4).cells++wy.cells)=_;rw[xq];exact xy false nb
  rintro u5 H4 ⟨hl4,uP⟩;have e5:sn (decide (p<0)) R+(q.natAbs:Int)=p%q:=by rw[s2,eR];omega
  rw[e5]at uP;have hr5:=uP.rq;obtain⟨w5,rfl,n5⟩:=uP;refine⟨fun h=>(nomatch h),b4 hr5 (JW (d:=1) rfl rfl aA rfl fun v1 H5 hl5 h5=> ?_)⟩;have n1:Mu H5 v1 1:=⟨[1],h5.es,Um.of (n:=0) rfl aC,rfl⟩;have uJ:Lw H5 (.agg #[.bool (!decide (q<0)),v1]) (if q<0 then 1 else -1):=by
   by_cases h2:q<0
   ·rw[if_pos h2];exact⟨v1,by simp[h2],n1⟩
   ·rw[if_neg h2];exact⟨v1,by simp[h2],n1⟩
  have eQ:(sn (true !=(decide (p<0)==decide (q<0))) Q).natAbs=Q:=by unfold sn;split<;>omega
  have a4n:Lm (if q<0 then(1:Int)else -1):=by
   split
   ·exact xr
   ·have:=xr;unfold Lm at this⊢;exact this
  refine b4 n1.one.2 (f0 (Zp (a4l.mono (hl4.trans hl5)) uJ (by unfold Lm;rw[eQ];omega) a4n) ?_ ?_)
  ·simp only[bI,bR];congr 2;show Value.agg ((Value.bool (!decide (q<0))).cells++v1.cells)=_;exact xy _ n1
  rintro u7 H6 ⟨hl6,hu7⟩;have e7:sn (true !=(decide (p<0)==decide (q<0))) Q+(if q<0 then 1 else -1)=p/q:=by
   rw[s1];unfold sn;by_cases h2:q<0
   ·simp[h2,wU]
   ·simp[h2,wU];omega
  rw[e7]at hu7;have hr7:=hu7.rq;obtain⟨w7,rfl,n7⟩:=hu7;exact⟨fun h=>(nomatch h),b4 hr7 (d4 rfl ⟨rL.trans (hl4.trans (hl5.trans hl6)),_,_,rfl,⟨w7,rfl,n7⟩,w5,rfl,n5.mono (hl5.trans hl6)⟩)⟩
 ·have h:=oDf h;have hc:(decide (p<0)&& !decide (R=0))=false:=by
   by_cases h1:p<0
   ·by_cases h2:R=0
    ·simp[h2]
    ·exfalso;apply h;unfold sn;rw[oDd h1];simp;omega
   ·simp[h1]
  rw[hc]at s1 s2;simp only[aY,if_false]at s1 s2;have e3:sn (true !=(decide (p<0)==decide (q<0))) Q=p/q:=by
   rw[s1];unfold sn;by_cases h1:p<0<;>by_cases h2:q<0<;>simp[h1,h2]
  have e4:sn (decide (p<0)) R=p%q:=by
   rw[s2];unfold sn;by_cases h1:p<0
   ·simp[h1]at hc⊢;omega
   ·simp[h1]
  rw[e3]at n3;rw[e4]at n4;refine d4 rfl ⟨rL,_,_,rfl,⟨w3,?_,n3⟩,w4,?_,n4⟩
  ·rw[<-e3];rfl
  ·rw[<-e4];rfl
def KP (hx:Lw H x p) (hy:Lw H y q) (hp:Lm p) (hq:Lm q):Con prog 91 [x,y] H fun u H'=>Pl H H'/\Lw H' u (fO p.natAbs q.natAbs:Nat):=by
 have r1:=hx.rq;have r2:=hy.rq;obtain⟨wx,rfl,nx⟩:=hx;obtain⟨wy,rfl,ny⟩:=hy;unfold Lm at hp hq;refine s7 mixed R4 aB rfl (b4 r1 (b4 r2 ⟨fun vals H'=>∃(m n:Nat) (vm vn:Value),vals=[vm,vn]/\Pl H H'/\Mu H' vm m/\Mu H' vn n/\m<BP 10000/\n<BP 10000/\fO m n=fO p.natAbs q.natAbs,fun vals H'=>Zo H' (vals.getD 1 undef),⟨p.natAbs,q.natAbs,wx,wy,rfl,Pl.refl H,nx,ny,hp,hq,rfl⟩,?_⟩));rintro vals H'-⟨m,n,vm,vn,rfl,pY,hm,hn,lm,ln,hg⟩;simp only[cA,nA];obtain⟨a,da,ta,va⟩:=id hm;obtain⟨b,db,tb,vb⟩:=id hn;have rS:=tb.pos;refine Ak rfl rfl db rfl (b4 ⟨_,rfl⟩ (g6 (b:=decide ((b.length:Int)>0)) rfl (fun h=> ?_) (fun h=> ?_)))
 ·have h:=oDt h;refine f0 (KI da db ta tb aA (cK (Oo ta va lm) aA) (cK (Oo tb vb ln) aA)) rfl ?_;rintro u H2 ⟨tO,uq,ur,lq,rfl,_,_,hr⟩;rw[va,vb]at hr;have qB:m%n<n:=cI _ aA;refine⟨fun h=>(nomatch h),b4 ⟨_,rfl,eM _⟩ (b4 ⟨_,rfl,bW _⟩ ⟨⟨n,m%n,vn,ur,rfl,pY.trans tO,hn.mono tO,hr,ln,aA,?_⟩,?_⟩)⟩
  ·rw[<-hg,nF n,<-Nat.gcd_rec,nF]
  ·show Zo H2 ur<Zo H' vn;rw[KL hr,KL hn];exact qB
 ·have h:=oDf h;have xF:n=0:=aA;subst xF;rw[Nat.gcd_zero_right]at hg;rw[hg]at hm;refine b4 hm.one.2 (d4 rfl ⟨pY,?_⟩);show Lw H' (Value.agg ((j3 prog 4).cells++vm.cells)) _;rw[xq,xy false hm];exact xx hm
end
def U8 {l:List Nat}:∀c∈l.map uvL,c.oneCell'=true:=fun c hc=>by obtain⟨d,_,rfl⟩:=aZ.1 hc;rfl
def KQ:j3 prog 239=nb false 0:=aB
def dgs (n:Nat):List Nat:=[dig n 0,dig n 1,dig n 2,dig n 3,dig n 4,dig n 5,dig n 6,dig n 7]
def U9 (n:Nat):Eg (dgs n):=fun d hd=>by
 simp only[dgs,bG,cF,or_false]at hd;rcases hd with h|h|h|h|h|h|h|h<;>rw[h]<;>exact Oj _ _
def W0 (n:Nat):ul (dgs n)=n%M:=by
 have e:dig n 0+18446744073709551616*(dig n 1+18446744073709551616*(dig n 2+18446744073709551616*(dig n 3+18446744073709551616*(dig n 4+18446744073709551616*(dig n 5+18446744073709551616*(dig n 6+18446744073709551616*(dig n 7+18446744073709551616*0)))))))=n%PW 8:=by
  have h:=fun k=>Gz n k;rw[h 7,h 6,h 5,h 4,h 3,h 2,h 1,h 0,Jk,Nat.mod_one];rw[show PW 7=PW 0*18446744073709551616*18446744073709551616*18446744073709551616*18446744073709551616*18446744073709551616*18446744073709551616*18446744073709551616 from by rw[u6,u6,u6,u6,u6,u6,u6],show PW 6=PW 0*18446744073709551616*18446744073709551616*18446744073709551616*18446744073709551616*18446744073709551616*18446744073709551616 from by rw[u6,u6,u6,u6,u6,u6],show PW 5=PW 0*18446744073709551616*18446744073709551616*18446744073709551616*18446744073709551616*18446744073709551616 from by rw[u6,u6,u6,u6,u6],show PW 4=PW 0*18446744073709551616*18446744073709551616*18446744073709551616*18446744073709551616 from by rw[u6,u6,u6,u6],show PW 3=PW 0*18446744073709551616*18446744073709551616*18446744073709551616 from by rw[u6,u6,u6],show PW 2=PW 0*18446744073709551616*18446744073709551616 from by rw[u6,u6],show PW 1=PW 0*18446744073709551616 from by rw[u6],Jk];omega
 rw[Dn,<-e];rfl
end Go.Z
namespace Go.WD
open RX
def W5 {n k:Nat} (h:n<PW k) (hk:k<=8):n<M:=by rw[Dn];exact aU h (Rw hk)
end Go.WD
namespace Go.Z
open Proofs.Tryz RowKit RX WD
def KR:prog.underlying 239=some (.struct (fieldsOf prog 239)):=aB
def KT:1<(fieldsOf prog 239).size:=by decide+kernel
def KU:prog.underlying 237=some (.array 8 49):=aB
def je:prog.cellsOf 239=9:=aB
def KV (b:Bool) (n:Nat):spl (nb false 0).cells 0 (nb b n).cells.toList=(nb b n).cells:=by
 simp[nb,words,wf,spl,Gh]
def W6 (b:Bool):j0 (Value.bool b).cells:=by intro c hc;simp[uw]at hc;subst hc;rfl
def W7 (b:Bool) (n:Nat):((nb b n).cells.toList.drop 1).take 8=(dgs n).map uvL:=rfl
section
variable {H:PH}
def W8 {o:Oper} {x:Operand} {b:Nat} (ho:o.op= .fieldAddr 239 x 0) (hx:e8 [x] [.pointer (some ⟨b,0,none⟩)] x= .pointer (some ⟨b,0,none⟩)):Yld prog o [.pointer (some ⟨b,0,none⟩)] (.pointer (some ⟨b,0,none⟩)):=
 we (T:=4) (off:=0) ho hx KR (iE Nat.zero_lt_one KT) aB aB aB (by decide+kernel)
def KW {o:Oper} {x:Operand} {b:Nat} (ho:o.op= .fieldAddr 239 x 1) (hx:e8 [x] [.pointer (some ⟨b,0,none⟩)] x= .pointer (some ⟨b,0,none⟩)):Yld prog o [.pointer (some ⟨b,0,none⟩)] (.pointer (some ⟨b,1,none⟩)):=
 we (T:=237) (off:=1) ho hx KR KT aB aB aB (by decide+kernel)
def KX {o:Oper} {x y:Operand} {b:Nat} {v:Value} {cs:Array Value} (ho:o.op= .store 239 x y) (hx:∀v,e8 [x,y] [.pointer (some ⟨b,0,none⟩),v] x= .pointer (some ⟨b,0,none⟩)) (hy:∀v,e8 [x,y] [.pointer (some ⟨b,0,none⟩),v] y=v) (hH:H b=some (.cells cs 239 (0,0))) (qR:cs.size=9) (hv:v.cells.size=9) (h1:j0 v.cells):
  Opn prog o [.pointer (some ⟨b,0,none⟩),v] H fun _ H'=>H'=H.put b (.cells (spl cs 0 v.cells.toList) 239 (0,0)):=
 (Yy ho (hx v) (hy v) hH aB (by rw[je];omega) (by rw[je];exact hv) h1).mono fun _ _ h=>h.2
def W9 {o:Oper} {x:Operand} {b:Nat} {cs:Array Value} (ho:o.op= .load 239 x) (hx:e8 [x] [.pointer (some ⟨b,0,none⟩)] x= .pointer (some ⟨b,0,none⟩)) (hH:H b=some (.cells cs 239 (0,0))) (qR:cs.size=9):Rds prog o [.pointer (some ⟨b,0,none⟩)] H (.agg cs):=by
 have:=Vb (P:=prog) (T:=239) ho hx hH aB (by rw[je];omega) (fun h=>by cases h.symm.trans (show r8 prog 239=true by kernel_rfl));rw[show r8 prog 239=true by kernel_rfl,if_pos rfl,je,bJ,<-qR,Array.extract_size]at this;exact this
def Vp (a:Nat):Con prog 93 [wd a] H fun u H'=>Pl H H'/\Lw H' u (toI a):=by
 have hM:=Vk a;refine s7 mixed P6 aB rfl (b4 ⟨words_size a,words_one a⟩ (Db (xg a) rfl ?_));generalize toI a=z at hM;intro b hb;show den _ _ _ _ _ _ (H.put b (.cells (j3 prog 239).cells 239 (0,0)));rw[KQ];simp only[cA,nA];refine j1 (vs:=[.pointer (some ⟨b,0,none⟩),nm z]) (KX rfl aF aF (PH.put_self _ _ _) (Ew _ _) (Ew _ _) (He _ _)) rfl ?_;rintro u H1 rfl;rw[PH.put_put,show spl (nb false 0).cells 0 (nm z).cells.toList=(nm z).cells from KV _ _];have l1:Pl H (H.put b (.cells (nm z).cells 239 (0,0))):=PH.le_put hb _;have hB:(H.put b (.cells (nm z).cells 239 (0,0))) b=some (.cells (nm z).cells 239 (0,0)):=PH.put_self _ _ _;generalize H.put b (.cells (nm z).cells 239 (0,0))=H2 at l1 hB;refine nmI ?_;refine j8 ((W8 rfl rfl).rds _) rfl (j8 (vo (w:= .bool (decide (z<0))) rfl rfl hB aB aB aB (by show 0+1<=9;omega) rfl) rfl ?_);refine j8 ((KW rfl rfl).rds _) rfl (j8 ((ig (vs:=[.pointer (some ⟨b,1,none⟩)]) rfl rfl KU Lo).rds _) rfl ?_);obtain⟨ti,i1,i2,i3,i4⟩:=iz;refine j1 (vs:=[]) (IH rfl Lq i1) rfl ?_;rintro v8 H3 ⟨g,hg,rfl,rfl⟩;have l3:Pl H2 (H2.put g (.cells #[] 49 (0,0))):=PH.le_put hg _;have hs:Sl (H2.put g (.cells #[] 49 (0,0))) 1 (.slice (some ⟨b,1,none⟩) 8 8) 8 ((dgs z.natAbs).map uvL):=⟨rfl,_,8,rfl,aA,by simp[maxLen],.inr ⟨b,1,_,_,_,rfl,l3 _ _ hB,W7 _ _⟩⟩;refine⟨fun _=>l3,j1 (vs:=[.slice (some ⟨g,0,none⟩) 0 0,.slice (some ⟨b,1,none⟩) 8 8]) (G0 rfl rfl rfl Lq i1 i2 i3 rfl hs aA (by simp[maxLen]) (by rw[i4];omega)) rfl ?_⟩;rintro v9 H4 ⟨l4,ho⟩;have hE:Es H4 v9 (dgs z.natAbs):=⟨ho.sl,U9 _⟩;refine⟨fun _=>l4,f0 (Ik (decide (z<0)) hE) rfl ?_⟩;rintro u H5 ⟨rfl,hu⟩;rw[W0,dV hM,T4]at hu;have hr:=hu.rq;obtain⟨w',rfl,rU⟩:=hu;exact⟨fun _=>Pl.refl _,b4 hr (d4 rfl ⟨l1.trans (l3.trans l4),w',rfl,rU⟩)⟩
def Oq (n:Int) (h0: -9223372036854775808<=n) (h1:n<9223372036854775808):Con prog 90 [.int .i64 n] H fun u H'=>Pl H H'/\Lw H' u n:=by
 refine s7 mixed P7 aB rfl (Db (iy n h0 h1) rfl (f0 (Vp (rs n)) rfl ?_));rintro u H1 ⟨l1,hu⟩;rw[Ii (fits_small h0 h1)]at hu;have hr:=hu.rq;obtain⟨w',rfl,rU⟩:=hu;exact⟨fun h=>(nomatch h),b4 hr (d4 rfl ⟨l1,w',rfl,rU⟩)⟩
def KY (n:Nat):(words n).toList=(List.range 8).map fun j=>uvL (dig n j):=rfl
def X9 {l:List Nat} (h:Eg l) (hl:l.length<=8):l.map uvL++(words 0).toList.drop l.length=(words (ul l)).toList:=by
 rw[KY,KY];apply bP;intro j;rcases dU j l.length with hj|hj
 ·rw[aM (by simpa using hj),aX,aX,cP aA,IV hj];simp only[cR];rw[Zn h]
 ·rw[aN (by simpa using hj),aR,dP,show l.length+(j-l.length)=j from aA,aX,aX];rcases dU j 8 with h8|h8
  ·rw[cP h8];simp only[cR];rw[Zn h,Vh hj,Za]
  ·rw[aO (by simpa using h8)];rfl
def Zq {v:Value} {z:Int} (hx:Lw H v z):Con prog 111 [v] H fun u H'=>Pl H H'/\u=Ce z:=by
 have uZ:=hx.rq;obtain⟨w,rfl,l,dl,tl,vl'⟩:=hx;have hHM:=Jm;refine s7 mixed P8 aB rfl (b4 uZ (Ak rfl rfl dl rfl (b4 ⟨_,rfl⟩ (g6 (b:=decide ((l.length:Int)>8)) rfl (fun h=> ?_) (fun h=> ?_)))))
 ·have h:=oDt h;have vW:M<=z.natAbs:=by
   rcases dU z.natAbs M with h1|h1
   ·have:=tl 8 (by rw[vl',<-Dn];exact h1);omega
   ·exact h1
  refine d4 ?_ ⟨Pl.refl _,rfl⟩;rw[xo (by have:=Vg;omega)];simp only[rxs,Ab,Ij]
 ·have h:=oDf h;have hlM:z.natAbs<M:=by rw[<-vl'];exact W5 (Hf dl.2) aA
  refine b4 ⟨rfl,W6 _⟩ ?_;intro b hb;show den _ _ _ _ _ _ (H.put b (.cells (j3 prog 239).cells 239 (0,0)));rw[KQ];simp only[cA,nA];obtain⟨V,hV⟩:∃V,V=nb (decide (z<0)) 0:=⟨_,rfl⟩;have hV9:V.cells.size=9:=by rw[hV];exact Ew _ _
  have hV1:j0 V.cells:=by rw[hV];exact He _ _
  have a4o:[Value.pointer (some ⟨b,0,none⟩),Value.agg ((Value.bool (decide (z<0))).cells++(j3 prog 237).cells)]=[Value.pointer (some ⟨b,0,none⟩),V]:=by
   rw[Vi,hV];rfl
  have vR:=KX (v:=V) P9 aF aF (PH.put_self H b (.cells (nb false 0).cells 239 (0,0))) (Ew _ _) hV9 hV1;refine @j1 _ _ _ _ _ _ _ _ _ _ _ _ _ _ vR ?_ ?_
  ·simp only[bI,bR];exact a4o
  rintro u H1 rfl;rw[PH.put_put,hV,KV];have l1:Pl H (H.put b (.cells (nb (decide (z<0)) 0).cells 239 (0,0))):=PH.le_put hb _;refine nmI ?_;refine j8 ((KW rfl rfl).rds _) rfl (j8 ((ig (vs:=[.pointer (some ⟨b,1,none⟩)]) rfl rfl KU Lo).rds _) rfl ?_);obtain⟨ti,i1,i2,i3,i4⟩:=iz;refine j1 (vs:=[.slice (some ⟨b,1,none⟩) 8 8,w]) (G4 rfl rfl rfl Lq i1 i3 (PH.put_self _ _ _) (dl.mono l1).1 U8 aA (by show 1+l.length<=9;omega)) rfl ?_;rintro u H2 rfl;rw[PH.put_put];have ecs:((nb (decide (z<0)) 0).cells.toList.take 1++l.map uvL++(nb (decide (z<0)) 0).cells.toList.drop (1+l.length)).toArray=(nm z).cells:=by
   have e1:∀n,(nb (decide (z<0)) n).cells.toList= .bool (decide (z<0))::(words n).toList:=fun n=>by simp[nb,Gh]
   have e2:=X9 dl.2 aA;rw[vl']at e2;rw[<-bS,e1 0];show[Value.bool (decide (z<0))]++l.map uvL++(Value.bool (decide (z<0))::(words 0).toList).drop (1+l.length)=(nb (decide (z<0)) z.natAbs).cells.toList;rw[e1,iP 1,List.drop_succ_cons,bL,e2];rfl
  rw[ecs];have l2:Pl H (H.put b (.cells (nm z).cells 239 (0,0))):=PH.le_put hb _;refine nmI ?_;refine j8 (W9 rfl rfl (PH.put_self _ _ _) (Ew _ _)) rfl (Db (JG z hlM) rfl ?_);obtain⟨n,e,ht⟩:=il z;rw[ht];exact b4 ⟨_,rfl,eM _⟩ (b4 ⟨_,rfl,bW _⟩ (b4 ⟨words_size n,words_one n⟩ (d4 rfl ⟨l2,rfl⟩)))
end
def Y0:d9 prog [] [] [] [⟨5,[0,1,0,7,15,31],[5,2,5,2,6,6],[4,0,6,0,4,6],[0,2,1,3],[4,5]⟩] 109=some (.rq (.cells 2 V0) (.rq (.cells 2 V1) (.call false 91 [(.ag V0),(.ag V1)]
(.rq (.cells 2 V2) (.call false 155 [(.ag V0),(.ag V2)]
(.rq (.tup 0 V3) (.rq (.tup 1 V3) (.rq (.cells 2 (.pj V3 0)) (.rq (.cells 2 (.pj V3 1)) (.call false 155 [(.ag V1),(.ag V2)]
(.rq (.tup 0 V4) (.rq (.tup 1 V4) (.rq (.cells 2 (.pj V4 0)) (.rq (.cells 2 (.pj V4 1)) (.rq (.bool (.cell (.pj V4 0) 0 0 noI)) (.br (.cell (.pj V4 0) 0 0 noI) (.call true 156 [(.ag (.pj V3 0))]
(.call true 156 [(.ag (.pj V4 0))]
(.rq (.cells 2 V5) (.rq (.cells 2 V6) (.ret [(.cat (.ag V5) 2 (.ag V6))]))))) (.ret [(.cat (.ag (.pj V3 0)) 2 (.ag (.pj V4 0)))]))))))))))))))))):=aB
def Y5:d9 prog [] [] [] [⟨1,[0,1,3,0,8,31,63,127],rDx 8 60211211,rPx 7 0++[1],rDx 7 6524310,[7]⟩] 38=some (.rq (.cells 16 V0) (.call true 93 [(.sub V0 0 8 0 noI)]
(.call true 93 [(.sub V0 8 8 0 noI)]
(.rq (.cells 2 V1) (.rq (.cells 2 V2) (.ret [(.put (.cat V1 2 (.z 106)) 2 2 V2 0 noI)])))))):=aB
def Y6:d9 prog [] [] [] [⟨1,[0,0,3,7],[5,2,0,6],[0,0,0,1],[0,1,2],[3]⟩] 95=some (.rq (.cells 2 V0) (.call true 90 [(.ki 1)]
(.rq (.cells 2 V1) (.ret [(.cat (.ag V0) 2 V1)])))):=aB
def Y7:d9 prog [] [] [⟨3,3,[25],[]⟩] [] 58=some (.rq (.cells 4 V0) (.call false 111 [(.sub V0 0 2 0 noI)]
(.rq (.tup 0 V1) (.rq (.tup 1 V1) (.rq (.cells 8 (.pj V1 0)) (.call false 111 [(.sub V0 2 2 0 noI)]
(.rq (.tup 0 V2) (.rq (.tup 1 V2) (.rq (.cells 8 (.pj V2 0)) (.join 1
(.rq (.int .i64 (.pj V1 1)) (.br (.io .neq (.pj V1 1) (.ki 0)) (.next 0 [(.k (.bool true))]) (.rq (.int .i64 (.pj V2 1)) (.next 0 [(.io .neq (.pj V2 1) (.ki 0))])))) (.rq (.bool V3) (.br V3
(.ret [(.cat (.z 51) 8 (.z 51)),(.ki 6)]) (.ret [(.cat (.ag (.pj V1 0)) 8 (.ag (.pj V2 0))),(.ki 0)]))))))))))))):=aB
def Y8:d9 prog [] [] [] [⟨1,[0,1,0,4,15,0,32,0,128,511,1023,0,2048,0,8192,32767,65535,131071],rDx 18 622111122111121111,rPx 17 0++[2],rDx 8 87653210++rAx 11 4++[4,9,10,15,16],[17]⟩] 57=some (.rq (.cells 4 V0) (.rq (.cells 4 V1) (.call true 94 [(.sub V0 0 2 0 noI),(.sub V1 2 2 0 noI)]
(.call true 94 [(.sub V1 0 2 0 noI),(.sub V0 2 2 0 noI)]
(.call true 110 [V2,V3]
(.call true 94 [(.sub V0 2 2 0 noI),(.sub V1 2 2 0 noI)]
(.call true 109 [V4,V5]
(.rq (.cells 4 V6) (.ret [(.ag V6)]))))))))):=aB
def Y9:d9 prog [] [] [] [⟨1,[0,1,0,4,15,0,32,0,128,511,1023,2047],rDx 12 622111121111,rPx 11 0++[2],rDx 9 487653210++[9,10],[11]⟩] 63=some (.rq (.cells 4 V0) (.rq (.cells 4 V1) (.call true 94 [(.sub V0 0 2 0 noI),(.sub V1 2 2 0 noI)]
(.call true 94 [(.sub V0 2 2 0 noI),(.sub V1 0 2 0 noI)]
(.call true 109 [V2,V3]
(.rq (.cells 4 V4) (.ret [(.ag V4)]))))))):=aB
def Z0:d9 prog [] [] [] [⟨1,[0,1,0,4,15,0,32,0,128,511,1023,2047],rDx 12 22111121111,rPx 12 0,rDx 9 487653210++rAx 9 3,[]⟩] 39=some (.rq (.cells 4 V0) (.rq (.cells 4 V1) (.call true 94 [(.sub V0 0 2 0 noI),(.sub V1 2 2 0 noI)]
(.call true 94 [(.sub V1 0 2 0 noI),(.sub V0 2 2 0 noI)]
(.call true 92 [V2,V3]
(.ret [V4])))))):=aB
def Z1:d9 prog [] [] [⟨3,3,[21],[]⟩] [⟨3,[0,1,3,7,15,31,63,31,159,511,31,2047,4095,8191],rDx 14 252111100211,rDx 9 0++rDx 5 10,rAx 0 9++[10,9,11,12,13],[]⟩] 35=some (.rq (.cells 16 V0) (.call false 90 [(.ki 1)]
(.rq (.cells 2 V1) (.call false 38 [(.ag V0)]
(.rq (.cells 4 V2) (.join 1
(.call true 37 [(.sub V2 2 2 0 noI)]
(.ri V3
(.br (.io .leq V3 (.ki 0)) (.next 0 [(.k (.bool true))]) (.call true 91 [(.sub V2 0 2 0 noI),(.sub V2 2 2 0 noI)]
(.call true 92 [V4,(.ag V1)]
(.ri V5
(.next 0 [(.io .neq V5 (.ki 0))]))))))) (.rq (.bool V3) (.br V3
(.ret [(.ki 20)]) (.ret [(.ki 0)]))))))))):=aB
def Z2:d9 prog [] [] [⟨0,2,[],[]⟩] [] 202=some (.pm f202 1 1 [V1]
(.loop [(.k (.bool false)),(.ki 0)]
(.ri V4
(.ri V2
(.br (.io .lss V4 V2)
(.pm f202 3 0 [V1,V4]
(.pm f202 3 1 [V5]
(.rq (.cells 16 V6)
(.ef false f202 4 2 [V0,(.ag V6)]
(.rq (.bool V7) (.br (.nt V7) (.ret [(.k (.bool false))]) (.next 0 [V3,(.io .add V4 (.ki 1))]))))))) (.ret [(.k (.bool true))])))))):=aB
def Z3:d9 prog [] [] [] [] 142=some (.call false 202 [(.k (.func (.func 201) #[] #[])),V0]
(.ret [V1])):=aB
def Z4:d9 prog [] [] [] [] 201=some (.rq (.cells 16 V0) (.call false 35 [(.ag V0)]
(.ri V1
(.ret [(.io .eql V1 (.ki 0))])))):=aB
def Z5:d9 prog [] [] [] [⟨4,[0,0,2,0,14,31,63,127],rDx 8 225250,rDx 8 1000,rDx 8 76542310,[]⟩] 97=some (.rq (.cells 16 V0) (.rq (.cells 16 V1)
(.ef false f97 1 2 [(.ag V0),(.ag V1)]
(.call false 142 [V3]
(.rq (.bool V4) (.br (.nt V4) (.ret [(.ki 0),(.ki 20)]) (.call true 38 [(.ag V0)]
(.call true 38 [(.ag V1)]
(.ef true f97 4 5 [V2,V5,V6]
(.ret [V7,(.ki 0)])))))))))):=aB
def Z6:d9 prog [] [] [] [⟨4,[0,0,2,0,14,31,63,127],rDx 8 6225250,rDx 8 2001000,[0,1,3,2,4,5],[6,7]⟩] 330=some (.rq (.cells 16 V0) (.rq (.cells 16 V1)
(.ef false f330 1 2 [(.ag V0),(.ag V1)]
(.call false 142 [V3]
(.rq (.bool V4) (.br (.nt V4) (.ret [(.z 108),(.ki 20)]) (.call true 38 [(.ag V0)]
(.call true 38 [(.ag V1)]
(.ef true f330 4 5 [V2,V5,V6]
(.rq (.cells 4 V7) (.ret [(.ag V7),(.ki 0)]))))))))))):=aB
def KZ:d9 prog [] [] [] [] 329=some (.rq (.cells 4 V0)
(.ri V1
(.br (.io .neq V1 (.ki 0)) (.ret [(.cat (.z 51) 8 (.z 51)),V1]) (.call false 58 [(.ag V0)]
(.rq (.tup 0 V2) (.rq (.tup 1 V2) (.rq (.cells 16 (.pj V2 0)) (.ret [(.ag (.pj V2 0)),(.pj V2 1)])))))))):=aB
def Z7:d9 prog [] [] [] [⟨3,[0,1,0,7,15,31,63,63,255,511],rDx 10 600222525,rDx 8 100++[2,0],rDx 8 76543120,[8,9]⟩] 87=some (.rq (.cells 8 V0) (.rq (.cells 8 V1)
(.pm f87 1 2 [(.ag V1),(.z 51)]
(.rq (.bool V2) (.br V2
(.ret [(.cat (.z 51) 8 (.z 51)),(.ki 7)]) (.call true 93 [(.ag V0)]
(.call true 93 [(.ag V1)]
(.call true 109 [V3,V4]
(.call true 58 [V5]
(.rq (.tup 0 V6) (.rq (.tup 1 V6) (.rq (.cells 16 (.pj V6 0)) (.ret [(.ag (.pj V6 0)),(.pj V6 1)]))))))))))))):=aB
def Z8:d9 prog [] [] [] [] 59=some (.call false 33 [V0]
(.call false 33 [V1]
(.call false 87 [V2,V3]
(.rq (.tup 0 V4) (.rq (.tup 1 V4) (.rq (.cells 16 (.pj V4 0)) (.ret [(.ag (.pj V4 0)),(.pj V4 1)]))))))):=aB
def Z9:d9 prog [] [] [⟨3,1,[15],[]⟩] [] 300=some (.rq (.cells 16 V0) (.rq (.cells 16 V1) (.join 1
(.ef false f300 1 2 [(.ag V0),(.ag V1)]
(.call false 142 [V2]
(.rq (.bool V3) (.br V3
(.pm f300 1 8 [(.sub V1 0 8 0 noI),(.z 51)]
(.next 0 [V4])) (.next 0 [(.k (.bool false))]))))) (.rq (.bool V2) (.br V2
(.ret [(.cat (.z 51) 8 (.z 51)),(.ki 7)]) (.call false 330 [(.ag V0),(.ag V1),(.k (.func (.func 63) #[] #[]))]
(.rq (.tup 0 V3) (.rq (.tup 1 V3) (.call false 329 [(.pj V3 0),(.pj V3 1)]
(.rq (.tup 0 V4) (.rq (.tup 1 V4) (.rq (.cells 16 (.pj V4 0)) (.ret [(.ag (.pj V4 0)),(.pj V4 1)]))))))))))))):=aB
def d3Z:d9 prog [] [] [] [] 46=some (.rq (.cells 16 V0) (.rq (.cells 16 V1) (.call false 97 [(.ag V0),(.ag V1),(.k (.func (.func 39) #[] #[]))]
(.rq (.tup 0 V2) (.rq (.tup 1 V2) (.ret [(.pj V2 0),(.pj V2 1)])))))):=aB
def c8e:d9 prog [] [] [] [] 41=some (.call false 90 [V0]
(.call false 95 [V1]
(.rq (.cells 4 V2) (.ret [(.ag V2)])))):=aB
end Go.Z

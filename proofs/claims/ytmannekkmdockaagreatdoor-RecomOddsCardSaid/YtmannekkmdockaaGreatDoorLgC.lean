/- wide/long.go: words. -/
import Derived.Test.YtmannekkmdockaaGreatDoorRfI
open Go.Value.int renaming injEq->kS
open Int renaming natAbs_neg->gC,natCast_add->lQ
open List renaming drop_of_length_le->fK,getElem?_range->fS
open Nat renaming add_comm->fL,add_mul_div_right->mO,div_add_mod->iP,div_eq_of_lt->fZ,dvd_trans->pA,gcd->fY,gcd_comm->lL,lt_succ_self->eL,lt_trans->mG,mul_add->eS,mul_left_comm->nU,mul_zero->gP,or_lt_two_pow->kX,pow_add->fE,pow_pos->jL,pow_zero->kC,zero_lt_succ->eM
set_option maxRecDepth 100000
open Go.IntKind renaming wrap->wQ
namespace Go.Z
open Proofs.Tryz RowKit RX WD
theorem Es.len {H:PH} {v:Value} {l:List Nat} (h:Es H v l):l.length<9223372036854775808:=by
 have:=h.1.len_le;simp only[maxLen]at this;omega
theorem Es.take {H:PH} {v:Value} {l:List Nat} {o:Oper} {x hi:Operand} {i:Nat} {k:IntKind} {vs:List Value} (h:Es H v l) (ho:o.op= .slice 76 x none (some hi) none) (hx:g8 [x,hi] vs x=v) (hl:g8 [x,hi] vs hi= .int k (i:Nat)) (h1:i<=l.length):∃u,Yld prog o vs u/\Es H u (l.take i):=by
 obtain⟨u,h2,h3⟩:=uy (P:=prog) ho hx hl Ly Lx h.1 h1;refine⟨u,h2,?_,h.2.take i⟩;rw[bM,bY h1,List.map_take]
 rwa[dN]at h3
theorem Pe (l:List Nat) (k:Nat):ul (l.take (k+1))=ul (l.take k)+PW k*l.getD k 0:=by
 rcases dV k l.length with h|h
 ·exact Uo h
 ·rw[aF aA,aF h,Hv h,gP,eF]
theorem Mu.one {H:PH} {v:Value} {n:Nat} (h:Mu H v n):v.cells= #[v]/\v.cells.size=1/\o0 v.cells:=by
 obtain⟨l,h1,_⟩:=h;exact⟨h1.cells,h1.one⟩
def Lw (H:PH) (v:Value) (z:Int):Prop:=∃w,v= .agg #[.bool (decide (z<0)),w]/\Mu H w z.natAbs
theorem Lw.mono {H H':PH} {v:Value} {z:Int} (h:Lw H v z) (hl:Pl H H'):Lw H' v z:=by
 obtain⟨w,h1,h2⟩:=h;exact⟨w,h1,h2.mono hl⟩
theorem Lw.rq {H:PH} {v:Value} {z:Int} (h:Lw H v z):v.cells.size=2/\o0 v.cells:=by
 obtain⟨w,rfl,hw⟩:=h;refine⟨rfl,fun c hc=> ?_⟩;have h1:=hw.one.2.2;rw[hw.one.1]at h1;rw[show(Value.agg #[.bool (decide (z<0)),w]).cells= #[.bool (decide (z<0)),w]from rfl]at hc;simp only[aP,bP,or_false]at hc;rcases hc with h2|h2
 ·rw[h2];rfl
 ·rw[h2];exact h1 w aD
section
variable {H:PH} {v:Value} {l:List Nat}
theorem KA {n:Nat} (hn:n<=l.length) (hz:∀k,n<=k->l.getD k 0=0):ul (l.take n)=ul l:=by
 obtain⟨d,hd⟩:=Nat.exists_eq_add_of_le hn;induction d generalizing n with
 |zero=>rw[aF aA]
 |succ d ih=>
  have:=ih (n:=n+1) aA (fun k hk=>hz k aA) aA;rw[Uo aA,hz n (aS n),gP,eF]at this;exact this
theorem Jh (b:Bool) (h:Es H v l):Con prog 132 [.bool b,v] H fun u H'=>H'=H/\Lw H u (sn b (ul l)):=by
 have qD:=h.len;refine s9 mixed O3 aB rfl (Bd rfl rfl h rfl ⟨fun vals H'=>∃n:Nat,vals=[iv n]/\H'=H/\n<=l.length/\∀k,n<=k->l.getD k 0=0,fun vals _=>(intOf (vals.getD 0 undef)).toNat,⟨l.length,rfl,rfl,aS _,fun k hk=>Hv hk⟩,?_⟩);rintro vals H'-⟨n,rfl,rfl,hn,hz⟩;simp only[cA,nA];refine⟨fun vs H1=>H1=H'/\vs=[.bool (decide (0<n/\l.getD (n-1) 0=0))],d4 ⟨_,rfl⟩ (g7 (b:=decide ((n:Int)>0)) rfl (fun hb=> ?_) (fun hb=> ?_)),?_⟩
 ·have hb:=oDt hb;have e1:wQ .i64 ((n:Int)-1)=((n-1:Nat):Int):=iq aA aA;refine En (k:= .i64) (j:=n-1) rfl rfl rfl rfl aE h aA (by simp only[rxs,iv,e1]) aE fun p=>d4 ⟨_,rfl⟩ ⟨rfl,?_⟩;simp only[rxs,uv];congr 2;rw[bC];simp only[beq_iff_eq,decide_eq_true_eq];omega
 ·have hb:=oDf hb;refine⟨rfl,?_⟩;simp only[rxs];congr 2;rw[eq_comm,decide_eq_false_iff_not];omega
 rintro vs H1-⟨rfl,rfl⟩;simp only[cA,nA];refine d4 ⟨_,rfl⟩ (g7 rfl (fun hb=> ?_) (fun hb=> ?_))
 ·have hb:=oDt hb;have e1:wQ .i64 ((n:Int)-1)=((n-1:Nat):Int):=iq aA aA;refine d4 ⟨_,rfl⟩ ⟨⟨n-1,?_,rfl,aA,fun k hk=> ?_⟩,?_⟩
  ·simp only[rxs,iv,e1]
  ·rcases Nat.eq_or_lt_of_le hk with e|e
   ·rw[<-e];exact hb.2
   ·exact hz k aA
  ·simp only[rxs,iv,e1];omega
 ·have hb:=oDf hb;have htm:Um (l.take n):=by
   rcases eC n with e|e
   ·subst e;exact Um.nil
   ·refine Um.of (n:=n-1) (by rw[bM];omega) ?_;rw[aK,List.getElem?_take,if_pos aA,<-aK];exact fun h0=>hb ⟨e,h0⟩
  have rO:=htm.pos;rw[KA hn hz,bM,bY hn]at rO;obtain⟨u,hu,hd⟩:=Es.take (vs:=[v,iv n]) (k:= .i64) (i:=n) h O4 rfl rfl hn;have hMu:Mu H1 u (ul l):=⟨l.take n,hd,htm,KA hn hz⟩;refine d4 ⟨_,rfl⟩ (g7 rfl (fun hb=> ?_) (fun hb=> ?_))
  ·subst hb;refine d4 ⟨_,rfl⟩ (j7 (hu.rds _) rfl (d4 hd.one (g6 rfl ⟨rfl,u,?_,?_⟩)))
   ·simp only[rxs,Am,hd.cells,iv,Xy];show Value.agg #[.bool (decide ((n:Int)>0)),u]=_;congr 4;rw[decide_eq_decide];show _↔ -(ul l:Int)<0;omega
   ·show Mu _ u (-(ul l:Int)).natAbs;rw[gC,dJ];exact hMu
  ·subst hb;refine j7 (hu.rds _) rfl (d4 hd.one (g6 rfl ⟨rfl,u,?_,?_⟩))
   ·simp only[rxs,Am,hd.cells,Xy];show Value.agg #[.bool false,u]=_;congr 4
   ·exact hMu
theorem R4 {a b:List Nat} (ha:Eg a) (hb:Eg b) (ta:Um a) (tb:Um b) (h:a.length≠b.length):((a.length:Int)-b.length<0↔ul a<ul b)/\((a.length:Int)-b.length=0↔ul a=ul b):=by
 rcases Nat.lt_or_gt_of_ne h with h1|h1
 ·have:=Um.lt_of_len ha tb h1;omega
 ·have:=Um.lt_of_len hb ta h1;omega
theorem KB {a b:List Nat} {va vb:Value} (ha:Es H va a) (hb:Es H vb b) (ta:Um a) (tb:Um b):Con prog 192 [va,vb] H fun u H'=>H'=H/\∃c:Int,u= .int .i64 c/\(c<0↔ul a<ul b)/\(c=0↔ul a=ul b):=by
 have xN:=ha.len;have yW:=hb.len;refine s9 mixed O9 aB rfl (Bd rfl rfl ha rfl (Bd rfl rfl hb rfl (d4 ⟨_,rfl⟩ (d4 ⟨_,rfl⟩ (g7 (b:=((a.length:Int) !=(b.length:Int))) rfl (fun h=> ?_) (fun h=> ?_))))))
 ·have h:a.length≠b.length:=by have:=bne_iff_ne.1 h;omega
  have e1:wQ .i64 ((a.length:Int)-(b.length:Int))=(a.length:Int)-(b.length:Int):=Do aA aA;refine Bd rfl rfl ha rfl (Bd rfl rfl hb rfl (d4 ⟨_,rfl⟩ (d4 ⟨_,rfl⟩ (g6 rfl ⟨rfl,_,?_,R4 ha.2 hb.2 ta tb h⟩))));simp only[rxs,iv,Am,e1]
 have h:a.length=b.length:=by have:=bne_eq_false_iff_eq.1 h;omega
 have e1:wQ .i64 ((a.length:Int)-1)=(a.length:Int)-1:=Do aA aA;refine Bd rfl rfl ha rfl (d4 ⟨_,rfl⟩ ⟨fun vals H'=>∃i:Nat,vals=[.int .i64 0,.int .i64 ((i:Int)-1)]/\H'=H/\i<=a.length/\a.drop i=b.drop i,fun vals _=>(intOf (vals.getD 1 undef)+1).toNat,⟨a.length,?_,rfl,aS _,?_⟩,?_⟩)
 ·simp only[rxs,iv,e1]
 ·rw[fK (aS _),fK aA]
 rintro vals H'-⟨i,rfl,rfl,hi,hd⟩;simp only[cA,nA];refine d4 ⟨_,rfl⟩ (g7 (b:=decide ((i:Int)-1≥0)) rfl (fun tA=> ?_) (fun tA=> ?_))
 ·have tA:=oDt tA;obtain⟨j,rfl⟩:∃j,i=j+1:=⟨i-1,aA⟩;have ej:((j+1:Nat):Int)-1=(j:Int):=aA;rw[ej];have e2:wQ .i64 ((j:Int)-1)=(j:Int)-1:=Do aA aA;refine En (k:= .i64) (j:=j) rfl rfl rfl rfl aE ha aA rfl aE fun p1=>En (k:= .i64) (j:=j) rfl rfl rfl rfl aE hb aA rfl aE fun p2=> ?_;refine d4 ⟨_,rfl⟩ (d4 ⟨_,rfl⟩ (g7 (b:=decide (((a.getD j 0:Nat):Int)<((b.getD j 0:Nat):Int))) rfl (fun h1=> ?_) (fun h1=> ?_)))
  ·have h1:=oDt h1;have:=IX ha.2 hb.2 (show j<a.length by omega) aA hd aA;exact g6 rfl ⟨rfl,-1,rfl,aA,aA⟩
  ·have h1:=oDf h1;refine En (k:= .i64) (j:=j) rfl rfl rfl rfl aE ha aA rfl aE fun p3=>En (k:= .i64) (j:=j) rfl rfl rfl rfl aE hb aA rfl aE fun p4=> ?_;refine d4 ⟨_,rfl⟩ (d4 ⟨_,rfl⟩ (g7 (b:=decide (((a.getD j 0:Nat):Int)>((b.getD j 0:Nat):Int))) rfl (fun h2=> ?_) (fun h2=> ?_)))
   ·have h2:=oDt h2;have:=IX hb.2 ha.2 (show j<b.length by omega) aA hd.symm aA;exact g6 rfl ⟨rfl,1,rfl,aA,aA⟩
   ·have h2:=oDf h2;refine⟨⟨j,?_,rfl,aA,?_⟩,?_⟩
    ·simp only[rxs,e2]
    ·rw[Ou (show j<a.length by omega),Ou (show j<b.length by omega),hd,show a.getD j 0=b.getD j 0 from aA]
    ·simp only[rxs,e2];omega
 ·have tA:=oDf tA;have hi0:i=0:=aA;subst hi0;rw[cH,cH]at hd;exact g6 rfl ⟨rfl,0,rfl,by rw[hd];omega,by rw[hd];omega⟩
end
section
variable {H:PH} {a b:List Nat} {va vb:Value}
theorem R5 (ha:Es H va a) (hb:Es H vb b) (hA:a.length<=100000) (hB:b.length<=100000):Con prog 191 [va,vb] H fun u H'=>Pl H H'/\∃l,Es H' u l/\ul l=ul a+ul b:=by
 refine s9 mixed P0 aB rfl (Bd rfl rfl ha rfl (Bd rfl rfl hb rfl (d4 ⟨_,rfl⟩ (d4 ⟨_,rfl⟩ ⟨fun vals H'=>H'=H/\∃(x y:List Nat) (vx vy:Value),vals=[vx,vy]/\Es H vx x/\Es H vy y/\x.length<=100000/\y.length<=x.length/\ul x+ul y=ul a+ul b,g7 (b:=decide ((a.length:Int)<(b.length:Int))) rfl (fun h=> ?_) (fun h=> ?_),?_⟩))))
 ·have h:=oDt h;exact⟨rfl,b,a,vb,va,rfl,hb,ha,hB,aA,fL _ _⟩
 ·have h:=oDf h;exact⟨rfl,a,b,va,vb,rfl,ha,hb,hA,aA,rfl⟩
 rintro vals H0-⟨rfl,x,y,vx,vy,rfl,hx,hy,hX,hyx,a5a⟩;simp only[cA,nA];have e0:wQ .i64 ((x.length:Int)+1)=((x.length+1:Nat):Int):=He aA;refine Bd rfl rfl hx rfl (d4 ⟨_,rfl⟩ (Yr (kl:= .i64) (kc:= .i64) (m:=x.length+1) rfl rfl rfl aA (by simp only[rxs,iv,e0]) fun out H1 qR h1=> ?_));refine Bd rfl rfl (hx.mono qR) rfl ⟨fun vals H'=>∃(c i:Nat) (l:List Nat),vals=[.int .u64 (c:Nat),iv i]/\c<=1/\i<=x.length/\Pl H0 H'/\Eo H0 H' out l/\l.length=x.length+1/\(∀k,i<=k->l.getD k 0=0)/\ul l+PW i*c=ul (x.take i)+ul (y.take i),fun vals _=>(x.length-intOf (vals.getD 1 undef)).toNat,⟨0,0,_,rfl,aA,aA,qR,h1,aD,fun k _=>Ov _ k,?_⟩,?_⟩
 ·rw[Ry];simp[ul]
 rintro vals H'-⟨c,i,l,rfl,hc,hi,pY,hO,uE,hz,hv⟩;simp only[cA,nA];have sH:=hx.mono pY;have tP:=hy.mono pY;refine d4 ⟨_,rfl⟩ (d4 ⟨_,rfl⟩ (g7 (b:=decide ((i:Int)<x.length)) rfl (fun h=> ?_) (fun h=> ?_)))
 ·have h:i<x.length:=by have:=oDt h;omega
  have dx:=hx.2.at i;have dy:=hy.2.at i;have e1:wQ .i64 ((i:Int)+1)=((i+1:Nat):Int):=He aA;refine En (k:= .i64) (j:=i) rfl rfl rfl rfl aE sH h rfl aE fun p=> ?_;refine Bd rfl rfl tP rfl (d4 ⟨_,rfl⟩ ⟨fun vals H2=>H2=H'/\vals=[uv (y.getD i 0)],g7 (b:=decide ((i:Int)<y.length)) rfl (fun h1=> ?_) (fun h1=> ?_),?_⟩)
  ·have h1:=oDt h1;exact En (k:= .i64) (j:=i) rfl rfl rfl rfl aE tP aA rfl aE fun p=>⟨rfl,rfl⟩
  ·have h1:=oDf h1;refine⟨rfl,?_⟩;rw[Hv (l:=y) aA];rfl
  rintro vals H2-⟨rfl,rfl⟩;simp only[cA,nA];refine ft (vw (x.getD i 0) (y.getD i 0) c dx dy hc) rfl (d4 ⟨_,rfl,eM _⟩ (d4 ⟨_,rfl,eL _⟩ ?_));obtain⟨s,hs⟩:∃s,s=(x.getD i 0+y.getD i 0+c)%18446744073709551616:=⟨_,rfl⟩;obtain⟨c',hc'⟩:∃c',c'=(x.getD i 0+y.getD i 0+c)/18446744073709551616:=⟨_,rfl⟩;have key:s+18446744073709551616*c'=x.getD i 0+y.getD i 0+c:=aA;rw[<-hs,<-hc'];refine Mc (k:= .i64) (j:=i) (d:=s) rfl rfl rfl rfl aE aE pY hO aA aA rfl aE rfl fun p u H3 tJ h3 _=>⟨⟨c',i+1,_,?_,aA,aA,tJ,h3,by rw[cJ];exact uE,?_,?_⟩,?_⟩
  ·simp only[rxs,iv,e1]
  ·intro k hk;rw[Il aA];exact hz k aA
  ·have k1:=Kp (l:=l) s (show i<l.length by omega);rw[hz i (aS _),gP,eF]at k1;have k2:=congrArg (PW i* ·) key;simp only[eS]at k2;rw[Pe,Pe,k1,y7,cY];omega
  ·simp only[rxs,iv,e1];omega
 ·have h:i=x.length:=by have:=oDf h;omega
  subst h;refine Bd rfl rfl sH rfl ?_;refine Mc (k:= .i64) (j:=x.length) (d:=c) rfl rfl rfl rfl aE aE pY hO aA aA rfl aE rfl fun p u H3 tJ h3 _=>g6 rfl ⟨tJ,_,h3.es,?_⟩;have k1:=Kp (l:=l) c (show x.length<l.length by omega);rw[hz _ (aS _),gP,eF]at k1;rw[k1,hv,aF (aS _),aF hyx,a5a]
theorem xj (ha:Es H va a) (hb:Es H vb b) (uD:ul b<=ul a) (hl:b.length<=a.length) (hA:a.length<=100000):Con prog 193 [va,vb] H fun u H'=>Pl H H'/\∃l,Es H' u l/\ul l=ul a-ul b:=by
 refine s9 mixed P1 aB rfl (Bd rfl rfl ha rfl (Yr (kl:= .i64) (kc:= .i64) (m:=a.length) rfl rfl rfl aA rfl fun out H1 qR h1=> ?_));refine Bd rfl rfl (ha.mono qR) rfl ⟨fun vals H'=>∃(c i:Nat) (l:List Nat),vals=[.int .u64 (c:Nat),iv i]/\c<=1/\i<=a.length/\Pl H H'/\Eo H H' out l/\l.length=a.length/\(∀k,i<=k->l.getD k 0=0)/\ul l+ul (b.take i)=ul (a.take i)+PW i*c,fun vals _=>(a.length-intOf (vals.getD 1 undef)).toNat,⟨0,0,_,rfl,aA,aA,qR,h1,aD,fun k _=>Ov _ k,?_⟩,?_⟩
 ·rw[Ry];simp[ul]
 rintro vals H'-⟨c,i,l,rfl,hc,hi,pY,hO,uE,hz,hv⟩;simp only[cA,nA];have tI:=ha.mono pY;have rJ:=hb.mono pY;refine d4 ⟨_,rfl⟩ (d4 ⟨_,rfl⟩ (g7 (b:=decide ((i:Int)<a.length)) rfl (fun h=> ?_) (fun h=> ?_)))
 ·have h:i<a.length:=by have:=oDt h;omega
  have dx:=ha.2.at i;have dy:=hb.2.at i;have e1:wQ .i64 ((i:Int)+1)=((i+1:Nat):Int):=He aA;refine En (k:= .i64) (j:=i) rfl rfl rfl rfl aE tI h rfl aE fun p=> ?_;refine Bd rfl rfl rJ rfl (d4 ⟨_,rfl⟩ ⟨fun vals H2=>H2=H'/\vals=[uv (b.getD i 0)],g7 (b:=decide ((i:Int)<b.length)) rfl (fun h1=> ?_) (fun h1=> ?_),?_⟩)
  ·have h1:=oDt h1;exact En (k:= .i64) (j:=i) rfl rfl rfl rfl aE rJ aA rfl aE fun p=>⟨rfl,rfl⟩
  ·have h1:=oDf h1;refine⟨rfl,?_⟩;rw[Hv (l:=b) aA];rfl
  rintro vals H2-⟨rfl,rfl⟩;simp only[cA,nA];refine ft (IF (a.getD i 0) (b.getD i 0) c hc) rfl (d4 ⟨_,rfl,eM _⟩ (d4 ⟨_,rfl,eL _⟩ ?_));obtain⟨s,hs⟩:∃s,s=(a.getD i 0+18446744073709551616-b.getD i 0-c)%18446744073709551616:=⟨_,rfl⟩;obtain⟨c',hc'⟩:∃c',c'=(if a.getD i 0<b.getD i 0+c then 1 else 0):=⟨_,rfl⟩;have sL:c'<=1:=by rw[hc'];split<;>omega
  have key:s+b.getD i 0+c=a.getD i 0+18446744073709551616*c':=by rw[hs,hc'];split<;>omega
  rw[<-hs,<-hc'];refine Mc (k:= .i64) (j:=i) (d:=s) rfl rfl rfl rfl aE aE pY hO aA aA rfl aE rfl fun p u H3 tJ h3 _=>⟨⟨c',i+1,_,?_,aA,aA,tJ,h3,by rw[cJ];exact uE,?_,?_⟩,?_⟩
  ·simp only[rxs,iv,e1]
  ·intro k hk;rw[Il aA];exact hz k aA
  ·have k1:=Kp (l:=l) s (show i<l.length by omega);rw[hz i (aS _),gP,eF]at k1;have k2:=congrArg (PW i* ·) key;simp only[eS]at k2;rw[Pe,Pe,k1,y7,cY];omega
  ·simp only[rxs,iv,e1];omega
 ·have h:i=a.length:=by have:=oDf h;omega
  subst h;rw[aF (aS _),aF hl]at hv;have pX:=Io hO.2;rw[uE]at pX;have sN:c=0:=by
   rcases eC c with e|e
   ·exact e
   ·have:c=1:=aA;rw[this]at hv;omega
  rw[sN]at hv;exact g6 rfl ⟨pY,l,hO.es,aA⟩
theorem R6 {x y:Nat} (hx:x<18446744073709551616) (hy:y<18446744073709551616):x*y<=18446744073709551615*18446744073709551615:=bU aA aA
set_option maxHeartbeats 1000000 in
theorem R7 (ha:Es H va a) (hb:Es H vb b) (hA:a.length<=100000) (hB:b.length<=100000):Con prog 202 [va,vb] H fun u H'=>Pl H H'/\∃l,Es H' u l/\ul l=ul a*ul b:=by
 have e0:wQ .i64 ((a.length:Int)+(b.length:Int))=((a.length+b.length:Nat):Int):=Jg aA;refine s9 mixed P2 aB rfl (Bd rfl rfl ha rfl (Bd rfl rfl hb rfl (d4 ⟨_,rfl⟩ (d4 ⟨_,rfl⟩ (Yr (kl:= .i64) (kc:= .i64) (m:=a.length+b.length) rfl rfl rfl aA (by simp only[rxs,iv,e0]) fun out H1 qR h1=> ?_)))));refine Bd rfl rfl (ha.mono qR) rfl ⟨fun vals H'=>∃(i:Nat) (l:List Nat),vals=[iv i]/\i<=a.length/\Pl H H'/\Eo H H' out l/\l.length=a.length+b.length/\(∀k,i+b.length<=k->l.getD k 0=0)/\ul l=ul (a.take i)*ul b,fun vals _=>(a.length-intOf (vals.getD 0 undef)).toNat,⟨0,_,rfl,aA,qR,h1,aD,fun k _=>Ov _ k,?_⟩,?_⟩
 ·rw[Ry];simp[ul]
 rintro vals H'-⟨i,l,rfl,hi,pY,hO,uE,hz,hv⟩;simp only[cA,nA];have tI:=ha.mono pY;refine d4 ⟨_,rfl⟩ (d4 ⟨_,rfl⟩ (g7 (b:=decide ((i:Int)<a.length)) rfl (fun h=> ?_) (fun h=> ?_)))
 ·have h:i<a.length:=by have:=oDt h;omega
  have da:=ha.2.at i;refine En (k:= .i64) (j:=i) rfl rfl rfl rfl aE tI h rfl aE fun p0=> ?_;refine Bd rfl rfl (hb.mono pY) rfl ⟨fun vals H'=>∃(c j:Nat) (l:List Nat),vals=[.int .u64 (c:Nat),iv j]/\j<=b.length/\c<18446744073709551616/\Pl H H'/\Eo H H' out l/\l.length=a.length+b.length/\(∀k,i+b.length<=k->l.getD k 0=0)/\ul l+PW (i+j)*c=ul (a.take i)*ul b+PW i*(a.getD i 0*ul (b.take j)),fun vals _=>(b.length-intOf (vals.getD 1 undef)).toNat,⟨0,0,l,rfl,aA,aA,pY,hO,uE,hz,?_⟩,?_⟩
  ·simp[ul,hv]
  rintro vals H2-⟨c,j,l2,rfl,hj,hc,wC,yF,a0f,uI,hv2⟩;simp only[cA,nA];have rE:=hb.mono wC;refine d4 ⟨_,rfl⟩ (d4 ⟨_,rfl⟩ (g7 (b:=decide ((j:Int)<b.length)) rfl (fun vG=> ?_) (fun vG=> ?_)))
  ·have vG:j<b.length:=by have:=oDt vG;omega
   have db:=hb.2.at j;have dl:=yF.2.at (i+j);have e1:wQ .i64 ((i:Int)+(j:Int))=((i+j:Nat):Int):=Jg aA;have e10:wQ .i64 ((j:Int)+1)=((j+1:Nat):Int):=He aA;have hm:=R6 da db;refine En (k:= .i64) (j:=j) rfl rfl rfl rfl aE rE vG rfl aE fun p1=> ?_;refine y8 (L8 (a.getD i 0) (b.getD j 0) da db) rfl (d4 ⟨_,rfl,eM _⟩ (d4 ⟨_,rfl,eL _⟩ ?_));generalize hP:a.getD i 0*b.getD j 0=P at hm;obtain⟨qB,hhi⟩:∃x,x=P/18446744073709551616:=⟨_,rfl⟩;obtain⟨lo,hlo⟩:∃x,x=P%18446744073709551616:=⟨_,rfl⟩;rw[<-hhi,<-hlo];refine En (k:= .i64) (j:=i+j) rfl rfl rfl rfl aE yF.es aA (by simp only[rxs,iv,e1]) aE fun p2=> ?_;generalize hd:l2.getD (i+j) 0=d at dl;refine ft (vw d lo 0 dl aA aA) rfl (d4 ⟨_,rfl,eM _⟩ (d4 ⟨_,rfl,eL _⟩ ?_));obtain⟨s1,yQ⟩:∃x,x=(d+lo+0)%18446744073709551616:=⟨_,rfl⟩;obtain⟨c1,sL⟩:∃x,x=(d+lo+0)/18446744073709551616:=⟨_,rfl⟩;rw[<-yQ,<-sL];refine ft (vw s1 c 0 aA hc aA) rfl (d4 ⟨_,rfl,eM _⟩ (d4 ⟨_,rfl,eL _⟩ ?_));obtain⟨s2,wX⟩:∃x,x=(s1+c+0)%18446744073709551616:=⟨_,rfl⟩;obtain⟨c2,rY⟩:∃x,x=(s1+c+0)/18446744073709551616:=⟨_,rfl⟩;rw[<-wX,<-rY];have key:s2+18446744073709551616*(qB+c1+c2)=c+d+P:=aA;have wL:qB+c1+c2<18446744073709551616:=aA;have e2:wQ .u64 ((qB:Int)+(c1:Int))=((qB+c1:Nat):Int):=by rw[<-lQ];exact wu aA
   have e3:wQ .u64 (((qB+c1:Nat):Int)+(c2:Int))=((qB+c1+c2:Nat):Int):=by rw[<-lQ];exact wu aA
   refine d4 ⟨_,rfl⟩ (d4 ⟨_,rfl⟩ (d4 ⟨_,rfl⟩ (Mc (k:= .i64) (j:=i+j) (d:=s2) rfl rfl rfl rfl aE aE wC yF aA aA (by simp only[rxs,iv,e1]) (fun p=>rfl) rfl fun p u H3 tJ h3 _=>⟨⟨qB+c1+c2,j+1,_,?_,aA,wL,tJ,h3,by rw[cJ];exact a0f,?_,?_⟩,?_⟩)))
   ·simp only[rxs,iv,e2,e3,e10]
   ·intro k hk;rw[Il aA];exact uI k hk
   ·have k1:=Kp (l:=l2) s2 (show i+j<l2.length by omega);rw[hd]at k1;have k2:=congrArg (PW (i+j)* ·) key;simp only[eS]at k2;have k3:PW i*(a.getD i 0*(PW j*b.getD j 0))=PW (i+j)*P:=by
     rw[Rn,nU (a.getD i 0),hP,cY]
    rw[Pe,eS (a.getD i 0),eS (PW i),k3,<-Nat.add_assoc i j 1,y7,cY];simp only[eS];omega
   ·simp only[rxs,iv,e10];omega
  ·have vG:j=b.length:=by have:=oDf vG;omega
   subst vG;have e1:wQ .i64 ((i:Int)+(b.length:Int))=((i+b.length:Nat):Int):=Jg aA;have e10:wQ .i64 ((i:Int)+1)=((i+1:Nat):Int):=He aA;refine Bd rfl rfl rE rfl (d4 ⟨_,rfl⟩ (Mc (k:= .i64) (j:=i+b.length) (d:=c) rfl rfl rfl rfl aE aE wC yF aA hc (by simp only[rxs,iv,e1]) (fun p=>rfl) rfl fun p u H3 tJ h3 _=>⟨⟨i+1,_,?_,aA,tJ,h3,by rw[cJ];exact a0f,?_,?_⟩,?_⟩))
   ·simp only[rxs,iv,e10]
   ·intro k hk;rw[Il aA];exact uI k aA
   ·have k1:=Kp (l:=l2) c (show i+b.length<l2.length by omega);rw[uI _ (aS _),gP,eF]at k1;rw[k1,hv2,aF (aS _),Pe,cK,cY]
   ·simp only[rxs,iv,e10];omega
 ·have h:i=a.length:=by have:=oDf h;omega
  rw[aF aA]at hv;exact g6 rfl ⟨pY,l,hO.es,hv⟩
end
end Go.Z
namespace Go.WD
open RX
theorem Yu {l:List Nat} (h:Eg l) (j:Nat):dig (ul l) j=l.getD j 0:=by
 rcases dV j l.length with hj|hj
 ·have e1:=wz l (show j<=l.length by omega);have e2:=ww hj;have h1:=Io (h.take j);rw[bM,bY aA]at h1;have h2:=h.at j;unfold dig;rw[e1,Nat.add_mul_div_left _ _ (Cf j),fZ h1,bK,e2,Nat.add_mul_mod_self_left,cP h2]
 ·rw[Hv hj];refine Ul (aU (Io h) (Lr hj))
theorem Um.top {l:List Nat} (h:Um l) (hD:Eg l) {n:Nat} (hn:l.length=n+1):l.getD n 0≠0:=fun h0=>by
 have h1:=Uo (l:=l) (k:=n) aA;rw[aF aA,h0,gP,eF]at h1;have h4:=Io (hD.take n);rw[bM,bY aA]at h4;have h3:l.length<=n:=h n aA;omega
theorem R8 {l:List Nat} (h:Um l) (hD:Eg l) {n:Nat} (hn:l.length=n+1):blen (ul l)=64*n+blen (l.getD n 0):=by
 have ht:=h.top hD hn;have pX:=Io hD;rw[hn]at pX;have:=L4 (A:=ul l) (i:=n) (by rw[Yu hD];exact ht) pX
 rwa[Yu hD]at this
theorem R9 {q k:Nat} (h:2^(k+1) ∣ q):dig q (k/64)|||2^(k%64)=dig q (k/64)+2^(k%64):=by
 refine L7 ?_;obtain⟨m,rfl⟩:=h;have e:2^(k+1)*m/PW (k/64)=2^(k%64+1)*m:=by
  rw[Yn,show k+1=64*(k/64)+(k%64+1)from aA,fE,cY,Nat.mul_div_cancel_left _ (jL aA)]
 unfold dig;rw[e,Lu];have hd:2^(k%64+1) ∣ 2^64:=Nat.pow_dvd_pow 2 aA;exact(Nat.dvd_mod_iff hd).2 ⟨m,rfl⟩
theorem xk (k:Nat):2^k=PW (k/64)*2^(k%64):=by
 rw[Yn,<-fE,show 64*(k/64)+k%64=k from aA]
theorem xm {r:Nat} (h:r<64):2^r<18446744073709551616:=by
 rw[Lu];exact dA aA h
end Go.WD
namespace Go.Z
open Proofs.Tryz RowKit RX WD
theorem Eo.frame {Hr H Hr' H':PH} {v:Value} {l:List Nat} (h:Eo Hr H v l) (hk:∀k ob,H k=some ob->Hr k=none->Hr' k=none/\H' k=some ob):Eo Hr' H' v l:=⟨h.1.frame hk,h.2⟩
theorem S0 (d r:Nat) (h:r<=64):wQ .u64 ((d:Int)*2^min r (IntKind.bits .u64))=((d*2^r%18446744073709551616:Nat):Int):=by
 rw[show min r (IntKind.bits .u64)=r from bY h,show(d:Int)*2^r=((d*2^r:Nat):Int)from by rw[eG,Int.natCast_pow];rfl,IntKind.wrap_u64];omega
section
variable {H:PH} {a b:List Nat} {va vb:Value}
theorem KC (ha:Es H va a) (ta:Um a) (hA:a.length<=1000000):Con prog 238 [va] H fun u H'=>H'=H/\u= .int .i64 (blen (ul a):Nat):=by
 refine s9 mixed P3 aB rfl (Bd rfl rfl ha rfl (d4 ⟨_,rfl⟩ (g7 (b:=((a.length:Int)==0)) rfl (fun h=> ?_) (fun h=> ?_))))
 ·have h:=beq_iff_eq.1 h;obtain rfl:a=[]:=aI aA;exact g6 rfl ⟨rfl,rfl⟩
 ·have h:=beq_eq_false_iff_ne.1 h;obtain⟨n,hn⟩:∃n,a.length=n+1:=⟨a.length-1,aA⟩;have e1:wQ .i64 ((a.length:Int)-1)=((n:Nat):Int):=by rw[Do aA aA];omega
  have dt:=ha.2.at n;have zJ:=blen_le (x:=a.getD n 0) (k:=64) dt;refine Bd rfl rfl ha rfl (d4 ⟨_,rfl⟩ (Bd rfl rfl ha rfl (d4 ⟨_,rfl⟩ ?_)));refine En (k:= .i64) (j:=n) rfl rfl rfl rfl aE ha aA (by simp only[rxs,iv,e1]) aE fun p=>y8 (IW _ dt) rfl (d4 ⟨_,rfl⟩ (g6 ?_ ⟨rfl,rfl⟩));simp only[cL,cB,rxs,iv,Am];rw[R8 ta ha.2 hn];congr 1;rw[IntKind.wrap_i64,IntKind.wrap_i64];omega
set_option maxHeartbeats 1000000 in
theorem S1 (k:Nat) (ha:Es H va a) (hA:a.length<=100000) (hk:k<=20000000):Con prog 239 [va,.int .i64 (k:Nat)] H fun u H'=>Pl H H'/\Mu H' u (ul a*2^k):=by
 obtain⟨q,hq⟩:∃q,q=k/64:=⟨_,rfl⟩;obtain⟨r,hr⟩:∃r,r=k%64:=⟨_,rfl⟩;have a2v:r<64:=aA;have hkq:k=64*q+r:=aA;have eq1:wQ .i64 ((k:Int).tdiv 64)=((q:Nat):Int):=by rw[hq];exact JB k aA
 have er1:(k:Int).tmod 64=((r:Nat):Int):=by rw[hr];exact JC k
 have e0:wQ .i64 ((a.length:Int)+(q:Int))=((a.length+q:Nat):Int):=Jg aA;have e00:wQ .i64 (((a.length+q:Nat):Int)+1)=((a.length+q+1:Nat):Int):=He aA;have zP:2^k=PW q*2^r:=by rw[hq,hr];exact xk k
 refine s9 mixed P4 aB rfl (Bd rfl rfl ha rfl (d4 ⟨_,rfl⟩ (d4 ⟨_,rfl⟩ (Yr (kl:= .i64) (kc:= .i64) (m:=a.length+q+1) rfl rfl rfl aA (by simp only[rxs,iv,eq1,e0,e00]) fun out H1 qR h1=> ?_))));refine Bd rfl rfl (ha.mono qR) rfl ⟨fun vals H'=>∃(i:Nat) (l:List Nat),vals=[iv i]/\i<=a.length/\Pl H H'/\Eo H H' out l/\l.length=a.length+q+1/\(∀k,i+q<k->l.getD k 0=0)/\l.getD (i+q) 0<2^r/\ul l=ul (a.take i)*2^k,fun vals _=>(a.length-intOf (vals.getD 0 undef)).toNat,⟨0,_,rfl,aA,qR,h1,aD,fun k _=>Ov _ k,?_,?_⟩,?_⟩
 ·rw[Ov];exact jL aA
 ·rw[Ry];simp[ul]
 rintro vals H'-⟨i,l,rfl,hi,pY,hO,uE,hz,a0h,hv⟩;simp only[cA,nA];have tI:=ha.mono pY;refine d4 ⟨_,rfl⟩ (d4 ⟨_,rfl⟩ (g7 (b:=decide ((i:Int)<a.length)) rfl (fun h=> ?_) (fun h=> ?_)))
 ·have h:i<a.length:=by have:=oDt h;omega
  have da:=ha.2.at i;have e1:wQ .i64 ((i:Int)+(q:Int))=((i+q:Nat):Int):=Jg aA;have e2:wQ .i64 (((i+q:Nat):Int)+1)=((i+q+1:Nat):Int):=He aA;have e10:wQ .i64 ((i:Int)+1)=((i+1:Nat):Int):=He aA;refine En (k:= .i64) (j:=i) rfl rfl rfl rfl aE tI h rfl aE fun p0=> ?_;refine En (k:= .i64) (j:=i+q) rfl rfl rfl rfl aE hO.es aA (by simp only[rxs,iv,eq1,e1]) aE fun p1=> ?_;generalize hx:a.getD i 0=x at da;generalize hc:l.getD (i+q) 0=c at a0h;have vP:c<18446744073709551616:=mG a0h (xm a2v);have hor:c|||(x*2^r%18446744073709551616)=(x%2^(64-r))*2^r+c:=by
   rw[L6 x aA,Nat.or_comm,IQ a0h]
  have hw0:(x%2^(64-r))*2^r+c<18446744073709551616:=by
   rw[<-hor,Lu];exact kX (by rw[<-Lu];exact vP) (by rw[<-Lu];exact cO _ aA)
  have e3:=S0 x r aA;have e4:=wc c (x*2^r%18446744073709551616) vP (cO _ aA);rw[hor]at e4;have a1o:=il (r:=r) aA;have hdm:=iP x (2^(64-r));refine d4 ⟨_,rfl⟩ (d4 ?_ (d4 ⟨_,rfl⟩ (Mc (k:= .i64) (j:=i+q) (d:=(x%2^(64-r))*2^r+c) rfl rfl rfl rfl aE aE pY hO aA hw0 (by simp only[rxs,iv,eq1,e1]) (fun p=> ?_) rfl fun p2 u2 H2 rN h2 _=> ?_)))
  ·show(0:Int)<=(k:Int).tmod 64;rw[er1];omega
  ·simp only[rxs,uv,er1,aV,e3,e4]
  simp only[cA,nA];have k1:=Kp (l:=l) ((x%2^(64-r))*2^r+c) (show i+q<l.length by omega);rw[hc]at k1;have hP:PW i*x*2^k=PW (i+q)*(2^r*x):=by
   rw[zP,Rn,cY (PW i),nU x,<-cY (PW i),cX x]
  refine g7 (b:=decide (((r:Nat):Int)>0)) ?_ (fun h0=> ?_) (fun h0=> ?_)
  ·show Value.bool (decide ((k:Int).tmod 64>0))=_;rw[er1]
  ·have h0:=oDt h0;have e5:wQ .i64 (64-((r:Nat):Int))=((64-r:Nat):Int):=by rw[Do aA aA];omega
   have e6:=Un x (64-r) aA;have hw1:=IR da (r:=r) aA;refine d4 ?_ (Mc (k:= .i64) (j:=i+q+1) (d:=x/2^(64-r)) rfl rfl rfl rfl aE aE rN h2 (by rw[cJ];omega) (mG hw1 (xm a2v)) (by simp only[rxs,iv,eq1,e1,e2]) (fun p=> ?_) rfl fun p3 u3 H3 tJ h3 _=>⟨⟨i+1,_,?_,aA,tJ,h3,by rw[cJ,cJ];exact uE,?_,?_,?_⟩,?_⟩)
   ·show(0:Int)<=wQ .i64 (64-(k:Int).tmod 64);rw[er1,e5];omega
   ·simp only[rxs,uv,er1,e5,aV,e6]
   ·simp only[rxs,iv,e10]
   ·intro j hj;rw[Il aA,Il aA];exact hz j aA
   ·rw[show i+1+q=i+q+1 from aA,Yf (by rw[cJ];omega)];exact hw1
   ·have k2:=Kp (l:=l.set (i+q) ((x%2^(64-r))*2^r+c)) (x/2^(64-r)) (show i+q+1<(l.set (i+q) ((x%2^(64-r))*2^r+c)).length by rw[cJ];omega);rw[Il aA,hz (i+q+1) aA,gP,eF]at k2;rw[k2,Pe,hx,cK,hP,<-hv];have k3:2^r*x=(x%2^(64-r))*2^r+18446744073709551616*(x/2^(64-r)):=by
     rw[a1o];generalize x/2^(64-r)=X at hdm;generalize x%2^(64-r)=Y at hdm;generalize 2^(64-r)=S at hdm;rw[<-hdm,eS,cX (2^r) Y,<-cY,cX (2^r) S];omega
    rw[k3,y7];rw[eS]at k1;rw[eS,cY];omega
   ·simp only[rxs,iv,e10];omega
  ·have h0:=oDf h0;have hr0:r=0:=aA;rw[hr0]at a0h k1 hP h2 hdm;rw[kC]at a0h;have wZ:c=0:=aA;rw[Nat.sub_zero,<-Lu,cP da,kC,dN]at k1 h2;refine⟨⟨i+1,_,?_,aA,rN,h2,by rw[cJ];exact uE,?_,?_,?_⟩,?_⟩
   ·simp only[rxs,iv,e10]
   ·intro j hj;rw[Il aA];exact hz j aA
   ·rw[Il aA,hz (i+1+q) aA];exact jL aA
   ·rw[Pe,hx,cK,hP,<-hv,kC,cM];rw[wZ,gP,eF,eF]at k1;rw[wZ,eF];exact k1
   ·simp only[rxs,iv,e10];omega
 ·have h:i=a.length:=by have:=oDf h;omega
  rw[aF aA]at hv;refine g9 (Jh false hO.es) rfl ?_;rintro u H2 ⟨rfl,w,rfl,hw⟩;refine⟨fun h=>(nomatch h),d4 ⟨_,rfl,rfl⟩ (g6 rfl ⟨pY,?_⟩)⟩;have e:(sn false (ul l)).natAbs=ul l:=rfl;rw[e,hv]at hw;exact hw
end
open Go.RowKit Go.RX Go.WD
section
variable {H:PH} {a b:List Nat} {va vb:Value}
theorem S2 {X Q R d s R' c:Nat} (h1:X=Q*d+R) (h2:s*d+R'=R*18446744073709551616+c):c+18446744073709551616*X=(s+18446744073709551616*Q)*d+R':=by
 rw[cK,cY,h1];generalize Q*d=Y;generalize s*d=Z at h2;omega
set_option maxHeartbeats 1000000 in
theorem KD (ha:Es H va a) (hb:Es H vb b) (ta:Um a) (tb:Um b) (sN:0<ul b) (hA:a.length<=50000) (hB:b.length<=50000):
  Con prog 200 [va,vb] H fun u H'=>Pl H H'/\∃q r lq,u= .tuple #[q,r]/\Es H' q lq/\ul lq=ul a/ul b/\Mu H' r (ul a%ul b):=by
 refine s9 mixed P5 aB rfl (Bd rfl rfl ha rfl (Yr (kl:= .i64) (kc:= .i64) (m:=a.length) rfl rfl rfl aA rfl fun vq H1 qR h1=> ?_));refine Bd rfl rfl (hb.mono qR) rfl (d4 ⟨_,rfl⟩ (g7 (b:=((b.length:Int)==1)) rfl (fun h=> ?_) (fun h=> ?_)))
 ·have h:b.length=1:=by have:=beq_iff_eq.1 h;omega
  obtain⟨d,rfl⟩:∃d,b=[d]:=by
   match b,h with
   |[d],_=>exact⟨d,rfl⟩
  rw[wq]at sN⊢;have hd:d<18446744073709551616:=hb.2.at 0;have e0:wQ .i64 ((a.length:Int)-1)=(a.length:Int)-1:=Do aA aA;refine Bd rfl rfl (ha.mono qR) rfl (d4 ⟨_,rfl⟩ ⟨fun vals H'=>∃(i R:Nat) (lq:List Nat),vals=[.int .u64 (R:Nat),.int .i64 ((i:Int)-1)]/\i<=a.length/\Pl H H'/\Eo H H' vq lq/\lq.length=a.length/\R<d/\ul (a.drop i)=ul (lq.drop i)*d+R,fun vals _=>(intOf (vals.getD 1 undef)+1).toNat,⟨a.length,0,_,?_,aS _,qR,h1,aD,sN,?_⟩,?_⟩)
  ·simp only[cL,cB,rxs,iv,e0];rfl
  ·rw[fK (aS _),fK aD];simp[ul]
  rintro vals H'-⟨i,R,lq,rfl,hi,pY,hO,uE,hR,hv⟩;simp only[cA,nA];refine d4 ⟨_,rfl⟩ (g7 (b:=decide ((i:Int)-1≥0)) rfl (fun tA=> ?_) (fun tA=> ?_))
  ·have tA:=oDt tA;obtain⟨j,rfl⟩:∃j,i=j+1:=⟨i-1,aA⟩;have ej:((j+1:Nat):Int)-1=(j:Int):=aA;rw[ej];have e2:wQ .i64 ((j:Int)-1)=(j:Int)-1:=Do aA aA;have da:=ha.2.at j;refine En (k:= .i64) (j:=j) rfl rfl rfl rfl aE (ha.mono pY) aA rfl aE fun p1=> ?_;refine En (k:= .i64) (j:=0) rfl rfl rfl rfl aE (hb.mono pY) aD rfl aE fun p2=> ?_;refine y8 (N1 R (a.getD j 0) d hR da hd) rfl (d4 ⟨_,rfl,eM _⟩ (d4 ⟨_,rfl,eL _⟩ ?_));obtain⟨s,hs⟩:∃s,s=(R*18446744073709551616+a.getD j 0)/d:=⟨_,rfl⟩;obtain⟨R',hR'⟩:∃s,s=(R*18446744073709551616+a.getD j 0)%d:=⟨_,rfl⟩;have key:s*d+R'=R*18446744073709551616+a.getD j 0:=by
    rw[hs,hR',cX];exact iP _ _
   have a0e:s<18446744073709551616:=by
    rw[hs,Nat.div_lt_iff_lt_mul sN];have:=bL 18446744073709551616 (show R+1<=d from hR);rw[cK,cM]at this;rw[cX 18446744073709551616 d];omega
   have hRd:R'<d:=by rw[hR'];exact cO _ sN
   rw[<-hs,<-hR'];refine Mc (k:= .i64) (j:=j) (d:=s) rfl rfl rfl rfl aE aE pY hO aA a0e rfl aE rfl fun p u H3 tJ h3 _=>⟨⟨j,R',_,?_,aA,tJ,h3,by rw[cJ];exact uE,hRd,?_⟩,?_⟩
   ·simp only[rxs,e2]
   ·rw[ww (l:=a) (show j<a.length by omega),ww (l:=lq.set j s) (by rw[cJ];omega),Yf aA,HZ aA];exact S2 hv key
   ·simp only[rxs,e2];omega
  ·have tA:=oDf tA;have hi0:i=0:=aA;subst hi0;rw[cH,cH]at hv;refine JJ (d:=R) rfl rfl aA rfl fun vr H2 rN h2=> ?_;refine g9 (Jh false h2.es) rfl ?_;rintro u H3 ⟨rfl,w,rfl,hw⟩;have e3:(sn false (ul [R])).natAbs=R:=by rw[wq];rfl
   rw[e3]at hw;refine⟨fun h=>(nomatch h),d4 ⟨_,rfl,rfl⟩ (g6 rfl ⟨pY.trans rN,vq,w,lq,rfl,(hO.mono rN).es,?_,?_⟩)⟩
   ·rw[hv,fL,mO _ _ sN,fZ hR,bK]
   ·rw[hv,fL,eB,cP hR];exact hw
 ·have lA:blen (ul a)<=64*a.length:=JD (Io ha.2);have lB:blen (ul b)<=64*b.length:=JD (Io hb.2);obtain⟨p1,p2⟩:=Ym (x:=ul b) aA;refine g9 (KC (ha.mono qR) ta aA) rfl ?_;rintro _ H2 ⟨rfl,rfl⟩;simp only[cA,nA];refine⟨fun h=>(nomatch h),g9 (KC (hb.mono qR) tb aA) rfl ?_⟩;rintro _ H3 ⟨rfl,rfl⟩;simp only[cA,nA];have e0:wQ .i64 ((blen (ul a):Int)-(blen (ul b):Int))=(blen (ul a):Int)-(blen (ul b):Int):=Do aA aA;refine⟨fun h=>(nomatch h),d4 ⟨_,rfl⟩ (d4 ⟨_,rfl⟩ ⟨fun vals H'=>∃(t:Int) (r:Nat) (vr:Value) (Hr:PH) (lq:List Nat),vals=[vr,.int .i64 t]/\ -10000000<=t/\t<=10000000/\Pl H Hr/\Pl Hr H'/\Eo Hr H' vq lq/\lq.length=a.length/\Mu Hr vr r/\ul a=ul lq*ul b+r/\((t<0/\r<ul b)\/(0<=t/\r<ul b*2^(t.toNat+1)/\2^(t.toNat+1) ∣ ul lq/\t.toNat+blen (ul b)<=blen (ul a))),fun vals _=>(intOf (vals.getD 1 undef)+1).toNat,⟨(blen (ul a):Int)-(blen (ul b):Int),ul a,va,H,_,?_,aA,aA,Pl.refl _,qR,h1,aD,⟨a,ha,ta,rfl⟩,?_,?_⟩,?_⟩)⟩
  ·simp only[rxs,e0]
  ·rw[Ry,cD,bK]
  ·have hlA:=Yl (ul a);by_cases pX:blen (ul a)<blen (ul b)
   ·left;refine⟨aA,?_⟩;have:2^blen (ul a)<=2^(blen (ul b)-1):=aR aA aA;omega
   ·right;refine⟨aA,?_,by rw[Ry];exact Nat.dvd_zero _,aA⟩;rw[show((blen (ul a):Int)-(blen (ul b):Int)).toNat+1=blen (ul a)-blen (ul b)+1 from aA];have h3:=bL (2^(blen (ul a)-blen (ul b)+1)) p2;rw[<-fE,show blen (ul b)-1+(blen (ul a)-blen (ul b)+1)=blen (ul a)from aA]at h3;omega
  rintro vals H'-⟨t,r,vr,Hr,lq,rfl,ht1,ht2,pY,uJ,hq,hlq,sY,hqr,a0i⟩;simp only[cA,nA];refine d4 ⟨_,rfl⟩ (g7 (b:=decide (t≥0)) rfl (fun ht=> ?_) (fun ht=> ?_))
  ·have ht:=oDt ht;obtain⟨k,rfl⟩:∃k:Nat,t=(k:Int):=⟨t.toNat,aA⟩;rw[aV]at a0i;obtain⟨_,hr,zO,hk⟩:=a0i.resolve_left aA;have e1:wQ .i64 ((k:Int)-1)=(k:Int)-1:=Do aA aA;have hQ:=JB k aA;have hR:=JC k;have zP:2^(k+1)=2*2^k:=by rw[Nat.pow_succ,cX]
   have hrA:r<=ul a:=aA;have a0z:∀(q' r':Nat),r'<ul b*2^k->2^k ∣ q'->(((k:Int)-1<0/\r'<ul b)\/(0<=(k:Int)-1/\r'<ul b*2^(((k:Int)-1).toNat+1)/\2^(((k:Int)-1).toNat+1) ∣ q'/\((k:Int)-1).toNat+blen (ul b)<=blen (ul a))):=fun q' r' g2 g3=>by
    by_cases zK:k=0
    ·left;subst zK;rw[kC,dN]at g2;exact⟨aA,g2⟩
    ·right;rw[show((k:Int)-1).toNat+1=k from aA];exact⟨aA,g2,g3,aA⟩
   refine g9 ((S1 k (hb.mono pY) aA aA).frame uJ) rfl ?_;rintro vt H2 ⟨Hr',⟨s1,s2⟩,s3,s4⟩;have vU:=hq.frame s4;obtain⟨lt,dt,tt,vt'⟩:=s2;obtain⟨lr,dr,tr,vr'⟩:=id sY;refine⟨fun h=>(nomatch h),g9 (KB ((dr.mono s1).mono s3) (dt.mono s3) tr tt) rfl ?_⟩;rintro c H3 ⟨rfl,c,rfl,sL,rY⟩;rw[vr',vt']at sL rY;refine⟨fun h=>(nomatch h),d4 ⟨_,rfl⟩ (g7 (b:=decide (c≥0)) rfl (fun hc=> ?_) (fun hc=> ?_))⟩
   ·have hc:=oDt hc;have wB:ul b*2^k<=r:=aA;have llr:lr.length<=a.length:=Um.len_le tr ha.2 aA;refine g9 ((xj (dr.mono s1) dt aA (Um.len_le tt dr.2 aA) aA).frame s3) rfl ?_;rintro vk H4 ⟨Hr2,⟨t1,lk,dk,vk'⟩,t3,t4⟩;have wH:=vU.frame t4;refine⟨fun h=>(nomatch h),g9 ((Jh false dk).frame t3) rfl ?_⟩;rintro u H5 ⟨Hr3,⟨e3,w,rfl,hw⟩,w3,w4⟩;have e3:=e3.symm;subst e3;have hq3:=wH.frame w4;have ew:(sn false (ul lk)).natAbs=r-ul b*2^k:=by rw[vk',vr',vt'];rfl
    rw[ew]at hw;simp only[cA,nA];have hkl:k/64<lq.length:=by rw[hlq];omega
    have dq:=hq3.2.at (k/64);have a5b:=Yu hq3.2 (k/64);have hwb:=R9 zO;rw[a5b]at hwb;have wM:2^(k%64)<18446744073709551616:=xm (cO _ aA);have hor:=wc (lq.getD (k/64) 0) (2^(k%64)) dq wM;rw[hwb]at hor;have qX:=N2 (k%64) (cO _ aA);have tY:lq.getD (k/64) 0+2^(k%64)<18446744073709551616:=by
     rw[<-hwb,Lu];exact kX dq wM
    refine⟨fun h=>(nomatch h),d4 ⟨_,rfl,rfl⟩ (En (k:= .i64) (j:=k/64) rfl rfl rfl rfl aE hq3.es hkl (by simp only[rxs,hQ]) aE fun p=> ?_)⟩;refine d4 ?_ (d4 ⟨_,rfl⟩ (Mc (k:= .i64) (j:=k/64) (d:=lq.getD (k/64) 0+2^(k%64)) rfl rfl rfl rfl aE aE w3 hq3 hkl tY (by simp only[rxs,hQ]) (fun p=> ?_) rfl fun p2 u2 H6 wI h6 _=>⟨⟨(k:Int)-1,r-ul b*2^k,w,Hr2,_,?_,aA,aA,pY.trans (s1.trans t1),wI,h6,by rw[cJ];exact hlq,hw,?_,?_⟩,?_⟩))
    ·show(0:Int)<=(k:Int).tmod 64;rw[hR];omega
    ·simp only[rxs,uv,hR,qX,hor]
    ·simp only[rxs,e1];rfl
    ·have k1:=Kp (l:=lq) (lq.getD (k/64) 0+2^(k%64)) hkl;rw[eS,<-xk k]at k1;have k2:ul (lq.set (k/64) (lq.getD (k/64) 0+2^(k%64)))=ul lq+2^k:=aA;rw[k2,cK,cX (2^k)];omega
    ·have k1:=Kp (l:=lq) (lq.getD (k/64) 0+2^(k%64)) hkl;rw[eS,<-xk k]at k1;have k2:ul (lq.set (k/64) (lq.getD (k/64) 0+2^(k%64)))=ul lq+2^k:=aA;rw[k2];refine a0z _ _ ?_ ((Nat.dvd_add_right (pA ⟨2,by rw[zP,cX]⟩ zO)).2 (Nat.dvd_refl _));rw[zP,<-cY,cX (ul b) 2,cY]at hr;omega
    ·simp only[rxs,e1];omega
   ·have hc:=oDf hc;refine⟨⟨(k:Int)-1,r,vr,Hr',lq,?_,aA,aA,pY.trans s1,s3,vU,hlq,sY.mono s1,hqr,a0z _ _ aA (pA ⟨2,by rw[zP,cX]⟩ zO)⟩,?_⟩
    ·simp only[rxs,e1]
    ·simp only[rxs,e1];omega
  ·have ht:=oDf ht;obtain⟨_,hr⟩:=a0i.resolve_right aA;refine g6 rfl ⟨pY.trans uJ,vq,vr,lq,rfl,hq.es,?_,?_⟩
   ·rw[hqr,fL,mO _ _ sN,fZ hr,bK]
   ·rw[hqr,fL,eB,cP hr];exact sY.mono uJ
end
open Go.RowKit Go.RX Go.WD
theorem KE:∀{a b:List Nat},a.map uv=b.map uv->a=b
 |[],[],_=>rfl
 |[],_::_,h=>by simp at h
 |_::_,[],h=>by simp at h
 |x::a,y::b,h=>by
  simp only[aN,List.cons.injEq,uv,kS,true_and]at h;rw[KE h.2];have:=h.1;congr 1;omega
theorem Mu.uniq {H:PH} {v:Value} {m n:Nat} (h:Mu H v m) (k:Mu H v n):m=n:=by
 obtain⟨l,⟨⟨_,a,c,e,_,_,h1⟩,_⟩,_,rfl⟩:=h;obtain⟨l',⟨⟨_,a',c',e',_,_,h2⟩,_⟩,_,rfl⟩:=k;rw[e,Value.slice.injEq]at e';obtain⟨rfl,hl,rfl⟩:=e';congr 1;rcases h1 with h1|⟨b,o,cs,T,fz,h3,h4,h5⟩
 ·rw[aI h1,aI (show l'.length=0 by omega)]
 ·rcases h2 with h2|⟨b',o',cs',T',fz',h3',yY,h5'⟩
  ·rw[aI h2,aI (show l.length=0 by omega)]
  ·rw[h3]at h3';simp only[dM,Addr.mk.injEq,and_true]at h3';obtain⟨rfl,rfl⟩:=h3';rw[h4]at yY;simp only[dM,Obj.cells.injEq]at yY;obtain⟨rfl,rfl,rfl⟩:=yY;rw[hl]at h5;exact KE (h5.symm.trans h5')
open Classical in
noncomputable def Yv (H:PH) (v:Value):Nat:=if h:∃n,Mu H v n then h.choose else 0
theorem KF {H:PH} {v:Value} {n:Nat} (h:Mu H v n):Yv H v=n:=by
 have:∃n,Mu H v n:=⟨n,h⟩;unfold Yv;rw[dif_pos this];exact this.choose_spec.uniq h
theorem Pg {l:List Nat} {n:Nat} (t:Um l) (hv:ul l=n) (h:n<BP 10000):l.length<=5000:=t _ (by rw[hv,<-gn];exact h)
section
variable {H:PH} {v x y:Value} {z p q:Int}
theorem xn {w:Value} {n:Nat} (h:Mu H w n):Lw H (.agg #[.bool false,w]) (n:Int):=
 ⟨w,by rw[decide_eq_false aA],by rw[dJ];exact h⟩
theorem xo (b:Bool) {w:Value} {n:Nat} (h:Mu H w n):Value.agg ((Value.bool b).cells++w.cells)= .agg #[.bool b,w]:=by
 rw[h.one.1];rfl
theorem jh (h:Lw H v z):Con prog 131 [v] H fun u H'=>H'=H/\Lw H u (-z):=by
 have yX:=h.rq;obtain⟨w,rfl,l,hd,ht,hv⟩:=h;refine s9 mixed P6 aB rfl (d4 yX (d4 ⟨_,rfl⟩ (g9 (Jh (!decide (z<0)) hd) rfl ?_)));rintro u H' ⟨rfl,hu⟩;rw[hv,JM]at hu;have hr:=hu.rq;obtain⟨w',rfl,rP⟩:=hu;exact⟨fun h=>(nomatch h),d4 hr (g6 rfl ⟨rfl,w',rfl,rP⟩)⟩
theorem Yw (hx:Lw H x p) (hy:Lw H y q) (hp:Lm p) (hq:Lm q):Con prog 124 [x,y] H fun u H'=>Pl H H'/\Lw H' u (p+q):=by
 have r1:=hx.rq;have r2:=hy.rq;obtain⟨wx,rfl,a,da,ta,va⟩:=hx;obtain⟨wy,rfl,b,db,tb,vb⟩:=hy;have la:=Pg ta va hp;have lb:=Pg tb vb hq;refine s9 mixed P7 aB rfl (d4 r1 (d4 r2 (d4 ⟨_,rfl⟩ (d4 ⟨_,rfl⟩ (g7 (b:=(decide (p<0)==decide (q<0))) ?_ (fun h=> ?_) (fun h=> ?_))))))
 ·show Value.bool (false !=(decide (p<0)==decide (q<0)))=_;rw[Bool.false_bne]
 ·refine g9 (R5 da db aA aA) rfl ?_;rintro u H1 ⟨qR,l,hd,hv⟩;refine⟨fun _=>qR,g9 (Jh (decide (p<0)) hd) rfl ?_⟩;rintro u2 H2 ⟨rfl,hu⟩;rw[hv,va,vb,JQ h]at hu;have hr:=hu.rq;obtain⟨w',rfl,rP⟩:=hu;exact⟨fun _=>Pl.refl _,d4 hr (g6 rfl ⟨qR,w',rfl,rP⟩)⟩
 ·refine g9 (KB da db ta tb) rfl ?_;rintro c H1 ⟨rfl,c,rfl,sL,rY⟩;rw[va,vb]at sL rY;refine⟨fun h=>(nomatch h),d4 ⟨_,rfl⟩ (g7 (b:=decide (c<0)) rfl (fun hc=> ?_) (fun hc=> ?_))⟩
  ·have hc:=oDt hc;refine g9 (xj db da aA (Um.len_le ta db.2 aA) aA) rfl ?_;rintro u H2 ⟨qR,l,hd,hv⟩;refine⟨fun _=>qR,g9 (Jh (decide (q<0)) hd) rfl ?_⟩;rintro u2 H3 ⟨rfl,hu⟩;rw[hv,va,vb,jb (by rw[<-h];exact Bool.beq_comm) aA,Int.add_comm]at hu;have hr:=hu.rq;obtain⟨w',rfl,rP⟩:=hu;exact⟨fun _=>Pl.refl _,d4 hr (g6 rfl ⟨qR,w',rfl,rP⟩)⟩
  ·have hc:=oDf hc;refine g9 (xj da db aA (Um.len_le tb da.2 aA) aA) rfl ?_;rintro u H2 ⟨qR,l,hd,hv⟩;refine⟨fun _=>qR,g9 (Jh (decide (p<0)) hd) rfl ?_⟩;rintro u2 H3 ⟨rfl,hu⟩;rw[hv,va,vb,jb h aA]at hu;have hr:=hu.rq;obtain⟨w',rfl,rP⟩:=hu;exact⟨fun _=>Pl.refl _,d4 hr (g6 rfl ⟨qR,w',rfl,rP⟩)⟩
theorem S3 (hx:Lw H x p) (hy:Lw H y q) (hp:Lm p) (hq:Lm q):Con prog 194 [x,y] H fun u H'=>Pl H H'/\Lw H' u (p-q):=by
 have r1:=hx.rq;have r2:=hy.rq;have vU:Lm (-q):=by unfold Lm at hq⊢;rw[gC];exact hq
 have sH:=hx;have tP:=hy;obtain⟨wx,rfl,a,da,ta,va⟩:=hx;obtain⟨wy,rfl,b,db,tb,vb⟩:=hy;refine s9 mixed P8 aB rfl (d4 r1 (d4 r2 (g9 (jh tP) rfl ?_)));rintro u H1 ⟨rfl,hu⟩;refine⟨fun _=>Pl.refl _,g9 (Yw sH hu hp vU) rfl ?_⟩;rintro u2 H2 ⟨hl,rQ⟩;rw[<-Int.sub_eq_add_neg]at rQ;have hr:=rQ.rq;obtain⟨w',rfl,rP⟩:=rQ;exact⟨fun _=>hl,d4 hr (g6 rfl ⟨hl,w',rfl,rP⟩)⟩
theorem Md (hx:Lw H x p) (hy:Lw H y q) (hp:Lm p) (hq:Lm q):Con prog 136 [x,y] H fun u H'=>Pl H H'/\Lw H' u (p*q):=by
 have r1:=hx.rq;have r2:=hy.rq;obtain⟨wx,rfl,a,da,ta,va⟩:=hx;obtain⟨wy,rfl,b,db,tb,vb⟩:=hy;have la:=Pg ta va hp;have lb:=Pg tb vb hq;refine s9 mixed P9 aB rfl (d4 r1 (d4 r2 (d4 ⟨_,rfl⟩ (d4 ⟨_,rfl⟩ (g9 (R7 da db aA aA) rfl ?_)))));rintro u H1 ⟨qR,l,hd,hv⟩;refine⟨fun _=>qR,g9 (Jh (true !=(decide (p<0)==decide (q<0))) hd) rfl ?_⟩;rintro u2 H2 ⟨rfl,hu⟩;rw[hv,va,vb,JR]at hu;have hr:=hu.rq;obtain⟨w',rfl,rP⟩:=hu;exact⟨fun _=>Pl.refl _,d4 hr (g6 rfl ⟨qR,w',rfl,rP⟩)⟩
theorem xp (hx:Lw H x z):Con prog 67 [x] H fun u H'=>H'=H/\u= .int .i64 (sgI z 0):=by
 have r1:=hx.rq;obtain⟨wx,rfl,a,da,ta,va⟩:=hx;have rO:=ta.pos;rw[va]at rO;refine s9 mixed Q2 aB rfl (d4 r1 (d4 ⟨_,rfl⟩ (g7 (b:=decide (z<0)) rfl (fun h=> ?_) (fun h=> ?_))))
 ·have h:=oDt h;refine g6 rfl ⟨rfl,?_⟩;unfold sgI;rw[if_pos h];rfl
 ·have h:=oDf h;refine Bd rfl rfl da rfl (d4 ⟨_,rfl⟩ (g7 (b:=((a.length:Int)==0)) rfl (fun h2=> ?_) (fun h2=> ?_)))
  ·have h2:=beq_iff_eq.1 h2;refine g6 rfl ⟨rfl,?_⟩;unfold sgI;rw[if_neg h,if_pos aA];rfl
  ·have h2:=beq_eq_false_iff_ne.1 h2;refine g6 rfl ⟨rfl,?_⟩;unfold sgI;rw[if_neg h,if_neg aA];rfl
theorem xq (hx:Lw H x p) (hy:Lw H y q) (hp:Lm p) (hq:Lm q) (xM:q≠0):Con prog 130 [x,y] H fun u H'=>Pl H H'/\∃a b,u= .tuple #[a,b]/\Lw H' a (p/q)/\Lw H' b (p%q):=by
 have r1:=hx.rq;have r2:=hy.rq;obtain⟨wx,rfl,a,da,ta,va⟩:=hx;obtain⟨wy,rfl,b,db,tb,vb⟩:=hy;have la:=Pg ta va hp;have lb:=Pg tb vb hq;unfold Lm at hp hq;have sN:0<ul b:=by rw[vb];omega
 have hR:p.natAbs%q.natAbs<q.natAbs:=cO _ aA;have hQ:p.natAbs/q.natAbs<=p.natAbs:=Nat.div_le_self _ _;obtain⟨s1,s2⟩:=JE p q (p.natAbs/q.natAbs) (p.natAbs%q.natAbs) xM hR (by rw[cX];exact(iP _ _).symm);generalize hQd:p.natAbs/q.natAbs=Q at*;generalize hRd:p.natAbs%q.natAbs=R at*;refine s9 mixed Q0 aB rfl (d4 r1 (d4 r2 (g9 (KD da db ta tb sN aA aA) rfl ?_)));rintro u H1 ⟨qR,uq,ur,lq,rfl,dq,vq,hr1⟩;rw[va,vb,hQd]at vq;rw[va,vb,hRd]at hr1;obtain⟨lr,dr,tr,vr⟩:=hr1;refine⟨fun h=>(nomatch h),d4 ⟨_,rfl,eM _⟩ (d4 ⟨_,rfl,eL _⟩ (d4 ⟨_,rfl⟩ (d4 ⟨_,rfl⟩ (g9 (Jh (true !=(decide (p<0)==decide (q<0))) dq) rfl ?_))))⟩;rintro u3 H2 ⟨rfl,uK⟩;rw[vq]at uK;refine⟨fun _=>Pl.refl _,g9 (Jh (decide (p<0)) dr) rfl ?_⟩;rintro u4 H3 ⟨rfl,xA⟩;rw[vr]at xA;have hr3:=uK.rq;have hr4:=xA.rq;have a0u:=uK;have a1n:=xA;obtain⟨w3,rfl,n3⟩:=uK;obtain⟨w4,rfl,n4⟩:=xA;refine⟨fun _=>Pl.refl _,d4 hr3 (d4 hr4 (d4 ⟨_,rfl⟩ (g7 rfl (fun h=> ?_) (fun h=> ?_))))⟩
 ·have h:=oDt h;have vW:p<0:=by
   rcases Int.lt_or_le p 0 with h1|h1
   ·exact h1
   ·exfalso;unfold sn at h;rw[decide_eq_false (show ¬p<0 by omega)]at h;simp only[bZ,if_false]at h;omega
  have hR0:R≠0:=by
   intro h0;rw[h0]at h;unfold sn at h;split at h<;>omega
  have eR:sn (decide (p<0)) R= -(R:Int):=by unfold sn;rw[oDd vW];rfl
  simp only[vW,hR0,decide_true,decide_false,Bool.not_false,Bool.and_true,if_true]at s1 s2;have nb:Mu H3 wy q.natAbs:=⟨b,db.mono qR,tb,vb⟩;have a0g:=Yw a1n (xn nb) (by unfold Lm;rw[eR,gC,dJ];omega) (Lm.nat hq);refine d4 nb.one.2 (g9 a0g ?_ ?_)
  ·simp only[aN,bJ];congr 2;show Value.agg ((r8 prog 4).cells++wy.cells)=_;rw[je];exact xo false nb
  rintro u5 H4 ⟨hl4,sO⟩;have e5:sn (decide (p<0)) R+(q.natAbs:Int)=p%q:=by rw[s2,eR];omega
  rw[e5]at sO;have hr5:=sO.rq;obtain⟨w5,rfl,n5⟩:=sO;refine⟨fun h=>(nomatch h),d4 hr5 (JJ (d:=1) rfl rfl aA rfl fun v1 H5 vN h5=> ?_)⟩;have n1:Mu H5 v1 1:=⟨[1],h5.es,Um.of (n:=0) rfl aC,rfl⟩;have tU:Lw H5 (.agg #[.bool (!decide (q<0)),v1]) (if q<0 then 1 else -1):=by
   by_cases h2:q<0
   ·rw[if_pos h2];exact⟨v1,by simp[h2],n1⟩
   ·rw[if_neg h2];exact⟨v1,by simp[h2],n1⟩
  have eQ:(sn (true !=(decide (p<0)==decide (q<0))) Q).natAbs=Q:=by unfold sn;split<;>omega
  have a5c:Lm (if q<0 then(1:Int)else -1):=by
   split
   ·exact jf
   ·have:=jf;unfold Lm at this⊢;exact this
  refine d4 n1.one.2 (g9 (Yw (a0u.mono (hl4.trans vN)) tU (by unfold Lm;rw[eQ];omega) a5c) ?_ ?_)
  ·simp only[aN,bJ];congr 2;show Value.agg ((Value.bool (!decide (q<0))).cells++v1.cells)=_;exact xo _ n1
  rintro u7 H6 ⟨wI,wK⟩;have e7:sn (true !=(decide (p<0)==decide (q<0))) Q+(if q<0 then 1 else -1)=p/q:=by
   rw[s1];unfold sn;by_cases h2:q<0
   ·simp[h2,vW]
   ·simp[h2,vW];omega
  rw[e7]at wK;have hr7:=wK.rq;obtain⟨w7,rfl,n7⟩:=wK;exact⟨fun h=>(nomatch h),d4 hr7 (g6 rfl ⟨qR.trans (hl4.trans (vN.trans wI)),_,_,rfl,⟨w7,rfl,n7⟩,w5,rfl,n5.mono (vN.trans wI)⟩)⟩
 ·have h:=oDf h;have hc:(decide (p<0)&& !decide (R=0))=false:=by
   by_cases h1:p<0
   ·by_cases h2:R=0
    ·simp[h2]
    ·exfalso;apply h;unfold sn;rw[oDd h1];simp;omega
   ·simp[h1]
  rw[hc]at s1 s2;simp only[bZ,if_false]at s1 s2;have e3:sn (true !=(decide (p<0)==decide (q<0))) Q=p/q:=by
   rw[s1];unfold sn;by_cases h1:p<0<;>by_cases h2:q<0<;>simp[h1,h2]
  have e4:sn (decide (p<0)) R=p%q:=by
   rw[s2];unfold sn;by_cases h1:p<0
   ·simp[h1]at hc⊢;omega
   ·simp[h1]
  rw[e3]at n3;rw[e4]at n4;refine g6 rfl ⟨qR,_,_,rfl,⟨w3,?_,n3⟩,w4,?_,n4⟩
  ·rw[<-e3];rfl
  ·rw[<-e4];rfl
theorem S4 (hx:Lw H x p) (hy:Lw H y q) (hp:Lm p) (hq:Lm q):Con prog 129 [x,y] H fun u H'=>Pl H H'/\Lw H' u (fY p.natAbs q.natAbs:Nat):=by
 have r1:=hx.rq;have r2:=hy.rq;obtain⟨wx,rfl,nx⟩:=hx;obtain⟨wy,rfl,ny⟩:=hy;unfold Lm at hp hq;refine s9 mixed Q1 aB rfl (d4 r1 (d4 r2 ⟨fun vals H'=>∃(m n:Nat) (vm vn:Value),vals=[vm,vn]/\Pl H H'/\Mu H' vm m/\Mu H' vn n/\m<BP 10000/\n<BP 10000/\fY m n=fY p.natAbs q.natAbs,fun vals H'=>Yv H' (vals.getD 1 undef),⟨p.natAbs,q.natAbs,wx,wy,rfl,Pl.refl H,nx,ny,hp,hq,rfl⟩,?_⟩));rintro vals H'-⟨m,n,vm,vn,rfl,pY,hm,hn,lm,ln,hg⟩;simp only[cA,nA];obtain⟨a,da,ta,va⟩:=id hm;obtain⟨b,db,tb,vb⟩:=id hn;have rO:=tb.pos;refine Bd rfl rfl db rfl (d4 ⟨_,rfl⟩ (g7 (b:=decide ((b.length:Int)>0)) rfl (fun h=> ?_) (fun h=> ?_)))
 ·have h:=oDt h;refine g9 (KD da db ta tb aA (bD (Pg ta va lm) aA) (bD (Pg tb vb ln) aA)) rfl ?_;rintro u H2 ⟨rN,uq,ur,lq,rfl,_,_,hr⟩;rw[va,vb]at hr;have pX:m%n<n:=cO _ aA;refine⟨fun h=>(nomatch h),d4 ⟨_,rfl,eM _⟩ (d4 ⟨_,rfl,eL _⟩ ⟨⟨n,m%n,vn,ur,rfl,pY.trans rN,hn.mono rN,hr,ln,aA,?_⟩,?_⟩)⟩
  ·rw[<-hg,lL n,<-Nat.gcd_rec,lL]
  ·show Yv H2 ur<Yv H' vn;rw[KF hr,KF hn];exact pX
 ·have h:=oDf h;have yC:n=0:=aA;subst yC;rw[Nat.gcd_zero_right]at hg;rw[hg]at hm;refine d4 hm.one.2 (g6 rfl ⟨pY,?_⟩);show Lw H' (Value.agg ((r8 prog 4).cells++vm.cells)) _;rw[je,xo false hm];exact xn hm
end
theorem S5 {l:List Nat}:∀c∈l.map uv,c.oneCell'=true:=fun c hc=>by obtain⟨d,_,rfl⟩:=aY.1 hc;rfl
theorem KG:r8 prog 208=nb false 0:=aB
def dgs (n:Nat):List Nat:=[dig n 0,dig n 1,dig n 2,dig n 3,dig n 4,dig n 5,dig n 6,dig n 7]
theorem S6 (n:Nat):Eg (dgs n):=fun d hd=>by
 simp only[dgs,aP,bP,or_false]at hd;rcases hd with h|h|h|h|h|h|h|h<;>rw[h]<;>exact Yc _ _
theorem S7 (n:Nat):ul (dgs n)=n%M:=by
 have e:dig n 0+18446744073709551616*(dig n 1+18446744073709551616*(dig n 2+18446744073709551616*(dig n 3+18446744073709551616*(dig n 4+18446744073709551616*(dig n 5+18446744073709551616*(dig n 6+18446744073709551616*(dig n 7+18446744073709551616*0)))))))=n%PW 8:=by
  have h:=fun k=>Jz n k;rw[h 7,h 6,h 5,h 4,h 3,h 2,h 1,h 0,Lq,Nat.mod_one];rw[show PW 7=PW 0*18446744073709551616*18446744073709551616*18446744073709551616*18446744073709551616*18446744073709551616*18446744073709551616*18446744073709551616 from by rw[y7,y7,y7,y7,y7,y7,y7],show PW 6=PW 0*18446744073709551616*18446744073709551616*18446744073709551616*18446744073709551616*18446744073709551616*18446744073709551616 from by rw[y7,y7,y7,y7,y7,y7],show PW 5=PW 0*18446744073709551616*18446744073709551616*18446744073709551616*18446744073709551616*18446744073709551616 from by rw[y7,y7,y7,y7,y7],show PW 4=PW 0*18446744073709551616*18446744073709551616*18446744073709551616*18446744073709551616 from by rw[y7,y7,y7,y7],show PW 3=PW 0*18446744073709551616*18446744073709551616*18446744073709551616 from by rw[y7,y7,y7],show PW 2=PW 0*18446744073709551616*18446744073709551616 from by rw[y7,y7],show PW 1=PW 0*18446744073709551616 from by rw[y7],Lq];omega
 rw[Gk,<-e];rfl
end Go.Z
namespace Go.WD
open RX
theorem S8 {n k:Nat} (h:n<PW k) (hk:k<=8):n<M:=by rw[Gk];exact aU h (Lr hk)
end Go.WD
namespace Go.Z
open Proofs.Tryz RowKit RX WD
theorem KH:prog.underlying 208=some (.struct (fieldsOf prog 208)):=aB
theorem KI:1<(fieldsOf prog 208).size:=by decide+kernel
theorem KJ:prog.underlying 206=some (.array 8 54):=aB
theorem jj:prog.cellsOf 208=9:=aB
theorem KL (b:Bool) (n:Nat):spl (nb false 0).cells 0 (nb b n).cells.toList=(nb b n).cells:=by
 simp[nb,words,wf,spl,Fj]
theorem S9 (b:Bool):o0 (Value.bool b).cells:=by intro c hc;simp[Xy]at hc;subst hc;rfl
theorem T0 (b:Bool) (n:Nat):((nb b n).cells.toList.drop 1).take 8=(dgs n).map uv:=rfl
section
variable {H:PH}
theorem T1 {o:Oper} {x:Operand} {b:Nat} (ho:o.op= .fieldAddr 208 x 0) (hx:g8 [x] [.pointer (some ⟨b,0,none⟩)] x= .pointer (some ⟨b,0,none⟩)):Yld prog o [.pointer (some ⟨b,0,none⟩)] (.pointer (some ⟨b,0,none⟩)):=
 vd (T:=4) (off:=0) ho hx KH (mG Nat.zero_lt_one KI) aB aB aB (by decide+kernel)
theorem KN {o:Oper} {x:Operand} {b:Nat} (ho:o.op= .fieldAddr 208 x 1) (hx:g8 [x] [.pointer (some ⟨b,0,none⟩)] x= .pointer (some ⟨b,0,none⟩)):Yld prog o [.pointer (some ⟨b,0,none⟩)] (.pointer (some ⟨b,1,none⟩)):=
 vd (T:=206) (off:=1) ho hx KH KI aB aB aB (by decide+kernel)
theorem KO {o:Oper} {x y:Operand} {b:Nat} {v:Value} {cs:Array Value} (ho:o.op= .store 208 x y) (hx:∀v,g8 [x,y] [.pointer (some ⟨b,0,none⟩),v] x= .pointer (some ⟨b,0,none⟩)) (hy:∀v,g8 [x,y] [.pointer (some ⟨b,0,none⟩),v] y=v) (hH:H b=some (.cells cs 208 (0,0))) (qM:cs.size=9) (hv:v.cells.size=9) (h1:o0 v.cells):
  Opn prog o [.pointer (some ⟨b,0,none⟩),v] H fun _ H'=>H'=H.put b (.cells (spl cs 0 v.cells.toList) 208 (0,0)):=
 (Uf ho (hx v) (hy v) hH aB (by rw[jj];omega) (by rw[jj];exact hv) h1).mono fun _ _ h=>h.2
theorem T3 {o:Oper} {x:Operand} {b:Nat} {cs:Array Value} (ho:o.op= .load 208 x) (hx:g8 [x] [.pointer (some ⟨b,0,none⟩)] x= .pointer (some ⟨b,0,none⟩)) (hH:H b=some (.cells cs 208 (0,0))) (qM:cs.size=9):Rds prog o [.pointer (some ⟨b,0,none⟩)] H (.agg cs):=by
 have:=Rk (P:=prog) (T:=208) ho hx hH aB (by rw[jj];omega) (fun h=>by cases h.symm.trans (show An prog 208=true by kernel_rfl));rw[show An prog 208=true by kernel_rfl,if_pos rfl,jj,bK,<-qM,Array.extract_size]at this;exact this
theorem jl (a:Nat):Con prog 75 [wd a] H fun u H'=>Pl H H'/\Lw H' u (toI a):=by
 have hM:=II a;refine s9 mixed O5 aB rfl (d4 ⟨words_size a,words_one a⟩ (y8 (J8 a) rfl ?_));generalize toI a=z at hM;intro b hb;show den _ _ _ _ _ (H.put b (.cells (r8 prog 208).cells 208 (0,0)));rw[KG];simp only[cA,nA];refine t7 (vs:=[.pointer (some ⟨b,0,none⟩),nm z]) (KO rfl aE aE (PH.put_self _ _ _) (Uk _ _) (Uk _ _) (vv _ _)) rfl ?_;rintro u H1 rfl;rw[PH.put_put,show spl (nb false 0).cells 0 (nm z).cells.toList=(nm z).cells from KL _ _];have l1:Pl H (H.put b (.cells (nm z).cells 208 (0,0))):=PH.le_put hb _;have hB:(H.put b (.cells (nm z).cells 208 (0,0))) b=some (.cells (nm z).cells 208 (0,0)):=PH.put_self _ _ _;generalize H.put b (.cells (nm z).cells 208 (0,0))=H2 at l1 hB;refine nmI ?_;refine j7 ((T1 rfl rfl).rds _) rfl (j7 (gf (w:= .bool (decide (z<0))) rfl rfl hB aB aB aB (by show 0+1<=9;omega) rfl) rfl ?_);refine j7 ((KN rfl rfl).rds _) rfl (j7 ((Yb (vs:=[.pointer (some ⟨b,1,none⟩)]) rfl rfl KJ Lx).rds _) rfl ?_);obtain⟨ti,i1,i2,i3,i4⟩:=ja;refine t7 (vs:=[]) (vc rfl Ly i1) rfl ?_;rintro v8 H3 ⟨g,hg,rfl,rfl⟩;have l3:Pl H2 (H2.put g (.cells #[] 54 (0,0))):=PH.le_put hg _;have hs:Sl (H2.put g (.cells #[] 54 (0,0))) 1 (.slice (some ⟨b,1,none⟩) 8 8) 8 ((dgs z.natAbs).map uv):=⟨rfl,_,8,rfl,aA,by simp[maxLen],.inr ⟨b,1,_,_,_,rfl,l3 _ _ hB,T0 _ _⟩⟩;refine⟨fun _=>l3,t7 (vs:=[.slice (some ⟨g,0,none⟩) 0 0,.slice (some ⟨b,1,none⟩) 8 8]) (C9 rfl rfl rfl Ly i1 i2 i3 rfl hs aA (by simp[maxLen]) (by rw[i4];omega)) rfl ?_⟩;rintro v9 H4 ⟨l4,ho⟩;have hE:Es H4 v9 (dgs z.natAbs):=⟨ho.sl,S6 _⟩;refine⟨fun _=>l4,g9 (Jh (decide (z<0)) hE) rfl ?_⟩;rintro u H5 ⟨rfl,hu⟩;rw[S7,cP hM,JO]at hu;have hr:=hu.rq;obtain⟨w',rfl,rP⟩:=hu;exact⟨fun _=>Pl.refl _,d4 hr (g6 rfl ⟨l1.trans (l3.trans l4),w',rfl,rP⟩)⟩
theorem Us (n:Int) (h0: -9223372036854775808<=n) (h1:n<9223372036854775808):Con prog 102 [.int .i64 n] H fun u H'=>Pl H H'/\Lw H' u n:=by
 refine s9 mixed O6 aB rfl (y8 (wj n h0 h1) rfl (g9 (jl (rs n)) rfl ?_));rintro u H1 ⟨l1,hu⟩;rw[toI_rs (we h0 h1)]at hu;have hr:=hu.rq;obtain⟨w',rfl,rP⟩:=hu;exact⟨fun h=>(nomatch h),d4 hr (g6 rfl ⟨l1,w',rfl,rP⟩)⟩
theorem KP (n:Nat):(words n).toList=(List.range 8).map fun j=>uv (dig n j):=rfl
theorem T4 {l:List Nat} (h:Eg l) (hl:l.length<=8):l.map uv++(words 0).toList.drop l.length=(words (ul l)).toList:=by
 rw[KP,KP];apply bG;intro j;rcases dV j l.length with hj|hj
 ·rw[bS (by simpa using hj),bO,bO,fS aA,HU hj];simp only[dF];rw[Yu h]
 ·rw[bV (by simpa using hj),aX,cS,show l.length+(j-l.length)=j from aA,bO,bO];rcases dV j 8 with h8|h8
  ·rw[fS h8];simp only[dF];rw[Yu h,Hv hj,Yd]
  ·rw[aW (by simpa using h8)];rfl
theorem jm {v:Value} {z:Int} (hx:Lw H v z):Con prog 72 [v] H fun u H'=>Pl H H'/\u=told z:=by
 have yX:=hx.rq;obtain⟨w,rfl,l,dl,tl,vl'⟩:=hx;have hHM:=Ko;refine s9 mixed O7 aB rfl (d4 yX (Bd rfl rfl dl rfl (d4 ⟨_,rfl⟩ (g7 (b:=decide ((l.length:Int)>8)) rfl (fun h=> ?_) (fun h=> ?_)))))
 ·have h:=oDt h;have wB:M<=z.natAbs:=by
   rcases dV z.natAbs M with h1|h1
   ·have:=tl 8 (by rw[vl',<-Gk];exact h1);omega
   ·exact h1
  refine g6 ?_ ⟨Pl.refl _,rfl⟩;rw[Up (by have:=Rw;omega)];simp only[rxs,Am,Lt]
 ·have h:=oDf h;have hlM:z.natAbs<M:=by rw[<-vl'];exact S8 (Io dl.2) aA
  refine d4 ⟨rfl,S9 _⟩ ?_;intro b hb;show den _ _ _ _ _ (H.put b (.cells (r8 prog 208).cells 208 (0,0)));rw[KG];simp only[cA,nA];obtain⟨V,hV⟩:∃V,V=nb (decide (z<0)) 0:=⟨_,rfl⟩;have hV9:V.cells.size=9:=by rw[hV];exact Uk _ _
  have hV1:o0 V.cells:=by rw[hV];exact vv _ _
  have a5d:[Value.pointer (some ⟨b,0,none⟩),Value.agg ((Value.bool (decide (z<0))).cells++(r8 prog 206).cells)]=[Value.pointer (some ⟨b,0,none⟩),V]:=by
   rw[Yj,hV];rfl
  have xG:=KO (v:=V) O8 aE aE (PH.put_self H b (.cells (nb false 0).cells 208 (0,0))) (Uk _ _) hV9 hV1;refine @t7 _ _ _ _ _ _ _ _ _ _ _ _ _ xG ?_ ?_
  ·simp only[aN,bJ];exact a5d
  rintro u H1 rfl;rw[PH.put_put,hV,KL];have l1:Pl H (H.put b (.cells (nb (decide (z<0)) 0).cells 208 (0,0))):=PH.le_put hb _;refine nmI ?_;refine j7 ((KN rfl rfl).rds _) rfl (j7 ((Yb (vs:=[.pointer (some ⟨b,1,none⟩)]) rfl rfl KJ Lx).rds _) rfl ?_);obtain⟨ti,i1,i2,i3,i4⟩:=ja;refine t7 (vs:=[.slice (some ⟨b,1,none⟩) 8 8,w]) (HC rfl rfl rfl Ly i1 i3 (PH.put_self _ _ _) (dl.mono l1).1 S5 aA (by show 1+l.length<=9;omega)) rfl ?_;rintro u H2 rfl;rw[PH.put_put];have ecs:((nb (decide (z<0)) 0).cells.toList.take 1++l.map uv++(nb (decide (z<0)) 0).cells.toList.drop (1+l.length)).toArray=(nm z).cells:=by
   have e1:∀n,(nb (decide (z<0)) n).cells.toList= .bool (decide (z<0))::(words n).toList:=fun n=>by simp[nb,Fj]
   have e2:=T4 dl.2 aA;rw[vl']at e2;rw[<-cI,e1 0];show[Value.bool (decide (z<0))]++l.map uv++(Value.bool (decide (z<0))::(words 0).toList).drop (1+l.length)=(nb (decide (z<0)) z.natAbs).cells.toList;rw[e1,fL 1,List.drop_succ_cons,bH,e2];rfl
  rw[ecs];have l2:Pl H (H.put b (.cells (nm z).cells 208 (0,0))):=PH.le_put hb _;refine nmI ?_;refine j7 (T3 rfl rfl (PH.put_self _ _ _) (Uk _ _)) rfl (y8 (J9 z hlM) rfl ?_);obtain⟨n,e,ht⟩:=wb z;rw[ht];exact d4 ⟨_,rfl,eM _⟩ (d4 ⟨_,rfl,eL _⟩ (d4 ⟨words_size n,words_one n⟩ (g6 rfl ⟨l2,rfl⟩)))
end
end Go.Z

/- wide/long.go: words. -/
import Derived.Test.YtmannekkmdockaaGreatDoorRfI
open Bool renaming false_eq_true->cN
open Go.Value.int renaming injEq->kQ
open Int renaming natAbs_natCast->cV,natAbs_neg->fW,natCast_add->nY,toNat_natCast->bB
open List renaming cons_append->cG,drop_of_length_le->gJ,drop_zero->dH,eq_nil_of_length_eq_zero->aZ,getD_eq_getElem?_getD->aB,getElem?_map->aO,getElem?_range->eA,length_set->bD,length_take->cB,map_cons->aM,map_nil->cL,mem_cons->aL,nil_append->bV,not_mem_nil->cF,take_of_length_le->aK
open Nat renaming add_comm->eI,add_mul->cP,add_mul_div_right->lY,add_mul_mod_self_right->kW,add_zero->cZ,div_add_mod->iL,div_eq_of_lt->fG,dvd_trans->oM,eq_zero_or_pos->kC,gcd->eJ,gcd_comm->mM,le_refl->aN,le_trans->aS,lt_of_lt_of_le->bK,lt_or_ge->eV,lt_succ_self->bQ,lt_trans->lR,min_eq_left->cD,mod_eq_of_lt->bR,mod_lt->bO,mul_add->cS,mul_assoc->cH,mul_comm->cE,mul_le_mul_right->dX,mul_left_comm->nF,mul_one->eS,mul_zero->fE,one_mul->dS,or_lt_two_pow->kG,pow_add->dG,pow_pos->iZ,pow_zero->jX,zero_add->bM,zero_lt_succ->bU
open Option renaming map_some->dK
open Option.some renaming injEq->aD
set_option maxRecDepth 100000
namespace Go.Proofs.Z
open Go.Proofs.Tryz
open Go.RowKit Go.RX Go.WD
theorem Es.len {H:PH} {v:Value} {l:List Nat} (h:Es H v l):l.length<9223372036854775808:=by
 have:=h.1.len_le;simp only[maxLen]at this;omega
theorem Es.take {H:PH} {v:Value} {l:List Nat} {o:Oper} {x hi:Operand} {i:Nat} {k:IntKind} {vs:List Value} (h:Es H v l) (ho:o.op= .slice 76 x none (some hi) none) (hx:g9 [x,hi] vs x=v) (hl:g9 [x,hi] vs hi= .int k (i:Nat)) (h1:i<=l.length):∃u,Yld prog o vs u/\Es H u (l.take i):=by
 obtain⟨u,h2,h3⟩:=FN (P:=prog) ho hx hl Lq Lo h.1 h1;refine⟨u,h2,?_,h.2.take i⟩;rw[cB,cD h1,List.map_take]
 rwa[eS]at h3
theorem Oh (l:List Nat) (k:Nat):ul (l.take (k+1))=ul (l.take k)+PW k*l.getD k 0:=by
 rcases eV k l.length with h|h
 ·exact Ur h
 ·rw[aK (by omega),aK h,Un h,fE,cZ]
theorem Mu.one {H:PH} {v:Value} {n:Nat} (h:Mu H v n):v.cells= #[v]/\v.cells.size=1/\s8 v.cells:=by
 obtain⟨l,h1,_⟩:=h;exact⟨h1.cells,h1.one⟩
def Lw (H:PH) (v:Value) (z:Int):Prop:=∃w,v= .agg #[.bool (decide (z<0)),w]/\Mu H w z.natAbs
theorem Lw.mono {H H':PH} {v:Value} {z:Int} (h:Lw H v z) (hl:PH.le H H'):Lw H' v z:=by
 obtain⟨w,h1,h2⟩:=h;exact⟨w,h1,h2.mono hl⟩
theorem Lw.rq {H:PH} {v:Value} {z:Int} (h:Lw H v z):v.cells.size=2/\s8 v.cells:=by
 obtain⟨w,rfl,hw⟩:=h;refine⟨rfl,fun c hc=> ?_⟩;have h1:=hw.one.2.2;rw[hw.one.1]at h1;rw[show(Value.agg #[.bool (decide (z<0)),w]).cells= #[.bool (decide (z<0)),w]from rfl]at hc;simp only[aL,cF,or_false]at hc;rcases hc with h2|h2
 ·rw[h2];rfl
 ·rw[h2];exact h1 w (by simp)
section
variable {H:PH} {v:Value} {l:List Nat}
theorem HY {n:Nat} (hn:n<=l.length) (hz:∀k,n<=k->l.getD k 0=0):ul (l.take n)=ul l:=by
 obtain⟨d,hd⟩:=Nat.exists_eq_add_of_le hn;induction d generalizing n with
 |zero=>rw[aK (by omega)]
 |succ d ih=>
  have:=ih (n:=n+1) (by omega) (fun k hk=>hz k (by omega)) (by omega);rw[Ur (by omega),hz n (aN n),fE,cZ]at this;exact this
theorem Iw (b:Bool) (h:Es H v l):Con prog 132 [.bool b,v] H fun u H'=>H'=H/\Lw H u (sn b (ul l)):=by
 have pR:=h.len;refine Aa mixed F4 (by kernel_rfl) rfl (Bm rfl rfl h rfl ⟨fun vals H'=>∃n:Nat,vals=[iv n]/\H'=H/\n<=l.length/\∀k,n<=k->l.getD k 0=0,fun vals _=>(intOf (vals.getD 0 undef)).toNat,⟨l.length,rfl,rfl,aN _,fun k hk=>Un hk⟩,?_⟩);rintro vals H'-⟨n,rfl,rfl,hn,hz⟩;simp only[cA,nA];refine⟨fun vs H1=>H1=H'/\vs=[.bool (decide (0<n/\l.getD (n-1) 0=0))],d9 ⟨_,rfl⟩ (i0 (b:=decide ((n:Int)>0)) rfl (fun hb=> ?_) (fun hb=> ?_)),?_⟩
 ·have hb:=oDt hb;have e1:IntKind.i64.wrap ((n:Int)-1)=((n-1:Nat):Int):=HG (by omega) (by omega);refine Ey (k:= .i64) (j:=n-1) rfl rfl rfl rfl (fun _=>rfl) h (by omega) (by simp only[rxs,iv,e1]) (fun _=>rfl) fun p=>d9 ⟨_,rfl⟩ ⟨rfl,?_⟩;simp only[rxs,uv];congr 2;rw[Bool.eq_iff_iff];simp only[beq_iff_eq,decide_eq_true_eq];omega
 ·have hb:=oDf hb;refine⟨rfl,?_⟩;simp only[rxs];congr 2;rw[eq_comm,decide_eq_false_iff_not];omega
 rintro vs H1-⟨rfl,rfl⟩;simp only[cA,nA];refine d9 ⟨_,rfl⟩ (i0 rfl (fun hb=> ?_) (fun hb=> ?_))
 ·have hb:=oDt hb;have e1:IntKind.i64.wrap ((n:Int)-1)=((n-1:Nat):Int):=HG (by omega) (by omega);refine d9 ⟨_,rfl⟩ ⟨⟨n-1,?_,rfl,by omega,fun k hk=> ?_⟩,?_⟩
  ·simp only[rxs,iv,e1]
  ·rcases Nat.eq_or_lt_of_le hk with e|e
   ·rw[<-e];exact hb.2
   ·exact hz k (by omega)
  ·simp only[rxs,iv,e1];omega
 ·have hb:=oDf hb;have htm:Um (l.take n):=by
   rcases kC n with e|e
   ·subst e;exact Um.nil
   ·refine Um.of (n:=n-1) (by rw[cB];omega) ?_;rw[aB,List.getElem?_take,if_pos (by omega),<-aB];exact fun h0=>hb ⟨e,h0⟩
  have qW:=htm.pos;rw[HY hn hz,cB,cD hn]at qW;obtain⟨u,hu,hd⟩:=Es.take (vs:=[v,iv n]) (k:= .i64) (i:=n) h F5 rfl rfl hn;have hMu:Mu H1 u (ul l):=⟨l.take n,hd,htm,HY hn hz⟩;refine d9 ⟨_,rfl⟩ (i0 rfl (fun hb=> ?_) (fun hb=> ?_))
  ·subst hb;refine d9 ⟨_,rfl⟩ (r7 (hu.rds _) rfl (d9 hd.one (g8 rfl ⟨rfl,u,?_,?_⟩)))
   ·simp only[rxs,Bv,hd.cells,iv,rj];show Value.agg #[.bool (decide ((n:Int)>0)),u]=_;congr 4;rw[decide_eq_decide];show _↔ -(ul l:Int)<0;omega
   ·show Mu _ u (-(ul l:Int)).natAbs;rw[fW,cV];exact hMu
  ·subst hb;refine r7 (hu.rds _) rfl (d9 hd.one (g8 rfl ⟨rfl,u,?_,?_⟩))
   ·simp only[rxs,Bv,hd.cells,rj];show Value.agg #[.bool false,u]=_;congr 4
   ·exact hMu
theorem J1 {a b:List Nat} (ha:Eg a) (hb:Eg b) (ta:Um a) (tb:Um b) (h:a.length≠b.length):((a.length:Int)-b.length<0↔ul a<ul b)/\((a.length:Int)-b.length=0↔ul a=ul b):=by
 rcases Nat.lt_or_gt_of_ne h with h1|h1
 ·have:=Um.lt_of_len ha tb h1;omega
 ·have:=Um.lt_of_len hb ta h1;omega
theorem HZ {a b:List Nat} {va vb:Value} (ha:Es H va a) (hb:Es H vb b) (ta:Um a) (tb:Um b):Con prog 192 [va,vb] H fun u H'=>H'=H/\∃c:Int,u= .int .i64 c/\(c<0↔ul a<ul b)/\(c=0↔ul a=ul b):=by
 have wS:=ha.len;have yH:=hb.len;refine Aa mixed G0 (by kernel_rfl) rfl (Bm rfl rfl ha rfl (Bm rfl rfl hb rfl (d9 ⟨_,rfl⟩ (d9 ⟨_,rfl⟩ (i0 (b:=((a.length:Int) !=(b.length:Int))) rfl (fun h=> ?_) (fun h=> ?_))))))
 ·have h:a.length≠b.length:=by have:=bne_iff_ne.1 h;omega
  have e1:IntKind.i64.wrap ((a.length:Int)-(b.length:Int))=(a.length:Int)-(b.length:Int):=Ln (by omega) (by omega);refine Bm rfl rfl ha rfl (Bm rfl rfl hb rfl (d9 ⟨_,rfl⟩ (d9 ⟨_,rfl⟩ (g8 rfl ⟨rfl,_,?_,J1 ha.2 hb.2 ta tb h⟩))));simp only[rxs,iv,Bv,e1]
 have h:a.length=b.length:=by have:=bne_eq_false_iff_eq.1 h;omega
 have e1:IntKind.i64.wrap ((a.length:Int)-1)=(a.length:Int)-1:=Ln (by omega) (by omega);refine Bm rfl rfl ha rfl (d9 ⟨_,rfl⟩ ⟨fun vals H'=>∃i:Nat,vals=[.int .i64 0,.int .i64 ((i:Int)-1)]/\H'=H/\i<=a.length/\a.drop i=b.drop i,fun vals _=>(intOf (vals.getD 1 undef)+1).toNat,⟨a.length,?_,rfl,aN _,?_⟩,?_⟩)
 ·simp only[rxs,iv,e1]
 ·rw[gJ (aN _),gJ (by omega)]
 rintro vals H'-⟨i,rfl,rfl,hi,hd⟩;simp only[cA,nA];refine d9 ⟨_,rfl⟩ (i0 (b:=decide ((i:Int)-1≥0)) rfl (fun uG=> ?_) (fun uG=> ?_))
 ·have uG:=oDt uG;obtain⟨j,rfl⟩:∃j,i=j+1:=⟨i-1,by omega⟩;have ej:((j+1:Nat):Int)-1=(j:Int):=by omega
  rw[ej];have e2:IntKind.i64.wrap ((j:Int)-1)=(j:Int)-1:=Ln (by omega) (by omega);refine Ey (k:= .i64) (j:=j) rfl rfl rfl rfl (fun _=>rfl) ha (by omega) rfl (fun _=>rfl) fun p1=>Ey (k:= .i64) (j:=j) rfl rfl rfl rfl (fun _=>rfl) hb (by omega) rfl (fun _=>rfl) fun p2=> ?_;refine d9 ⟨_,rfl⟩ (d9 ⟨_,rfl⟩ (i0 (b:=decide (((a.getD j 0:Nat):Int)<((b.getD j 0:Nat):Int))) rfl (fun h1=> ?_) (fun h1=> ?_)))
  ·have h1:=oDt h1;have:=HF ha.2 hb.2 (show j<a.length by omega) (by omega) hd (by omega);exact g8 rfl ⟨rfl,-1,rfl,by omega,by omega⟩
  ·have h1:=oDf h1;refine Ey (k:= .i64) (j:=j) rfl rfl rfl rfl (fun _=>rfl) ha (by omega) rfl (fun _=>rfl) fun p3=>Ey (k:= .i64) (j:=j) rfl rfl rfl rfl (fun _=>rfl) hb (by omega) rfl (fun _=>rfl) fun p4=> ?_;refine d9 ⟨_,rfl⟩ (d9 ⟨_,rfl⟩ (i0 (b:=decide (((a.getD j 0:Nat):Int)>((b.getD j 0:Nat):Int))) rfl (fun h2=> ?_) (fun h2=> ?_)))
   ·have h2:=oDt h2;have:=HF hb.2 ha.2 (show j<b.length by omega) (by omega) hd.symm (by omega);exact g8 rfl ⟨rfl,1,rfl,by omega,by omega⟩
   ·have h2:=oDf h2;refine⟨⟨j,?_,rfl,by omega,?_⟩,?_⟩
    ·simp only[rxs,e2]
    ·rw[fk (show j<a.length by omega),fk (show j<b.length by omega),hd,show a.getD j 0=b.getD j 0 from by omega]
    ·simp only[rxs,e2];omega
 ·have uG:=oDf uG;have hi0:i=0:=by omega
  subst hi0;rw[dH,dH]at hd;exact g8 rfl ⟨rfl,0,rfl,by rw[hd];omega,by rw[hd];omega⟩
end
section
variable {H:PH} {a b:List Nat} {va vb:Value}
theorem J2 (ha:Es H va a) (hb:Es H vb b) (hA:a.length<=100000) (hB:b.length<=100000):Con prog 191 [va,vb] H fun u H'=>PH.le H H'/\∃l,Es H' u l/\ul l=ul a+ul b:=by
 refine Aa mixed G1 (by kernel_rfl) rfl (Bm rfl rfl ha rfl (Bm rfl rfl hb rfl (d9 ⟨_,rfl⟩ (d9 ⟨_,rfl⟩ ⟨fun vals H'=>H'=H/\∃(x y:List Nat) (vx vy:Value),vals=[vx,vy]/\Es H vx x/\Es H vy y/\x.length<=100000/\y.length<=x.length/\ul x+ul y=ul a+ul b,i0 (b:=decide ((a.length:Int)<(b.length:Int))) rfl (fun h=> ?_) (fun h=> ?_),?_⟩))))
 ·have h:=oDt h;exact⟨rfl,b,a,vb,va,rfl,hb,ha,hB,by omega,eI _ _⟩
 ·have h:=oDf h;exact⟨rfl,a,b,va,vb,rfl,ha,hb,hA,by omega,rfl⟩
 rintro vals H0-⟨rfl,x,y,vx,vy,rfl,hx,hy,hX,hyx,a5a⟩;simp only[cA,nA];have e0:IntKind.i64.wrap ((x.length:Int)+1)=((x.length+1:Nat):Int):=Ll (by omega);refine Bm rfl rfl hx rfl (d9 ⟨_,rfl⟩ (Yk (kl:= .i64) (kc:= .i64) (m:=x.length+1) rfl rfl rfl (by omega) (by simp only[rxs,iv,e0]) fun out H1 rF h1=> ?_));refine Bm rfl rfl (hx.mono rF) rfl ⟨fun vals H'=>∃(c i:Nat) (l:List Nat),vals=[.int .u64 (c:Nat),iv i]/\c<=1/\i<=x.length/\PH.le H0 H'/\Eo H0 H' out l/\l.length=x.length+1/\(∀k,i<=k->l.getD k 0=0)/\ul l+PW i*c=ul (x.take i)+ul (y.take i),fun vals _=>(x.length-intOf (vals.getD 1 undef)).toNat,⟨0,0,_,rfl,by omega,by omega,rF,h1,by simp,fun k _=>Yb _ k,?_⟩,?_⟩
 ·rw[Re];simp[ul]
 rintro vals H'-⟨c,i,l,rfl,hc,hi,pP,hO,xK,hz,hv⟩;simp only[cA,nA];have rZ:=hx.mono pP;have sL:=hy.mono pP;refine d9 ⟨_,rfl⟩ (d9 ⟨_,rfl⟩ (i0 (b:=decide ((i:Int)<x.length)) rfl (fun h=> ?_) (fun h=> ?_)))
 ·have h:i<x.length:=by have:=oDt h;omega
  have dx:=hx.2.at i;have dy:=hy.2.at i;have e1:IntKind.i64.wrap ((i:Int)+1)=((i+1:Nat):Int):=Ll (by omega);refine Ey (k:= .i64) (j:=i) rfl rfl rfl rfl (fun _=>rfl) rZ h rfl (fun _=>rfl) fun p=> ?_;refine Bm rfl rfl sL rfl (d9 ⟨_,rfl⟩ ⟨fun vals H2=>H2=H'/\vals=[uv (y.getD i 0)],i0 (b:=decide ((i:Int)<y.length)) rfl (fun h1=> ?_) (fun h1=> ?_),?_⟩)
  ·have h1:=oDt h1;exact Ey (k:= .i64) (j:=i) rfl rfl rfl rfl (fun _=>rfl) sL (by omega) rfl (fun _=>rfl) fun p=>⟨rfl,rfl⟩
  ·have h1:=oDf h1;refine⟨rfl,?_⟩;rw[Un (l:=y) (by omega)];rfl
  rintro vals H2-⟨rfl,rfl⟩;simp only[cA,nA];refine fg (tc (x.getD i 0) (y.getD i 0) c dx dy hc) rfl (d9 ⟨_,rfl,bU _⟩ (d9 ⟨_,rfl,bQ _⟩ ?_));obtain⟨s,hs⟩:∃s,s=(x.getD i 0+y.getD i 0+c)%18446744073709551616:=⟨_,rfl⟩;obtain⟨c',hc'⟩:∃c',c'=(x.getD i 0+y.getD i 0+c)/18446744073709551616:=⟨_,rfl⟩;have key:s+18446744073709551616*c'=x.getD i 0+y.getD i 0+c:=by omega
  rw[<-hs,<-hc'];refine Lr (k:= .i64) (j:=i) (d:=s) rfl rfl rfl rfl (fun _=>rfl) (fun _=>rfl) pP hO (by omega) (by omega) rfl (fun _=>rfl) rfl fun p u H3 vS h3 _=>⟨⟨c',i+1,_,?_,by omega,by omega,vS,h3,by rw[bD];exact xK,?_,?_⟩,?_⟩
  ·simp only[rxs,iv,e1]
  ·intro k hk;rw[Lh (by omega)];exact hz k (by omega)
  ·have k1:=Jv (l:=l) s (show i<l.length by omega);rw[hz i (aN _),fE,cZ]at k1;have k2:=congrArg (PW i* ·) key;simp only[cS]at k2;rw[Oh,Oh,k1,Ab,cH];omega
  ·simp only[rxs,iv,e1];omega
 ·have h:i=x.length:=by have:=oDf h;omega
  subst h;refine Bm rfl rfl rZ rfl ?_;refine Lr (k:= .i64) (j:=x.length) (d:=c) rfl rfl rfl rfl (fun _=>rfl) (fun _=>rfl) pP hO (by omega) (by omega) rfl (fun _=>rfl) rfl fun p u H3 vS h3 _=>g8 rfl ⟨vS,_,h3.es,?_⟩;have k1:=Jv (l:=l) c (show x.length<l.length by omega);rw[hz _ (aN _),fE,cZ]at k1;rw[k1,hv,aK (aN _),aK hyx,a5a]
theorem uk (ha:Es H va a) (hb:Es H vb b) (rL:ul b<=ul a) (hl:b.length<=a.length) (hA:a.length<=100000):Con prog 193 [va,vb] H fun u H'=>PH.le H H'/\∃l,Es H' u l/\ul l=ul a-ul b:=by
 refine Aa mixed G2 (by kernel_rfl) rfl (Bm rfl rfl ha rfl (Yk (kl:= .i64) (kc:= .i64) (m:=a.length) rfl rfl rfl (by omega) rfl fun out H1 rF h1=> ?_));refine Bm rfl rfl (ha.mono rF) rfl ⟨fun vals H'=>∃(c i:Nat) (l:List Nat),vals=[.int .u64 (c:Nat),iv i]/\c<=1/\i<=a.length/\PH.le H H'/\Eo H H' out l/\l.length=a.length/\(∀k,i<=k->l.getD k 0=0)/\ul l+ul (b.take i)=ul (a.take i)+PW i*c,fun vals _=>(a.length-intOf (vals.getD 1 undef)).toNat,⟨0,0,_,rfl,by omega,by omega,rF,h1,by simp,fun k _=>Yb _ k,?_⟩,?_⟩
 ·rw[Re];simp[ul]
 rintro vals H'-⟨c,i,l,rfl,hc,hi,pP,hO,xK,hz,hv⟩;simp only[cA,nA];have vA:=ha.mono pP;have rI:=hb.mono pP;refine d9 ⟨_,rfl⟩ (d9 ⟨_,rfl⟩ (i0 (b:=decide ((i:Int)<a.length)) rfl (fun h=> ?_) (fun h=> ?_)))
 ·have h:i<a.length:=by have:=oDt h;omega
  have dx:=ha.2.at i;have dy:=hb.2.at i;have e1:IntKind.i64.wrap ((i:Int)+1)=((i+1:Nat):Int):=Ll (by omega);refine Ey (k:= .i64) (j:=i) rfl rfl rfl rfl (fun _=>rfl) vA h rfl (fun _=>rfl) fun p=> ?_;refine Bm rfl rfl rI rfl (d9 ⟨_,rfl⟩ ⟨fun vals H2=>H2=H'/\vals=[uv (b.getD i 0)],i0 (b:=decide ((i:Int)<b.length)) rfl (fun h1=> ?_) (fun h1=> ?_),?_⟩)
  ·have h1:=oDt h1;exact Ey (k:= .i64) (j:=i) rfl rfl rfl rfl (fun _=>rfl) rI (by omega) rfl (fun _=>rfl) fun p=>⟨rfl,rfl⟩
  ·have h1:=oDf h1;refine⟨rfl,?_⟩;rw[Un (l:=b) (by omega)];rfl
  rintro vals H2-⟨rfl,rfl⟩;simp only[cA,nA];refine fg (GL (a.getD i 0) (b.getD i 0) c hc) rfl (d9 ⟨_,rfl,bU _⟩ (d9 ⟨_,rfl,bQ _⟩ ?_));obtain⟨s,hs⟩:∃s,s=(a.getD i 0+18446744073709551616-b.getD i 0-c)%18446744073709551616:=⟨_,rfl⟩;obtain⟨c',hc'⟩:∃c',c'=(if a.getD i 0<b.getD i 0+c then 1 else 0):=⟨_,rfl⟩;have sG:c'<=1:=by rw[hc'];split<;>omega
  have key:s+b.getD i 0+c=a.getD i 0+18446744073709551616*c':=by rw[hs,hc'];split<;>omega
  rw[<-hs,<-hc'];refine Lr (k:= .i64) (j:=i) (d:=s) rfl rfl rfl rfl (fun _=>rfl) (fun _=>rfl) pP hO (by omega) (by omega) rfl (fun _=>rfl) rfl fun p u H3 vS h3 _=>⟨⟨c',i+1,_,?_,by omega,by omega,vS,h3,by rw[bD];exact xK,?_,?_⟩,?_⟩
  ·simp only[rxs,iv,e1]
  ·intro k hk;rw[Lh (by omega)];exact hz k (by omega)
  ·have k1:=Jv (l:=l) s (show i<l.length by omega);rw[hz i (aN _),fE,cZ]at k1;have k2:=congrArg (PW i* ·) key;simp only[cS]at k2;rw[Oh,Oh,k1,Ab,cH];omega
  ·simp only[rxs,iv,e1];omega
 ·have h:i=a.length:=by have:=oDf h;omega
  subst h;rw[aK (aN _),aK hl]at hv;have pO:=Ik hO.2;rw[xK]at pO;have sH:c=0:=by
   rcases kC c with e|e
   ·exact e
   ·have:c=1:=by omega
    rw[this]at hv;omega
  rw[sH]at hv;exact g8 rfl ⟨pP,l,hO.es,by omega⟩
theorem J3 {x y:Nat} (hx:x<18446744073709551616) (hy:y<18446744073709551616):x*y<=18446744073709551615*18446744073709551615:=Nat.mul_le_mul (by omega) (by omega)
set_option maxHeartbeats 1000000 in
theorem J4 (ha:Es H va a) (hb:Es H vb b) (hA:a.length<=100000) (hB:b.length<=100000):Con prog 202 [va,vb] H fun u H'=>PH.le H H'/\∃l,Es H' u l/\ul l=ul a*ul b:=by
 have e0:IntKind.i64.wrap ((a.length:Int)+(b.length:Int))=((a.length+b.length:Nat):Int):=Yj (by omega);refine Aa mixed G3 (by kernel_rfl) rfl (Bm rfl rfl ha rfl (Bm rfl rfl hb rfl (d9 ⟨_,rfl⟩ (d9 ⟨_,rfl⟩ (Yk (kl:= .i64) (kc:= .i64) (m:=a.length+b.length) rfl rfl rfl (by omega) (by simp only[rxs,iv,e0]) fun out H1 rF h1=> ?_)))));refine Bm rfl rfl (ha.mono rF) rfl ⟨fun vals H'=>∃(i:Nat) (l:List Nat),vals=[iv i]/\i<=a.length/\PH.le H H'/\Eo H H' out l/\l.length=a.length+b.length/\(∀k,i+b.length<=k->l.getD k 0=0)/\ul l=ul (a.take i)*ul b,fun vals _=>(a.length-intOf (vals.getD 0 undef)).toNat,⟨0,_,rfl,by omega,rF,h1,by simp,fun k _=>Yb _ k,?_⟩,?_⟩
 ·rw[Re];simp[ul]
 rintro vals H'-⟨i,l,rfl,hi,pP,hO,xK,hz,hv⟩;simp only[cA,nA];have vA:=ha.mono pP;refine d9 ⟨_,rfl⟩ (d9 ⟨_,rfl⟩ (i0 (b:=decide ((i:Int)<a.length)) rfl (fun h=> ?_) (fun h=> ?_)))
 ·have h:i<a.length:=by have:=oDt h;omega
  have da:=ha.2.at i;refine Ey (k:= .i64) (j:=i) rfl rfl rfl rfl (fun _=>rfl) vA h rfl (fun _=>rfl) fun p0=> ?_;refine Bm rfl rfl (hb.mono pP) rfl ⟨fun vals H'=>∃(c j:Nat) (l:List Nat),vals=[.int .u64 (c:Nat),iv j]/\j<=b.length/\c<18446744073709551616/\PH.le H H'/\Eo H H' out l/\l.length=a.length+b.length/\(∀k,i+b.length<=k->l.getD k 0=0)/\ul l+PW (i+j)*c=ul (a.take i)*ul b+PW i*(a.getD i 0*ul (b.take j)),fun vals _=>(b.length-intOf (vals.getD 1 undef)).toNat,⟨0,0,l,rfl,by omega,by omega,pP,hO,xK,hz,?_⟩,?_⟩
  ·simp[ul,hv]
  rintro vals H2-⟨c,j,l2,rfl,hj,hc,a1f,hO2,a2u,yI,hv2⟩;simp only[cA,nA];have qR:=hb.mono a1f;refine d9 ⟨_,rfl⟩ (d9 ⟨_,rfl⟩ (i0 (b:=decide ((j:Int)<b.length)) rfl (fun xM=> ?_) (fun xM=> ?_)))
  ·have xM:j<b.length:=by have:=oDt xM;omega
   have db:=hb.2.at j;have dl:=hO2.2.at (i+j);have e1:IntKind.i64.wrap ((i:Int)+(j:Int))=((i+j:Nat):Int):=Yj (by omega);have e10:IntKind.i64.wrap ((j:Int)+1)=((j+1:Nat):Int):=Ll (by omega);have hm:=J3 da db;refine Ey (k:= .i64) (j:=j) rfl rfl rfl rfl (fun _=>rfl) qR xM rfl (fun _=>rfl) fun p1=> ?_;refine Am (D5 (a.getD i 0) (b.getD j 0) da db) rfl (d9 ⟨_,rfl,bU _⟩ (d9 ⟨_,rfl,bQ _⟩ ?_));generalize hP:a.getD i 0*b.getD j 0=P at hm;obtain⟨pW,hhi⟩:∃x,x=P/18446744073709551616:=⟨_,rfl⟩;obtain⟨lo,hlo⟩:∃x,x=P%18446744073709551616:=⟨_,rfl⟩;rw[<-hhi,<-hlo];refine Ey (k:= .i64) (j:=i+j) rfl rfl rfl rfl (fun _=>rfl) hO2.es (by omega) (by simp only[rxs,iv,e1]) (fun _=>rfl) fun p2=> ?_;generalize hd:l2.getD (i+j) 0=d at dl;refine fg (tc d lo 0 dl (by omega) (by omega)) rfl (d9 ⟨_,rfl,bU _⟩ (d9 ⟨_,rfl,bQ _⟩ ?_));obtain⟨s1,xB⟩:∃x,x=(d+lo+0)%18446744073709551616:=⟨_,rfl⟩;obtain⟨c1,sG⟩:∃x,x=(d+lo+0)/18446744073709551616:=⟨_,rfl⟩;rw[<-xB,<-sG];refine fg (tc s1 c 0 (by omega) hc (by omega)) rfl (d9 ⟨_,rfl,bU _⟩ (d9 ⟨_,rfl,bQ _⟩ ?_));obtain⟨s2,hs2⟩:∃x,x=(s1+c+0)%18446744073709551616:=⟨_,rfl⟩;obtain⟨c2,rD⟩:∃x,x=(s1+c+0)/18446744073709551616:=⟨_,rfl⟩;rw[<-hs2,<-rD];have key:s2+18446744073709551616*(pW+c1+c2)=c+d+P:=by omega
   have xN:pW+c1+c2<18446744073709551616:=by omega
   have e2:IntKind.u64.wrap ((pW:Int)+(c1:Int))=((pW+c1:Nat):Int):=by rw[<-nY];exact wu (by omega)
   have e3:IntKind.u64.wrap (((pW+c1:Nat):Int)+(c2:Int))=((pW+c1+c2:Nat):Int):=by rw[<-nY];exact wu (by omega)
   refine d9 ⟨_,rfl⟩ (d9 ⟨_,rfl⟩ (d9 ⟨_,rfl⟩ (Lr (k:= .i64) (j:=i+j) (d:=s2) rfl rfl rfl rfl (fun _=>rfl) (fun _=>rfl) a1f hO2 (by omega) (by omega) (by simp only[rxs,iv,e1]) (fun p=>rfl) rfl fun p u H3 vS h3 _=>⟨⟨pW+c1+c2,j+1,_,?_,by omega,xN,vS,h3,by rw[bD];exact a2u,?_,?_⟩,?_⟩)))
   ·simp only[rxs,iv,e2,e3,e10]
   ·intro k hk;rw[Lh (by omega)];exact yI k hk
   ·have k1:=Jv (l:=l2) s2 (show i+j<l2.length by omega);rw[hd]at k1;have k2:=congrArg (PW (i+j)* ·) key;simp only[cS]at k2;have k3:PW i*(a.getD i 0*(PW j*b.getD j 0))=PW (i+j)*P:=by
     rw[Uk,nF (a.getD i 0),hP,cH]
    rw[Oh,cS (a.getD i 0),cS (PW i),k3,<-Nat.add_assoc i j 1,Ab,cH];simp only[cS];omega
   ·simp only[rxs,iv,e10];omega
  ·have xM:j=b.length:=by have:=oDf xM;omega
   subst xM;have e1:IntKind.i64.wrap ((i:Int)+(b.length:Int))=((i+b.length:Nat):Int):=Yj (by omega);have e10:IntKind.i64.wrap ((i:Int)+1)=((i+1:Nat):Int):=Ll (by omega);refine Bm rfl rfl qR rfl (d9 ⟨_,rfl⟩ (Lr (k:= .i64) (j:=i+b.length) (d:=c) rfl rfl rfl rfl (fun _=>rfl) (fun _=>rfl) a1f hO2 (by omega) hc (by simp only[rxs,iv,e1]) (fun p=>rfl) rfl fun p u H3 vS h3 _=>⟨⟨i+1,_,?_,by omega,vS,h3,by rw[bD];exact a2u,?_,?_⟩,?_⟩))
   ·simp only[rxs,iv,e10]
   ·intro k hk;rw[Lh (by omega)];exact yI k (by omega)
   ·have k1:=Jv (l:=l2) c (show i+b.length<l2.length by omega);rw[yI _ (aN _),fE,cZ]at k1;rw[k1,hv2,aK (aN _),Oh,cP,cH]
   ·simp only[rxs,iv,e10];omega
 ·have h:i=a.length:=by have:=oDf h;omega
  rw[aK (by omega)]at hv;exact g8 rfl ⟨pP,l,hO.es,hv⟩
end
end Go.Proofs.Z
namespace Go.WD
open Go.RX
theorem Ym {l:List Nat} (h:Eg l) (j:Nat):dig (ul l) j=l.getD j 0:=by
 rcases eV j l.length with hj|hj
 ·have e1:=uf l (show j<=l.length by omega);have e2:=ue hj;have h1:=Ik (h.take j);rw[cB,cD (by omega)]at h1;have h2:=h.at j;unfold dig;rw[e1,Nat.add_mul_div_left _ _ (Ec j),fG h1,bM,e2,Nat.add_mul_mod_self_left,bR h2]
 ·rw[Un hj];refine tq (bK (Ik h) (Qv hj))
theorem Um.top {l:List Nat} (h:Um l) (hD:Eg l) {n:Nat} (hn:l.length=n+1):l.getD n 0≠0:=fun h0=>by
 have h1:=Ur (l:=l) (k:=n) (by omega);rw[aK (by omega),h0,fE,cZ]at h1;have h4:=Ik (hD.take n);rw[cB,cD (by omega)]at h4;have h3:l.length<=n:=h n (by omega);omega
theorem J5 {l:List Nat} (h:Um l) (hD:Eg l) {n:Nat} (hn:l.length=n+1):blen (ul l)=64*n+blen (l.getD n 0):=by
 have ht:=h.top hD hn;have pO:=Ik hD;rw[hn]at pO;have:=D1 (A:=ul l) (i:=n) (by rw[Ym hD];exact ht) pO
 rwa[Ym hD]at this
theorem J6 {q k:Nat} (h:2^(k+1) ∣ q):dig q (k/64)|||2^(k%64)=dig q (k/64)+2^(k%64):=by
 refine D4 ?_;obtain⟨m,rfl⟩:=h;have e:2^(k+1)*m/PW (k/64)=2^(k%64+1)*m:=by
  rw[Yh,show k+1=64*(k/64)+(k%64+1)from by omega,dG,cH,Nat.mul_div_cancel_left _ (iZ (by omega))]
 unfold dig;rw[e,Lj];have hd:2^(k%64+1) ∣ 2^64:=Nat.pow_dvd_pow 2 (by omega);exact(Nat.dvd_mod_iff hd).2 ⟨m,rfl⟩
theorem um (k:Nat):2^k=PW (k/64)*2^(k%64):=by
 rw[Yh,<-dG,show 64*(k/64)+k%64=k from by omega]
theorem ut {r:Nat} (h:r<64):2^r<18446744073709551616:=by
 rw[Lj];exact Nat.pow_lt_pow_right (by omega) h
end Go.WD
namespace Go.Proofs.Z
open Go.Proofs.Tryz
open Go.RowKit Go.RX Go.WD
theorem Eo.frame {Hr H Hr' H':PH} {v:Value} {l:List Nat} (h:Eo Hr H v l) (hk:∀k ob,H k=some ob->Hr k=none->Hr' k=none/\H' k=some ob):Eo Hr' H' v l:=⟨h.1.frame hk,h.2⟩
theorem J7 (d r:Nat) (h:r<=64):IntKind.u64.wrap ((d:Int)*2^min r (IntKind.bits .u64))=((d*2^r%18446744073709551616:Nat):Int):=by
 rw[show min r (IntKind.bits .u64)=r from cD h,show(d:Int)*2^r=((d*2^r:Nat):Int)from by rw[Int.natCast_mul,Int.natCast_pow];rfl,IntKind.wrap_u64];omega
section
variable {H:PH} {a b:List Nat} {va vb:Value}
theorem IA (ha:Es H va a) (ta:Um a) (hA:a.length<=1000000):Con prog 238 [va] H fun u H'=>H'=H/\u= .int .i64 (blen (ul a):Nat):=by
 refine Aa mixed G4 (by kernel_rfl) rfl (Bm rfl rfl ha rfl (d9 ⟨_,rfl⟩ (i0 (b:=((a.length:Int)==0)) rfl (fun h=> ?_) (fun h=> ?_))))
 ·have h:=beq_iff_eq.1 h;obtain rfl:a=[]:=aZ (by omega);exact g8 rfl ⟨rfl,rfl⟩
 ·have h:=beq_eq_false_iff_ne.1 h;obtain⟨n,hn⟩:∃n,a.length=n+1:=⟨a.length-1,by omega⟩;have e1:IntKind.i64.wrap ((a.length:Int)-1)=((n:Nat):Int):=by rw[Ln (by omega) (by omega)];omega
  have dt:=ha.2.at n;have vY:=blen_le (x:=a.getD n 0) (k:=64) dt;refine Bm rfl rfl ha rfl (d9 ⟨_,rfl⟩ (Bm rfl rfl ha rfl (d9 ⟨_,rfl⟩ ?_)));refine Ey (k:= .i64) (j:=n) rfl rfl rfl rfl (fun _=>rfl) ha (by omega) (by simp only[rxs,iv,e1]) (fun _=>rfl) fun p=>Am (HE _ dt) rfl (d9 ⟨_,rfl⟩ (g8 ?_ ⟨rfl,rfl⟩));simp only[cG,bV,rxs,iv,Bv];rw[J5 ta ha.2 hn];congr 1;rw[IntKind.wrap_i64,IntKind.wrap_i64];omega
set_option maxHeartbeats 1000000 in
theorem J8 (k:Nat) (ha:Es H va a) (hA:a.length<=100000) (hk:k<=20000000):Con prog 239 [va,.int .i64 (k:Nat)] H fun u H'=>PH.le H H'/\Mu H' u (ul a*2^k):=by
 obtain⟨q,hq⟩:∃q,q=k/64:=⟨_,rfl⟩;obtain⟨r,hr⟩:∃r,r=k%64:=⟨_,rfl⟩;have a2v:r<64:=by omega
 have hkq:k=64*q+r:=by omega
 have eq1:IntKind.i64.wrap ((k:Int).tdiv 64)=((q:Nat):Int):=by rw[hq];exact HO k (by omega)
 have er1:(k:Int).tmod 64=((r:Nat):Int):=by rw[hr];exact HQ k
 have e0:IntKind.i64.wrap ((a.length:Int)+(q:Int))=((a.length+q:Nat):Int):=Yj (by omega);have e00:IntKind.i64.wrap (((a.length+q:Nat):Int)+1)=((a.length+q+1:Nat):Int):=Ll (by omega);have yJ:2^k=PW q*2^r:=by rw[hq,hr];exact um k
 refine Aa mixed G5 (by kernel_rfl) rfl (Bm rfl rfl ha rfl (d9 ⟨_,rfl⟩ (d9 ⟨_,rfl⟩ (Yk (kl:= .i64) (kc:= .i64) (m:=a.length+q+1) rfl rfl rfl (by omega) (by simp only[rxs,iv,eq1,e0,e00]) fun out H1 rF h1=> ?_))));refine Bm rfl rfl (ha.mono rF) rfl ⟨fun vals H'=>∃(i:Nat) (l:List Nat),vals=[iv i]/\i<=a.length/\PH.le H H'/\Eo H H' out l/\l.length=a.length+q+1/\(∀k,i+q<k->l.getD k 0=0)/\l.getD (i+q) 0<2^r/\ul l=ul (a.take i)*2^k,fun vals _=>(a.length-intOf (vals.getD 0 undef)).toNat,⟨0,_,rfl,by omega,rF,h1,by simp,fun k _=>Yb _ k,?_,?_⟩,?_⟩
 ·rw[Yb];exact iZ (by omega)
 ·rw[Re];simp[ul]
 rintro vals H'-⟨i,l,rfl,hi,pP,hO,xK,hz,xO,hv⟩;simp only[cA,nA];have vA:=ha.mono pP;refine d9 ⟨_,rfl⟩ (d9 ⟨_,rfl⟩ (i0 (b:=decide ((i:Int)<a.length)) rfl (fun h=> ?_) (fun h=> ?_)))
 ·have h:i<a.length:=by have:=oDt h;omega
  have da:=ha.2.at i;have e1:IntKind.i64.wrap ((i:Int)+(q:Int))=((i+q:Nat):Int):=Yj (by omega);have e2:IntKind.i64.wrap (((i+q:Nat):Int)+1)=((i+q+1:Nat):Int):=Ll (by omega);have e10:IntKind.i64.wrap ((i:Int)+1)=((i+1:Nat):Int):=Ll (by omega);refine Ey (k:= .i64) (j:=i) rfl rfl rfl rfl (fun _=>rfl) vA h rfl (fun _=>rfl) fun p0=> ?_;refine Ey (k:= .i64) (j:=i+q) rfl rfl rfl rfl (fun _=>rfl) hO.es (by omega) (by simp only[rxs,iv,eq1,e1]) (fun _=>rfl) fun p1=> ?_;generalize hx:a.getD i 0=x at da;generalize hc:l.getD (i+q) 0=c at xO;have xP:c<18446744073709551616:=lR xO (ut a2v);have vP:c|||(x*2^r%18446744073709551616)=(x%2^(64-r))*2^r+c:=by
   rw[D3 x (by omega),Nat.or_comm,GZ xO]
  have hw0:(x%2^(64-r))*2^r+c<18446744073709551616:=by
   rw[<-vP,Lj];exact kG (by rw[<-Lj];exact xP) (by rw[<-Lj];exact bO _ (by omega))
  have e3:=J7 x r (by omega);have e4:=tu c (x*2^r%18446744073709551616) xP (bO _ (by omega));rw[vP]at e4;have a1g:=ft (r:=r) (by omega);have hdm:=iL x (2^(64-r));refine d9 ⟨_,rfl⟩ (d9 ?_ (d9 ⟨_,rfl⟩ (Lr (k:= .i64) (j:=i+q) (d:=(x%2^(64-r))*2^r+c) rfl rfl rfl rfl (fun _=>rfl) (fun _=>rfl) pP hO (by omega) hw0 (by simp only[rxs,iv,eq1,e1]) (fun p=> ?_) rfl fun p2 u2 H2 tI h2 _=> ?_)))
  ·show(0:Int)<=(k:Int).tmod 64;rw[er1];omega
  ·simp only[rxs,uv,er1,bB,e3,e4]
  simp only[cA,nA];have k1:=Jv (l:=l) ((x%2^(64-r))*2^r+c) (show i+q<l.length by omega);rw[hc]at k1;have hP:PW i*x*2^k=PW (i+q)*(2^r*x):=by
   rw[yJ,Uk,cH (PW i),nF x,<-cH (PW i),cE x]
  refine i0 (b:=decide (((r:Nat):Int)>0)) ?_ (fun h0=> ?_) (fun h0=> ?_)
  ·show Value.bool (decide ((k:Int).tmod 64>0))=_;rw[er1]
  ·have h0:=oDt h0;have e5:IntKind.i64.wrap (64-((r:Nat):Int))=((64-r:Nat):Int):=by rw[Ln (by omega) (by omega)];omega
   have e6:=Up x (64-r) (by omega);have hw1:=HA da (r:=r) (by omega);refine d9 ?_ (Lr (k:= .i64) (j:=i+q+1) (d:=x/2^(64-r)) rfl rfl rfl rfl (fun _=>rfl) (fun _=>rfl) tI h2 (by rw[bD];omega) (lR hw1 (ut a2v)) (by simp only[rxs,iv,eq1,e1,e2]) (fun p=> ?_) rfl fun p3 u3 H3 vS h3 _=>⟨⟨i+1,_,?_,by omega,vS,h3,by rw[bD,bD];exact xK,?_,?_,?_⟩,?_⟩)
   ·show(0:Int)<=IntKind.i64.wrap (64-(k:Int).tmod 64);rw[er1,e5];omega
   ·simp only[rxs,uv,er1,e5,bB,e6]
   ·simp only[rxs,iv,e10]
   ·intro j hj;rw[Lh (by omega),Lh (by omega)];exact hz j (by omega)
   ·rw[show i+1+q=i+q+1 from by omega,GI (by rw[bD];omega)];exact hw1
   ·have k2:=Jv (l:=l.set (i+q) ((x%2^(64-r))*2^r+c)) (x/2^(64-r)) (show i+q+1<(l.set (i+q) ((x%2^(64-r))*2^r+c)).length by rw[bD];omega);rw[Lh (by omega),hz (i+q+1) (by omega),fE,cZ]at k2;rw[k2,Oh,hx,cP,hP,<-hv];have k3:2^r*x=(x%2^(64-r))*2^r+18446744073709551616*(x/2^(64-r)):=by
     rw[a1g];generalize x/2^(64-r)=X at hdm;generalize x%2^(64-r)=Y at hdm;generalize 2^(64-r)=S at hdm;rw[<-hdm,cS,cE (2^r) Y,<-cH,cE (2^r) S];omega
    rw[k3,Ab];rw[cS]at k1;rw[cS,cH];omega
   ·simp only[rxs,iv,e10];omega
  ·have h0:=oDf h0;have hr0:r=0:=by omega
   rw[hr0]at xO k1 hP h2 hdm;rw[jX]at xO;have wQ:c=0:=by omega
   rw[Nat.sub_zero,<-Lj,bR da,jX,eS]at k1 h2;refine⟨⟨i+1,_,?_,by omega,tI,h2,by rw[bD];exact xK,?_,?_,?_⟩,?_⟩
   ·simp only[rxs,iv,e10]
   ·intro j hj;rw[Lh (by omega)];exact hz j (by omega)
   ·rw[Lh (by omega),hz (i+1+q) (by omega)];exact iZ (by omega)
   ·rw[Oh,hx,cP,hP,<-hv,jX,dS];rw[wQ,fE,cZ,cZ]at k1;rw[wQ,cZ];exact k1
   ·simp only[rxs,iv,e10];omega
 ·have h:i=a.length:=by have:=oDf h;omega
  rw[aK (by omega)]at hv;refine i6 (Iw false hO.es) rfl ?_;rintro u H2 ⟨rfl,w,rfl,hw⟩;refine⟨fun h=>(nomatch h),d9 ⟨_,rfl,rfl⟩ (g8 rfl ⟨pP,?_⟩)⟩;have e:(sn false (ul l)).natAbs=ul l:=rfl;rw[e,hv]at hw;exact hw
end
open Go.RowKit Go.RX Go.WD
section
variable {H:PH} {a b:List Nat} {va vb:Value}
theorem J9 {X Q R d s R' c:Nat} (h1:X=Q*d+R) (h2:s*d+R'=R*18446744073709551616+c):c+18446744073709551616*X=(s+18446744073709551616*Q)*d+R':=by
 rw[cP,cH,h1];generalize Q*d=Y;generalize s*d=Z at h2;omega
set_option maxHeartbeats 1000000 in
theorem IB (ha:Es H va a) (hb:Es H vb b) (ta:Um a) (tb:Um b) (sH:0<ul b) (hA:a.length<=50000) (hB:b.length<=50000):
  Con prog 200 [va,vb] H fun u H'=>PH.le H H'/\∃q r lq,u= .tuple #[q,r]/\Es H' q lq/\ul lq=ul a/ul b/\Mu H' r (ul a%ul b):=by
 refine Aa mixed G6 (by kernel_rfl) rfl (Bm rfl rfl ha rfl (Yk (kl:= .i64) (kc:= .i64) (m:=a.length) rfl rfl rfl (by omega) rfl fun vq H1 rF h1=> ?_));refine Bm rfl rfl (hb.mono rF) rfl (d9 ⟨_,rfl⟩ (i0 (b:=((b.length:Int)==1)) rfl (fun h=> ?_) (fun h=> ?_)))
 ·have h:b.length=1:=by have:=beq_iff_eq.1 h;omega
  obtain⟨d,rfl⟩:∃d,b=[d]:=by
   match b,h with
   |[d],_=>exact⟨d,rfl⟩
  rw[ud]at sH⊢;have hd:d<18446744073709551616:=hb.2.at 0;have e0:IntKind.i64.wrap ((a.length:Int)-1)=(a.length:Int)-1:=Ln (by omega) (by omega);refine Bm rfl rfl (ha.mono rF) rfl (d9 ⟨_,rfl⟩ ⟨fun vals H'=>∃(i R:Nat) (lq:List Nat),vals=[.int .u64 (R:Nat),.int .i64 ((i:Int)-1)]/\i<=a.length/\PH.le H H'/\Eo H H' vq lq/\lq.length=a.length/\R<d/\ul (a.drop i)=ul (lq.drop i)*d+R,fun vals _=>(intOf (vals.getD 1 undef)+1).toNat,⟨a.length,0,_,?_,aN _,rF,h1,by simp,sH,?_⟩,?_⟩)
  ·simp only[cG,bV,rxs,iv,e0];rfl
  ·rw[gJ (aN _),gJ (by simp)];simp[ul]
  rintro vals H'-⟨i,R,lq,rfl,hi,pP,hO,xK,hR,hv⟩;simp only[cA,nA];refine d9 ⟨_,rfl⟩ (i0 (b:=decide ((i:Int)-1≥0)) rfl (fun uG=> ?_) (fun uG=> ?_))
  ·have uG:=oDt uG;obtain⟨j,rfl⟩:∃j,i=j+1:=⟨i-1,by omega⟩;have ej:((j+1:Nat):Int)-1=(j:Int):=by omega
   rw[ej];have e2:IntKind.i64.wrap ((j:Int)-1)=(j:Int)-1:=Ln (by omega) (by omega);have da:=ha.2.at j;refine Ey (k:= .i64) (j:=j) rfl rfl rfl rfl (fun _=>rfl) (ha.mono pP) (by omega) rfl (fun _=>rfl) fun p1=> ?_;refine Ey (k:= .i64) (j:=0) rfl rfl rfl rfl (fun _=>rfl) (hb.mono pP) (by simp) rfl (fun _=>rfl) fun p2=> ?_;refine Am (E7 R (a.getD j 0) d hR da hd) rfl (d9 ⟨_,rfl,bU _⟩ (d9 ⟨_,rfl,bQ _⟩ ?_));obtain⟨s,hs⟩:∃s,s=(R*18446744073709551616+a.getD j 0)/d:=⟨_,rfl⟩;obtain⟨R',hR'⟩:∃s,s=(R*18446744073709551616+a.getD j 0)%d:=⟨_,rfl⟩;have key:s*d+R'=R*18446744073709551616+a.getD j 0:=by
    rw[hs,hR',cE];exact iL _ _
   have a1b:s<18446744073709551616:=by
    rw[hs,Nat.div_lt_iff_lt_mul sH];have:=dX 18446744073709551616 (show R+1<=d from hR);rw[cP,dS]at this;rw[cE 18446744073709551616 d];omega
   have hRd:R'<d:=by rw[hR'];exact bO _ sH
   rw[<-hs,<-hR'];refine Lr (k:= .i64) (j:=j) (d:=s) rfl rfl rfl rfl (fun _=>rfl) (fun _=>rfl) pP hO (by omega) a1b rfl (fun _=>rfl) rfl fun p u H3 vS h3 _=>⟨⟨j,R',_,?_,by omega,vS,h3,by rw[bD];exact xK,hRd,?_⟩,?_⟩
   ·simp only[rxs,e2]
   ·rw[ue (l:=a) (show j<a.length by omega),ue (l:=lq.set j s) (by rw[bD];omega),GI (by omega),A1 (by omega)];exact J9 hv key
   ·simp only[rxs,e2];omega
  ·have uG:=oDf uG;have hi0:i=0:=by omega
   subst hi0;rw[dH,dH]at hv;refine HJ (d:=R) rfl rfl (by omega) rfl fun vr H2 tI h2=> ?_;refine i6 (Iw false h2.es) rfl ?_;rintro u H3 ⟨rfl,w,rfl,hw⟩;have e3:(sn false (ul [R])).natAbs=R:=by rw[ud];rfl
   rw[e3]at hw;refine⟨fun h=>(nomatch h),d9 ⟨_,rfl,rfl⟩ (g8 rfl ⟨pP.trans tI,vq,w,lq,rfl,(hO.mono tI).es,?_,?_⟩)⟩
   ·rw[hv,eI,lY _ _ sH,fG hR,bM]
   ·rw[hv,eI,kW,bR hR];exact hw
 ·have lA:blen (ul a)<=64*a.length:=HS (Ik ha.2);have lB:blen (ul b)<=64*b.length:=HS (Ik hb.2);obtain⟨p1,p2⟩:=Yg (x:=ul b) (by omega);refine i6 (IA (ha.mono rF) ta (by omega)) rfl ?_;rintro _ H2 ⟨rfl,rfl⟩;simp only[cA,nA];refine⟨fun h=>(nomatch h),i6 (IA (hb.mono rF) tb (by omega)) rfl ?_⟩;rintro _ H3 ⟨rfl,rfl⟩;simp only[cA,nA];have e0:IntKind.i64.wrap ((blen (ul a):Int)-(blen (ul b):Int))=(blen (ul a):Int)-(blen (ul b):Int):=Ln (by omega) (by omega);refine⟨fun h=>(nomatch h),d9 ⟨_,rfl⟩ (d9 ⟨_,rfl⟩ ⟨fun vals H'=>∃(t:Int) (r:Nat) (vr:Value) (Hr:PH) (lq:List Nat),vals=[vr,.int .i64 t]/\ -10000000<=t/\t<=10000000/\PH.le H Hr/\PH.le Hr H'/\Eo Hr H' vq lq/\lq.length=a.length/\Mu Hr vr r/\ul a=ul lq*ul b+r/\((t<0/\r<ul b)\/(0<=t/\r<ul b*2^(t.toNat+1)/\2^(t.toNat+1) ∣ ul lq/\t.toNat+blen (ul b)<=blen (ul a))),fun vals _=>(intOf (vals.getD 1 undef)+1).toNat,⟨(blen (ul a):Int)-(blen (ul b):Int),ul a,va,H,_,?_,by omega,by omega,PH.le.refl _,rF,h1,by simp,⟨a,ha,ta,rfl⟩,?_,?_⟩,?_⟩)⟩
  ·simp only[rxs,e0]
  ·rw[Re,Nat.zero_mul,bM]
  ·have hlA:=Yf (ul a);by_cases pO:blen (ul a)<blen (ul b)
   ·left;refine⟨by omega,?_⟩;have:2^blen (ul a)<=2^(blen (ul b)-1):=Nat.pow_le_pow_right (by omega) (by omega);omega
   ·right;refine⟨by omega,?_,by rw[Re];exact Nat.dvd_zero _,by omega⟩;rw[show((blen (ul a):Int)-(blen (ul b):Int)).toNat+1=blen (ul a)-blen (ul b)+1 from by omega];have h3:=dX (2^(blen (ul a)-blen (ul b)+1)) p2;rw[<-dG,show blen (ul b)-1+(blen (ul a)-blen (ul b)+1)=blen (ul a)from by omega]at h3;omega
  rintro vals H'-⟨t,r,vr,Hr,lq,rfl,ht1,ht2,pP,a1h,hq,hlq,zE,hqr,rT⟩;simp only[cA,nA];refine d9 ⟨_,rfl⟩ (i0 (b:=decide (t≥0)) rfl (fun ht=> ?_) (fun ht=> ?_))
  ·have ht:=oDt ht;obtain⟨k,rfl⟩:∃k:Nat,t=(k:Int):=⟨t.toNat,by omega⟩;rw[bB]at rT;obtain⟨_,hr,hdv,hk⟩:=rT.resolve_left (by omega);have e1:IntKind.i64.wrap ((k:Int)-1)=(k:Int)-1:=Ln (by omega) (by omega);have hQ:=HO k (by omega);have hR:=HQ k;have yJ:2^(k+1)=2*2^k:=by rw[Nat.pow_succ,cE]
   have hrA:r<=ul a:=by omega
   have a0l:∀(q' r':Nat),r'<ul b*2^k->2^k ∣ q'->(((k:Int)-1<0/\r'<ul b)\/(0<=(k:Int)-1/\r'<ul b*2^(((k:Int)-1).toNat+1)/\2^(((k:Int)-1).toNat+1) ∣ q'/\((k:Int)-1).toNat+blen (ul b)<=blen (ul a))):=fun q' r' g2 g3=>by
    by_cases hk0:k=0
    ·left;subst hk0;rw[jX,eS]at g2;exact⟨by omega,g2⟩
    ·right;rw[show((k:Int)-1).toNat+1=k from by omega];exact⟨by omega,g2,g3,by omega⟩
   refine i6 ((J8 k (hb.mono pP) (by omega) (by omega)).frame a1h) rfl ?_;rintro vt H2 ⟨Hr',⟨s1,s2⟩,s3,s4⟩;have vM:=hq.frame s4;obtain⟨lt,dt,tt,vt'⟩:=s2;obtain⟨lr,dr,tr,vr'⟩:=id zE;refine⟨fun h=>(nomatch h),i6 (HZ ((dr.mono s1).mono s3) (dt.mono s3) tr tt) rfl ?_⟩;rintro c H3 ⟨rfl,c,rfl,sG,rD⟩;rw[vr',vt']at sG rD;refine⟨fun h=>(nomatch h),d9 ⟨_,rfl⟩ (i0 (b:=decide (c≥0)) rfl (fun hc=> ?_) (fun hc=> ?_))⟩
   ·have hc:=oDt hc;have hge:ul b*2^k<=r:=by omega
    have llr:lr.length<=a.length:=Um.len_le tr ha.2 (by omega);refine i6 ((uk (dr.mono s1) dt (by omega) (Um.len_le tt dr.2 (by omega)) (by omega)).frame s3) rfl ?_;rintro vk H4 ⟨Hr2,⟨t1,lk,dk,vk'⟩,t3,t4⟩;have xQ:=vM.frame t4;refine⟨fun h=>(nomatch h),i6 ((Iw false dk).frame t3) rfl ?_⟩;rintro u H5 ⟨Hr3,⟨e3,w,rfl,hw⟩,w3,w4⟩;have e3:=e3.symm;subst e3;have yK:=xQ.frame w4;have ew:(sn false (ul lk)).natAbs=r-ul b*2^k:=by rw[vk',vr',vt'];rfl
    rw[ew]at hw;simp only[cA,nA];have hkl:k/64<lq.length:=by rw[hlq];omega
    have dq:=yK.2.at (k/64);have a5b:=Ym yK.2 (k/64);have xR:=J6 hdv;rw[a5b]at xR;have wG:2^(k%64)<18446744073709551616:=ut (bO _ (by omega));have vP:=tu (lq.getD (k/64) 0) (2^(k%64)) dq wG;rw[xR]at vP;have qQ:=E8 (k%64) (bO _ (by omega));have tY:lq.getD (k/64) 0+2^(k%64)<18446744073709551616:=by
     rw[<-xR,Lj];exact kG dq wG
    refine⟨fun h=>(nomatch h),d9 ⟨_,rfl,rfl⟩ (Ey (k:= .i64) (j:=k/64) rfl rfl rfl rfl (fun _=>rfl) yK.es hkl (by simp only[rxs,hQ]) (fun _=>rfl) fun p=> ?_)⟩;refine d9 ?_ (d9 ⟨_,rfl⟩ (Lr (k:= .i64) (j:=k/64) (d:=lq.getD (k/64) 0+2^(k%64)) rfl rfl rfl rfl (fun _=>rfl) (fun _=>rfl) w3 yK hkl tY (by simp only[rxs,hQ]) (fun p=> ?_) rfl fun p2 u2 H6 hl6 h6 _=>⟨⟨(k:Int)-1,r-ul b*2^k,w,Hr2,_,?_,by omega,by omega,pP.trans (s1.trans t1),hl6,h6,by rw[bD];exact hlq,hw,?_,?_⟩,?_⟩))
    ·show(0:Int)<=(k:Int).tmod 64;rw[hR];omega
    ·simp only[rxs,uv,hR,qQ,vP]
    ·simp only[rxs,e1];rfl
    ·have k1:=Jv (l:=lq) (lq.getD (k/64) 0+2^(k%64)) hkl;rw[cS,<-um k]at k1;have k2:ul (lq.set (k/64) (lq.getD (k/64) 0+2^(k%64)))=ul lq+2^k:=by omega
     rw[k2,cP,cE (2^k)];omega
    ·have k1:=Jv (l:=lq) (lq.getD (k/64) 0+2^(k%64)) hkl;rw[cS,<-um k]at k1;have k2:ul (lq.set (k/64) (lq.getD (k/64) 0+2^(k%64)))=ul lq+2^k:=by omega
     rw[k2];refine a0l _ _ ?_ ((Nat.dvd_add_right (oM ⟨2,by rw[yJ,cE]⟩ hdv)).2 (Nat.dvd_refl _));rw[yJ,<-cH,cE (ul b) 2,cH]at hr;omega
    ·simp only[rxs,e1];omega
   ·have hc:=oDf hc;refine⟨⟨(k:Int)-1,r,vr,Hr',lq,?_,by omega,by omega,pP.trans s1,s3,vM,hlq,zE.mono s1,hqr,a0l _ _ (by omega) (oM ⟨2,by rw[yJ,cE]⟩ hdv)⟩,?_⟩
    ·simp only[rxs,e1]
    ·simp only[rxs,e1];omega
  ·have ht:=oDf ht;obtain⟨_,hr⟩:=rT.resolve_right (by omega);refine g8 rfl ⟨pP.trans a1h,vq,vr,lq,rfl,hq.es,?_,?_⟩
   ·rw[hqr,eI,lY _ _ sH,fG hr,bM]
   ·rw[hqr,eI,kW,bR hr];exact zE.mono a1h
end
open Go.RowKit Go.RX Go.WD
theorem IC:∀{a b:List Nat},a.map uv=b.map uv->a=b
 |[],[],_=>rfl
 |[],_::_,h=>by simp at h
 |_::_,[],h=>by simp at h
 |x::a,y::b,h=>by
  simp only[aM,List.cons.injEq,uv,kQ,true_and]at h;rw[IC h.2];have:=h.1;congr 1;omega
theorem Mu.uniq {H:PH} {v:Value} {m n:Nat} (h:Mu H v m) (k:Mu H v n):m=n:=by
 obtain⟨l,⟨⟨_,a,c,e,_,_,h1⟩,_⟩,_,rfl⟩:=h;obtain⟨l',⟨⟨_,a',c',e',_,_,h2⟩,_⟩,_,rfl⟩:=k;rw[e,Value.slice.injEq]at e';obtain⟨rfl,hl,rfl⟩:=e';congr 1;rcases h1 with h1|⟨b,o,cs,T,fz,h3,h4,h5⟩
 ·rw[aZ h1,aZ (show l'.length=0 by omega)]
 ·rcases h2 with h2|⟨b',o',cs',T',fz',h3',h4',h5'⟩
  ·rw[aZ h2,aZ (show l.length=0 by omega)]
  ·rw[h3]at h3';simp only[aD,Addr.mk.injEq,and_true]at h3';obtain⟨rfl,rfl⟩:=h3';rw[h4]at h4';simp only[aD,Obj.cells.injEq]at h4';obtain⟨rfl,rfl,rfl⟩:=h4';rw[hl]at h5;exact IC (h5.symm.trans h5')
open Classical in
noncomputable def Yn (H:PH) (v:Value):Nat:=if h:∃n,Mu H v n then h.choose else 0
theorem ID {H:PH} {v:Value} {n:Nat} (h:Mu H v n):Yn H v=n:=by
 have:∃n,Mu H v n:=⟨n,h⟩;unfold Yn;rw[dif_pos this];exact this.choose_spec.uniq h
theorem Oi {l:List Nat} {n:Nat} (t:Um l) (hv:ul l=n) (h:n<BP 10000):l.length<=5000:=t _ (by rw[hv,<-su];exact h)
section
variable {H:PH} {v x y:Value} {z p q:Int}
theorem uu {w:Value} {n:Nat} (h:Mu H w n):Lw H (.agg #[.bool false,w]) (n:Int):=
 ⟨w,by rw[decide_eq_false (by omega)],by rw[cV];exact h⟩
theorem uw (b:Bool) {w:Value} {n:Nat} (h:Mu H w n):Value.agg ((Value.bool b).cells++w.cells)= .agg #[.bool b,w]:=by
 rw[h.one.1];rfl
theorem gb (h:Lw H v z):Con prog 131 [v] H fun u H'=>H'=H/\Lw H u (-z):=by
 have hrq:=h.rq;obtain⟨w,rfl,l,hd,ht,hv⟩:=h;refine Aa mixed G7 (by kernel_rfl) rfl (d9 hrq (d9 ⟨_,rfl⟩ (i6 (Iw (!decide (z<0)) hd) rfl ?_)));rintro u H' ⟨rfl,hu⟩;rw[hv,I5]at hu;have hr:=hu.rq;obtain⟨w',rfl,sW⟩:=hu;exact⟨fun h=>(nomatch h),d9 hr (g8 rfl ⟨rfl,w',rfl,sW⟩)⟩
theorem Yo (hx:Lw H x p) (hy:Lw H y q) (hp:Lm p) (hq:Lm q):Con prog 124 [x,y] H fun u H'=>PH.le H H'/\Lw H' u (p+q):=by
 have r1:=hx.rq;have r2:=hy.rq;obtain⟨wx,rfl,a,da,ta,va⟩:=hx;obtain⟨wy,rfl,b,db,tb,vb⟩:=hy;have la:=Oi ta va hp;have lb:=Oi tb vb hq;refine Aa mixed G8 (by kernel_rfl) rfl (d9 r1 (d9 r2 (d9 ⟨_,rfl⟩ (d9 ⟨_,rfl⟩ (i0 (b:=(decide (p<0)==decide (q<0))) ?_ (fun h=> ?_) (fun h=> ?_))))))
 ·show Value.bool (false !=(decide (p<0)==decide (q<0)))=_;rw[Bool.false_bne]
 ·refine i6 (J2 da db (by omega) (by omega)) rfl ?_;rintro u H1 ⟨rF,l,hd,hv⟩;refine⟨fun _=>rF,i6 (Iw (decide (p<0)) hd) rfl ?_⟩;rintro u2 H2 ⟨rfl,hu⟩;rw[hv,va,vb,I7 h]at hu;have hr:=hu.rq;obtain⟨w',rfl,sW⟩:=hu;exact⟨fun _=>PH.le.refl _,d9 hr (g8 rfl ⟨rF,w',rfl,sW⟩)⟩
 ·refine i6 (HZ da db ta tb) rfl ?_;rintro c H1 ⟨rfl,c,rfl,sG,rD⟩;rw[va,vb]at sG rD;refine⟨fun h=>(nomatch h),d9 ⟨_,rfl⟩ (i0 (b:=decide (c<0)) rfl (fun hc=> ?_) (fun hc=> ?_))⟩
  ·have hc:=oDt hc;refine i6 (uk db da (by omega) (Um.len_le ta db.2 (by omega)) (by omega)) rfl ?_;rintro u H2 ⟨rF,l,hd,hv⟩;refine⟨fun _=>rF,i6 (Iw (decide (q<0)) hd) rfl ?_⟩;rintro u2 H3 ⟨rfl,hu⟩;rw[hv,va,vb,HU (by rw[<-h];exact Bool.beq_comm) (by omega),Int.add_comm]at hu;have hr:=hu.rq;obtain⟨w',rfl,sW⟩:=hu;exact⟨fun _=>PH.le.refl _,d9 hr (g8 rfl ⟨rF,w',rfl,sW⟩)⟩
  ·have hc:=oDf hc;refine i6 (uk da db (by omega) (Um.len_le tb da.2 (by omega)) (by omega)) rfl ?_;rintro u H2 ⟨rF,l,hd,hv⟩;refine⟨fun _=>rF,i6 (Iw (decide (p<0)) hd) rfl ?_⟩;rintro u2 H3 ⟨rfl,hu⟩;rw[hv,va,vb,HU h (by omega)]at hu;have hr:=hu.rq;obtain⟨w',rfl,sW⟩:=hu;exact⟨fun _=>PH.le.refl _,d9 hr (g8 rfl ⟨rF,w',rfl,sW⟩)⟩
theorem IE (hx:Lw H x p) (hy:Lw H y q) (hp:Lm p) (hq:Lm q):Con prog 194 [x,y] H fun u H'=>PH.le H H'/\Lw H' u (p-q):=by
 have r1:=hx.rq;have r2:=hy.rq;have vM:Lm (-q):=by unfold Lm at hq⊢;rw[fW];exact hq
 have rZ:=hx;have sL:=hy;obtain⟨wx,rfl,a,da,ta,va⟩:=hx;obtain⟨wy,rfl,b,db,tb,vb⟩:=hy;refine Aa mixed G9 (by kernel_rfl) rfl (d9 r1 (d9 r2 (i6 (gb sL) rfl ?_)));rintro u H1 ⟨rfl,hu⟩;refine⟨fun _=>PH.le.refl _,i6 (Yo rZ hu hp vM) rfl ?_⟩;rintro u2 H2 ⟨hl,rK⟩;rw[<-Int.sub_eq_add_neg]at rK;have hr:=rK.rq;obtain⟨w',rfl,sW⟩:=rK;exact⟨fun _=>hl,d9 hr (g8 rfl ⟨hl,w',rfl,sW⟩)⟩
theorem Ls (hx:Lw H x p) (hy:Lw H y q) (hp:Lm p) (hq:Lm q):Con prog 136 [x,y] H fun u H'=>PH.le H H'/\Lw H' u (p*q):=by
 have r1:=hx.rq;have r2:=hy.rq;obtain⟨wx,rfl,a,da,ta,va⟩:=hx;obtain⟨wy,rfl,b,db,tb,vb⟩:=hy;have la:=Oi ta va hp;have lb:=Oi tb vb hq;refine Aa mixed I0 (by kernel_rfl) rfl (d9 r1 (d9 r2 (d9 ⟨_,rfl⟩ (d9 ⟨_,rfl⟩ (i6 (J4 da db (by omega) (by omega)) rfl ?_)))));rintro u H1 ⟨rF,l,hd,hv⟩;refine⟨fun _=>rF,i6 (Iw (true !=(decide (p<0)==decide (q<0))) hd) rfl ?_⟩;rintro u2 H2 ⟨rfl,hu⟩;rw[hv,va,vb,I8]at hu;have hr:=hu.rq;obtain⟨w',rfl,sW⟩:=hu;exact⟨fun _=>PH.le.refl _,d9 hr (g8 rfl ⟨rF,w',rfl,sW⟩)⟩
theorem Ut (hx:Lw H x z):Con prog 67 [x] H fun u H'=>H'=H/\u= .int .i64 (sgI z 0):=by
 have r1:=hx.rq;obtain⟨wx,rfl,a,da,ta,va⟩:=hx;have qW:=ta.pos;rw[va]at qW;refine Aa mixed I3 (by kernel_rfl) rfl (d9 r1 (d9 ⟨_,rfl⟩ (i0 (b:=decide (z<0)) rfl (fun h=> ?_) (fun h=> ?_))))
 ·have h:=oDt h;refine g8 rfl ⟨rfl,?_⟩;unfold sgI;rw[if_pos h];rfl
 ·have h:=oDf h;refine Bm rfl rfl da rfl (d9 ⟨_,rfl⟩ (i0 (b:=((a.length:Int)==0)) rfl (fun h2=> ?_) (fun h2=> ?_)))
  ·have h2:=beq_iff_eq.1 h2;refine g8 rfl ⟨rfl,?_⟩;unfold sgI;rw[if_neg h,if_pos (by omega)];rfl
  ·have h2:=beq_eq_false_iff_ne.1 h2;refine g8 rfl ⟨rfl,?_⟩;unfold sgI;rw[if_neg h,if_neg (by omega)];rfl
theorem K7 (p q:Int):sgI (p-q) 0=sgI p q:=by
 unfold sgI;by_cases h1:p<q
 ·rw[if_pos (by omega),if_pos h1]
 ·rw[if_neg (by omega),if_neg h1];by_cases h2:p=q
  ·rw[if_pos (by omega),if_pos h2]
  ·rw[if_neg (by omega),if_neg h2]
theorem K8 (hx:Lw H x p) (hy:Lw H y q) (hp:Lm p) (hq:Lm q):Con prog 201 [x,y] H fun u H'=>PH.le H H'/\u= .int .i64 (sgI p q):=by
 have r1:=hx.rq;have r2:=hy.rq;have rZ:=hx;have sL:=hy;obtain⟨wx,rfl,_⟩:=hx;obtain⟨wy,rfl,_⟩:=hy;refine Aa mixed I4 (by kernel_rfl) rfl (d9 r1 (d9 r2 (i6 (IE rZ sL hp hq) rfl ?_)));rintro u H1 ⟨hl,hu⟩;refine⟨fun h=>(nomatch h),i6 (Ut hu) rfl ?_⟩;rintro u2 H2 ⟨rfl,rfl⟩;exact⟨fun h=>(nomatch h),g8 rfl ⟨hl,by rw[K7];rfl⟩⟩
theorem ux (hx:Lw H x p) (hy:Lw H y q) (hp:Lm p) (hq:Lm q) (hq0:q≠0):Con prog 130 [x,y] H fun u H'=>PH.le H H'/\∃a b,u= .tuple #[a,b]/\Lw H' a (p/q)/\Lw H' b (p%q):=by
 have r1:=hx.rq;have r2:=hy.rq;obtain⟨wx,rfl,a,da,ta,va⟩:=hx;obtain⟨wy,rfl,b,db,tb,vb⟩:=hy;have la:=Oi ta va hp;have lb:=Oi tb vb hq;unfold Lm at hp hq;have sH:0<ul b:=by rw[vb];omega
 have hR:p.natAbs%q.natAbs<q.natAbs:=bO _ (by omega);have hQ:p.natAbs/q.natAbs<=p.natAbs:=Nat.div_le_self _ _;obtain⟨s1,s2⟩:=F0 p q (p.natAbs/q.natAbs) (p.natAbs%q.natAbs) hq0 hR (by rw[cE];exact(iL _ _).symm);generalize hQd:p.natAbs/q.natAbs=Q at*;generalize hRd:p.natAbs%q.natAbs=R at*;refine Aa mixed I1 (by kernel_rfl) rfl (d9 r1 (d9 r2 (i6 (IB da db ta tb sH (by omega) (by omega)) rfl ?_)));rintro u H1 ⟨rF,uq,ur,lq,rfl,dq,vq,zD⟩;rw[va,vb,hQd]at vq;rw[va,vb,hRd]at zD;obtain⟨lr,dr,tr,vr⟩:=zD;refine⟨fun h=>(nomatch h),d9 ⟨_,rfl,bU _⟩ (d9 ⟨_,rfl,bQ _⟩ (d9 ⟨_,rfl⟩ (d9 ⟨_,rfl⟩ (i6 (Iw (true !=(decide (p<0)==decide (q<0))) dq) rfl ?_))))⟩;rintro u3 H2 ⟨rfl,hu3⟩;rw[vq]at hu3;refine⟨fun _=>PH.le.refl _,i6 (Iw (decide (p<0)) dr) rfl ?_⟩;rintro u4 H3 ⟨rfl,xT⟩;rw[vr]at xT;have hr3:=hu3.rq;have hr4:=xT.rq;have a5c:=hu3;have a5d:=xT;obtain⟨w3,rfl,n3⟩:=hu3;obtain⟨w4,rfl,n4⟩:=xT;refine⟨fun _=>PH.le.refl _,d9 hr3 (d9 hr4 (d9 ⟨_,rfl⟩ (i0 rfl (fun h=> ?_) (fun h=> ?_))))⟩
 ·have h:=oDt h;have hp0:p<0:=by
   rcases Int.lt_or_le p 0 with h1|h1
   ·exact h1
   ·exfalso;unfold sn at h;rw[decide_eq_false (show ¬p<0 by omega)]at h;simp only[cN,if_false]at h;omega
  have hR0:R≠0:=by
   intro h0;rw[h0]at h;unfold sn at h;split at h<;>omega
  have eR:sn (decide (p<0)) R= -(R:Int):=by unfold sn;rw[oDd hp0];rfl
  simp only[hp0,hR0,decide_true,decide_false,Bool.not_false,Bool.and_true,if_true]at s1 s2;have nb:Mu H3 wy q.natAbs:=⟨b,db.mono rF,tb,vb⟩;have a2w:=Yo a5d (uu nb) (by unfold Lm;rw[eR,fW,cV];omega) (Lm.nat hq);refine d9 nb.one.2 (i6 a2w ?_ ?_)
  ·simp only[aM,cL];congr 2;show Value.agg ((s7 prog 4).cells++wy.cells)=_;rw[HW];exact uw false nb
  rintro u5 H4 ⟨hl4,tJ⟩;have e5:sn (decide (p<0)) R+(q.natAbs:Int)=p%q:=by rw[s2,eR];omega
  rw[e5]at tJ;have hr5:=tJ.rq;obtain⟨w5,rfl,n5⟩:=tJ;refine⟨fun h=>(nomatch h),d9 hr5 (HJ (d:=1) rfl rfl (by omega) rfl fun v1 H5 hl5 h5=> ?_)⟩;have n1:Mu H5 v1 1:=⟨[1],h5.es,Um.of (n:=0) rfl (by decide),rfl⟩;have sB:Lw H5 (.agg #[.bool (!decide (q<0)),v1]) (if q<0 then 1 else -1):=by
   by_cases h2:q<0
   ·rw[if_pos h2];exact⟨v1,by simp[h2],n1⟩
   ·rw[if_neg h2];exact⟨v1,by simp[h2],n1⟩
  have eQ:(sn (true !=(decide (p<0)==decide (q<0))) Q).natAbs=Q:=by unfold sn;split<;>omega
  have a5e:Lm (if q<0 then(1:Int)else -1):=by
   split
   ·exact uj
   ·have:=uj;unfold Lm at this⊢;exact this
  refine d9 n1.one.2 (i6 (Yo (a5c.mono (hl4.trans hl5)) sB (by unfold Lm;rw[eQ];omega) a5e) ?_ ?_)
  ·simp only[aM,cL];congr 2;show Value.agg ((Value.bool (!decide (q<0))).cells++v1.cells)=_;exact uw _ n1
  rintro u7 H6 ⟨hl6,hu7⟩;have e7:sn (true !=(decide (p<0)==decide (q<0))) Q+(if q<0 then 1 else -1)=p/q:=by
   rw[s1];unfold sn;by_cases h2:q<0
   ·simp[h2,hp0]
   ·simp[h2,hp0];omega
  rw[e7]at hu7;have hr7:=hu7.rq;obtain⟨w7,rfl,n7⟩:=hu7;exact⟨fun h=>(nomatch h),d9 hr7 (g8 rfl ⟨rF.trans (hl4.trans (hl5.trans hl6)),_,_,rfl,⟨w7,rfl,n7⟩,w5,rfl,n5.mono (hl5.trans hl6)⟩)⟩
 ·have h:=oDf h;have hc:(decide (p<0)&& !decide (R=0))=false:=by
   by_cases h1:p<0
   ·by_cases h2:R=0
    ·simp[h2]
    ·exfalso;apply h;unfold sn;rw[oDd h1];simp;omega
   ·simp[h1]
  rw[hc]at s1 s2;simp only[cN,if_false]at s1 s2;have e3:sn (true !=(decide (p<0)==decide (q<0))) Q=p/q:=by
   rw[s1];unfold sn;by_cases h1:p<0<;>by_cases h2:q<0<;>simp[h1,h2]
  have e4:sn (decide (p<0)) R=p%q:=by
   rw[s2];unfold sn;by_cases h1:p<0
   ·simp[h1]at hc⊢;omega
   ·simp[h1]
  rw[e3]at n3;rw[e4]at n4;refine g8 rfl ⟨rF,_,_,rfl,⟨w3,?_,n3⟩,w4,?_,n4⟩
  ·rw[<-e3];rfl
  ·rw[<-e4];rfl
theorem IF (hx:Lw H x p) (hy:Lw H y q) (hp:Lm p) (hq:Lm q):Con prog 129 [x,y] H fun u H'=>PH.le H H'/\Lw H' u (eJ p.natAbs q.natAbs:Nat):=by
 have r1:=hx.rq;have r2:=hy.rq;obtain⟨wx,rfl,nx⟩:=hx;obtain⟨wy,rfl,ny⟩:=hy;unfold Lm at hp hq;refine Aa mixed I2 (by kernel_rfl) rfl (d9 r1 (d9 r2 ⟨fun vals H'=>∃(m n:Nat) (vm vn:Value),vals=[vm,vn]/\PH.le H H'/\Mu H' vm m/\Mu H' vn n/\m<BP 10000/\n<BP 10000/\eJ m n=eJ p.natAbs q.natAbs,fun vals H'=>Yn H' (vals.getD 1 undef),⟨p.natAbs,q.natAbs,wx,wy,rfl,PH.le.refl H,nx,ny,hp,hq,rfl⟩,?_⟩));rintro vals H'-⟨m,n,vm,vn,rfl,pP,hm,hn,lm,ln,hg⟩;simp only[cA,nA];obtain⟨a,da,ta,va⟩:=id hm;obtain⟨b,db,tb,vb⟩:=id hn;have qW:=tb.pos;refine Bm rfl rfl db rfl (d9 ⟨_,rfl⟩ (i0 (b:=decide ((b.length:Int)>0)) rfl (fun h=> ?_) (fun h=> ?_)))
 ·have h:=oDt h;refine i6 (IB da db ta tb (by omega) (aS (Oi ta va lm) (by omega)) (aS (Oi tb vb ln) (by omega))) rfl ?_;rintro u H2 ⟨tI,uq,ur,lq,rfl,_,_,hr⟩;rw[va,vb]at hr;have pO:m%n<n:=bO _ (by omega);refine⟨fun h=>(nomatch h),d9 ⟨_,rfl,bU _⟩ (d9 ⟨_,rfl,bQ _⟩ ⟨⟨n,m%n,vn,ur,rfl,pP.trans tI,hn.mono tI,hr,ln,by omega,?_⟩,?_⟩)⟩
  ·rw[<-hg,mM n,<-Nat.gcd_rec,mM]
  ·show Yn H2 ur<Yn H' vn;rw[ID hr,ID hn];exact pO
 ·have h:=oDf h;have wN:n=0:=by omega
  subst wN;rw[Nat.gcd_zero_right]at hg;rw[hg]at hm;refine d9 hm.one.2 (g8 rfl ⟨pP,?_⟩);show Lw H' (Value.agg ((s7 prog 4).cells++vm.cells)) _;rw[HW,uw false hm];exact uu hm
end
theorem K9 {l:List Nat}:∀c∈l.map uv,c.oneCell'=true:=fun c hc=>by obtain⟨d,_,rfl⟩:=List.mem_map.1 hc;rfl
theorem IG:s7 prog 208=nb false 0:=by kernel_rfl
def dgs (n:Nat):List Nat:=[dig n 0,dig n 1,dig n 2,dig n 3,dig n 4,dig n 5,dig n 6,dig n 7]
theorem L1 (n:Nat):Eg (dgs n):=fun d hd=>by
 simp only[dgs,aL,cF,or_false]at hd;rcases hd with h|h|h|h|h|h|h|h<;>rw[h]<;>exact Xz _ _
theorem L2 (n:Nat):ul (dgs n)=n%M:=by
 have e:dig n 0+18446744073709551616*(dig n 1+18446744073709551616*(dig n 2+18446744073709551616*(dig n 3+18446744073709551616*(dig n 4+18446744073709551616*(dig n 5+18446744073709551616*(dig n 6+18446744073709551616*(dig n 7+18446744073709551616*0)))))))=n%PW 8:=by
  have h:=fun k=>Ju n k;rw[h 7,h 6,h 5,h 4,h 3,h 2,h 1,h 0,Lc,Nat.mod_one];rw[show PW 7=PW 0*18446744073709551616*18446744073709551616*18446744073709551616*18446744073709551616*18446744073709551616*18446744073709551616*18446744073709551616 from by rw[Ab,Ab,Ab,Ab,Ab,Ab,Ab],show PW 6=PW 0*18446744073709551616*18446744073709551616*18446744073709551616*18446744073709551616*18446744073709551616*18446744073709551616 from by rw[Ab,Ab,Ab,Ab,Ab,Ab],show PW 5=PW 0*18446744073709551616*18446744073709551616*18446744073709551616*18446744073709551616*18446744073709551616 from by rw[Ab,Ab,Ab,Ab,Ab],show PW 4=PW 0*18446744073709551616*18446744073709551616*18446744073709551616*18446744073709551616 from by rw[Ab,Ab,Ab,Ab],show PW 3=PW 0*18446744073709551616*18446744073709551616*18446744073709551616 from by rw[Ab,Ab,Ab],show PW 2=PW 0*18446744073709551616*18446744073709551616 from by rw[Ab,Ab],show PW 1=PW 0*18446744073709551616 from by rw[Ab],Lc];omega
 rw[Gp,<-e];rfl
end Go.Proofs.Z
namespace Go.WD
open Go.RX
theorem L3 {n k:Nat} (h:n<PW k) (hk:k<=8):n<M:=by rw[Gp];exact bK h (Qv hk)
end Go.WD
namespace Go.Proofs.Z
open Go.Proofs.Tryz
open Go.RowKit Go.RX Go.WD
theorem IH:prog.underlying 208=some (.struct (fieldsOf prog 208)):=by kernel_rfl
theorem II:1<(fieldsOf prog 208).size:=by decide+kernel
theorem IJ:prog.underlying 206=some (.array 8 54):=by kernel_rfl
theorem gd:prog.cellsOf 208=9:=by kernel_rfl
theorem IK (b:Bool) (n:Nat):spl (nb false 0).cells 0 (nb b n).cells.toList=(nb b n).cells:=by
 simp[nb,words,wf,spl,It]
theorem L4 (b:Bool):s8 (Value.bool b).cells:=by intro c hc;simp[rj]at hc;subst hc;rfl
theorem L5 (b:Bool) (n:Nat):((nb b n).cells.toList.drop 1).take 8=(dgs n).map uv:=rfl
section
variable {H:PH}
theorem L6 {o:Oper} {x:Operand} {b:Nat} (ho:o.op= .fieldAddr 208 x 0) (hx:g9 [x] [.pointer (some ⟨b,0,none⟩)] x= .pointer (some ⟨b,0,none⟩)):Yld prog o [.pointer (some ⟨b,0,none⟩)] (.pointer (some ⟨b,0,none⟩)):=
 si (T:=4) (off:=0) ho hx IH (lR Nat.zero_lt_one II) (by kernel_rfl) (by kernel_rfl) (by kernel_rfl) (by decide+kernel)
theorem IL {o:Oper} {x:Operand} {b:Nat} (ho:o.op= .fieldAddr 208 x 1) (hx:g9 [x] [.pointer (some ⟨b,0,none⟩)] x= .pointer (some ⟨b,0,none⟩)):Yld prog o [.pointer (some ⟨b,0,none⟩)] (.pointer (some ⟨b,1,none⟩)):=
 si (T:=206) (off:=1) ho hx IH II (by kernel_rfl) (by kernel_rfl) (by kernel_rfl) (by decide+kernel)
theorem IM {o:Oper} {x y:Operand} {b:Nat} {v:Value} {cs:Array Value} (ho:o.op= .store 208 x y) (hx:∀v,g9 [x,y] [.pointer (some ⟨b,0,none⟩),v] x= .pointer (some ⟨b,0,none⟩)) (hy:∀v,g9 [x,y] [.pointer (some ⟨b,0,none⟩),v] y=v) (hH:H b=some (.cells cs 208 (0,0))) (qI:cs.size=9) (hv:v.cells.size=9) (h1:s8 v.cells):
  Opn prog o [.pointer (some ⟨b,0,none⟩),v] H fun _ H'=>H'=H.put b (.cells (spl cs 0 v.cells.toList) 208 (0,0)):=
 (Ug ho (hx v) (hy v) hH (by kernel_rfl) (by rw[gd];omega) (by rw[gd];exact hv) h1).mono fun _ _ h=>h.2
theorem L7 {o:Oper} {x:Operand} {b:Nat} {cs:Array Value} (ho:o.op= .load 208 x) (hx:g9 [x] [.pointer (some ⟨b,0,none⟩)] x= .pointer (some ⟨b,0,none⟩)) (hH:H b=some (.cells cs 208 (0,0))) (qI:cs.size=9):Rds prog o [.pointer (some ⟨b,0,none⟩)] H (.agg cs):=by
 have:=Qs (P:=prog) (T:=208) ho hx hH (by kernel_rfl) (by rw[gd];omega) (fun h=>by cases h.symm.trans (show Aw prog 208=true by kernel_rfl));rw[show Aw prog 208=true by kernel_rfl,if_pos rfl,gd,bM,<-qI,Array.extract_size]at this;exact this
theorem Uu (a:Nat):Con prog 75 [wd a] H fun u H'=>PH.le H H'/\Lw H' u (toI a):=by
 have hM:=GO a;refine Aa mixed F6 (by kernel_rfl) rfl (d9 ⟨words_size a,words_one a⟩ (Am (C4 a) rfl ?_));generalize toI a=z at hM;intro b hb;show den _ _ _ _ _ (H.put b (.cells (s7 prog 208).cells 208 (0,0)));rw[IG];simp only[cA,nA];refine r4 (vs:=[.pointer (some ⟨b,0,none⟩),nm z]) (IM rfl (fun _=>rfl) (fun _=>rfl) (PH.put_self _ _ _) (Uo _ _) (Uo _ _) (sy _ _)) rfl ?_;rintro u H1 rfl;rw[PH.put_put,show spl (nb false 0).cells 0 (nm z).cells.toList=(nm z).cells from IK _ _];have l1:PH.le H (H.put b (.cells (nm z).cells 208 (0,0))):=PH.le_put hb _;have hB:(H.put b (.cells (nm z).cells 208 (0,0))) b=some (.cells (nm z).cells 208 (0,0)):=PH.put_self _ _ _;generalize H.put b (.cells (nm z).cells 208 (0,0))=H2 at l1 hB;refine nmI ?_;refine r7 ((L6 rfl rfl).rds _) rfl (r7 (rx (w:= .bool (decide (z<0))) rfl rfl hB (by kernel_rfl) (by kernel_rfl) (by kernel_rfl) (by show 0+1<=9;omega) rfl) rfl ?_);refine r7 ((IL rfl rfl).rds _) rfl (r7 ((Xy (vs:=[.pointer (some ⟨b,1,none⟩)]) rfl rfl IJ Lo).rds _) rfl ?_);obtain⟨ti,i1,i2,i3,i4⟩:=fx;refine r4 (vs:=[]) (FP rfl Lq i1) rfl ?_;rintro v8 H3 ⟨g,hg,rfl,rfl⟩;have l3:PH.le H2 (H2.put g (.cells #[] 54 (0,0))):=PH.le_put hg _;have hs:Sl (H2.put g (.cells #[] 54 (0,0))) 1 (.slice (some ⟨b,1,none⟩) 8 8) 8 ((dgs z.natAbs).map uv):=⟨rfl,_,8,rfl,by omega,by simp[maxLen],.inr ⟨b,1,_,_,_,rfl,l3 _ _ hB,L5 _ _⟩⟩;refine⟨fun _=>l3,r4 (vs:=[.slice (some ⟨g,0,none⟩) 0 0,.slice (some ⟨b,1,none⟩) 8 8]) (ZG rfl rfl rfl Lq i1 i2 i3 rfl hs (by omega) (by simp[maxLen]) (by rw[i4];omega)) rfl ?_⟩;rintro v9 H4 ⟨l4,ho⟩;have hE:Es H4 v9 (dgs z.natAbs):=⟨ho.sl,L1 _⟩;refine⟨fun _=>l4,i6 (Iw (decide (z<0)) hE) rfl ?_⟩;rintro u H5 ⟨rfl,hu⟩;rw[L2,bR hM,I6]at hu;have hr:=hu.rq;obtain⟨w',rfl,sW⟩:=hu;exact⟨fun _=>PH.le.refl _,d9 hr (g8 rfl ⟨l1.trans (l3.trans l4),w',rfl,sW⟩)⟩
theorem Rf (n:Int) (h0: -9223372036854775808<=n) (h1:n<9223372036854775808):Con prog 102 [.int .i64 n] H fun u H'=>PH.le H H'/\Lw H' u n:=by
 refine Aa mixed F7 (by kernel_rfl) rfl (Am (ub n h0 h1) rfl (i6 (Uu (rs n)) rfl ?_));rintro u H1 ⟨l1,hu⟩;rw[toI_rs (tw h0 h1)]at hu;have hr:=hu.rq;obtain⟨w',rfl,sW⟩:=hu;exact⟨fun h=>(nomatch h),d9 hr (g8 rfl ⟨l1,w',rfl,sW⟩)⟩
theorem IN (n:Nat):(words n).toList=(List.range 8).map fun j=>uv (dig n j):=rfl
theorem L8 {l:List Nat} (h:Eg l) (hl:l.length<=8):l.map uv++(words 0).toList.drop l.length=(words (ul l)).toList:=by
 rw[IN,IN];apply List.ext_getElem?;intro j;rcases eV j l.length with hj|hj
 ·rw[List.getElem?_append_left (by simpa using hj),aO,aO,eA (by omega),GH hj];simp only[dK];rw[Ym h]
 ·rw[List.getElem?_append_right (by simpa using hj),List.length_map,List.getElem?_drop,show l.length+(j-l.length)=j from by omega,aO,aO];rcases eV j 8 with h8|h8
  ·rw[eA h8];simp only[dK];rw[Ym h,Un hj,Ya]
  ·rw[List.getElem?_eq_none (by simpa using h8)];rfl
theorem gf {v:Value} {z:Int} (hx:Lw H v z):Con prog 72 [v] H fun u H'=>PH.le H H'/\u=told z:=by
 have hrq:=hx.rq;obtain⟨w,rfl,l,dl,tl,vl'⟩:=hx;have hHM:=Le;refine Aa mixed F8 (by kernel_rfl) rfl (d9 hrq (Bm rfl rfl dl rfl (d9 ⟨_,rfl⟩ (i0 (b:=decide ((l.length:Int)>8)) rfl (fun h=> ?_) (fun h=> ?_)))))
 ·have h:=oDt h;have hge:M<=z.natAbs:=by
   rcases eV z.natAbs M with h1|h1
   ·have:=tl 8 (by rw[vl',<-Gp];exact h1);omega
   ·exact h1
  refine g8 ?_ ⟨PH.le.refl _,rfl⟩;rw[uh (by have:=Ul;omega)];simp only[rxs,Bv,Qy]
 ·have h:=oDf h;have hlM:z.natAbs<M:=by rw[<-vl'];exact L3 (Ik dl.2) (by omega)
  refine d9 ⟨rfl,L4 _⟩ ?_;intro b hb;show den _ _ _ _ _ (H.put b (.cells (s7 prog 208).cells 208 (0,0)));rw[IG];simp only[cA,nA];obtain⟨V,hV⟩:∃V,V=nb (decide (z<0)) 0:=⟨_,rfl⟩;have hV9:V.cells.size=9:=by rw[hV];exact Uo _ _
  have hV1:s8 V.cells:=by rw[hV];exact sy _ _
  have a5f:[Value.pointer (some ⟨b,0,none⟩),Value.agg ((Value.bool (decide (z<0))).cells++(s7 prog 206).cells)]=[Value.pointer (some ⟨b,0,none⟩),V]:=by
   rw[Yd,hV];rfl
  have vX:=IM (v:=V) F9 (fun _=>rfl) (fun _=>rfl) (PH.put_self H b (.cells (nb false 0).cells 208 (0,0))) (Uo _ _) hV9 hV1;refine @r4 _ _ _ _ _ _ _ _ _ _ _ _ _ vX ?_ ?_
  ·simp only[aM,cL];exact a5f
  rintro u H1 rfl;rw[PH.put_put,hV,IK];have l1:PH.le H (H.put b (.cells (nb (decide (z<0)) 0).cells 208 (0,0))):=PH.le_put hb _;refine nmI ?_;refine r7 ((IL rfl rfl).rds _) rfl (r7 ((Xy (vs:=[.pointer (some ⟨b,1,none⟩)]) rfl rfl IJ Lo).rds _) rfl ?_);obtain⟨ti,i1,i2,i3,i4⟩:=fx;refine r4 (vs:=[.slice (some ⟨b,1,none⟩) 8 8,w]) (FR rfl rfl rfl Lq i1 i3 (PH.put_self _ _ _) (dl.mono l1).1 K9 (by omega) (by show 1+l.length<=9;omega)) rfl ?_;rintro u H2 rfl;rw[PH.put_put];have ecs:((nb (decide (z<0)) 0).cells.toList.take 1++l.map uv++(nb (decide (z<0)) 0).cells.toList.drop (1+l.length)).toArray=(nm z).cells:=by
   have e1:∀n,(nb (decide (z<0)) n).cells.toList= .bool (decide (z<0))::(words n).toList:=fun n=>by simp[nb,It]
   have e2:=L8 dl.2 (by omega);rw[vl']at e2;rw[<-Array.toList_inj,e1 0];show[Value.bool (decide (z<0))]++l.map uv++(Value.bool (decide (z<0))::(words 0).toList).drop (1+l.length)=(nb (decide (z<0)) z.natAbs).cells.toList;rw[e1,eI 1,List.drop_succ_cons,List.append_assoc,e2];rfl
  rw[ecs];have l2:PH.le H (H.put b (.cells (nm z).cells 208 (0,0))):=PH.le_put hb _;refine nmI ?_;refine r7 (L7 rfl rfl (PH.put_self _ _ _) (Uo _ _)) rfl (Am (C5 z hlM) rfl ?_);obtain⟨n,e,ht⟩:=GP z;rw[ht];exact d9 ⟨_,rfl,bU _⟩ (d9 ⟨_,rfl,bQ _⟩ (d9 ⟨words_size n,words_one n⟩ (g8 rfl ⟨l2,rfl⟩)))
end
end Go.Proofs.Z

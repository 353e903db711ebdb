/- Lemmas: chapter 32. -/
import Derived.Test.YtmannekkmdockaaGreatDoorLgA
open Int renaming natCast_add->lQ
open List renaming drop_of_length_le->fK
open Nat renaming lt_or_gt_of_ne->nN,mul_add->eS,mul_zero->gP
set_option maxRecDepth 100000
open Go.IntKind renaming wrap->wQ
namespace Go.Z
open Proofs.Tryz RowKit RX WD
theorem Jg {a b:Nat} (h:a+b<9223372036854775808):wQ .i64 ((a:Int)+(b:Int))=((a+b:Nat):Int):=by rw[IntKind.wrap_i64];omega
theorem He {a:Nat} (h:a+1<9223372036854775808):wQ .i64 ((a:Int)+1)=((a+1:Nat):Int):=by rw[IntKind.wrap_i64];omega
theorem iq {a:Nat} (h:a<9223372036854775808) (hb:1<=a):wQ .i64 ((a:Int)-1)=((a-1:Nat):Int):=by rw[IntKind.wrap_i64];omega
theorem Do {z:Int} (h: -9223372036854775808<=z) (h2:z<9223372036854775808):wQ .i64 z=z:=by rw[IntKind.wrap_i64];omega
theorem Ds.len {H:PH} {v:Value} {l:List Nat} (h:Ds H v l):l.length<9223372036854775808:=by
 have:=h.1.len_le;simp only[maxLen]at this;omega
theorem Ds.take {H:PH} {v:Value} {l:List Nat} {o:Oper} {x hi:Operand} {i:Nat} {k:IntKind} {vs:List Value} (h:Ds H v l) (ho:o.op= .slice 32 x none (some hi) none) (hx:g8 [x,hi] vs x=v) (hl:g8 [x,hi] vs hi= .int k (i:Nat)) (h1:i<=l.length):∃u,Yld prog o vs u/\Ds H u (l.take i):=by
 obtain⟨u,h2,h3⟩:=uy (P:=prog) ho hx hl Jf Uj h.1 h1;refine⟨u,h2,?_,h.2.take i⟩;rw[bM,bY h1,List.map_take]
 rwa[dN]at h3
section
variable {H:PH} {v:Value} {l:List Nat}
theorem N6 {n:Nat} (hn:n<=l.length) (hz:∀k,n<=k->l.getD k 0=0):vl (l.take n)=vl l:=by
 obtain⟨d,hd⟩:=Nat.exists_eq_add_of_le hn;induction d generalizing n with
 |zero=>rw[aF aA]
 |succ d ih=>
  have:=ih (n:=n+1) aA (fun k hk=>hz k aA) aA;rw[Uh aA,hz n (aS n),gP,eF]at this;exact this
theorem Yq (h:Ds H v l):Con prog 220 [v] H fun u H'=>H'=H/\Nu H u (vl l):=by
 have qD:=h.len;refine s9 mixed F6 aB rfl (Ci rfl rfl h rfl ⟨fun vals H'=>∃n:Nat,vals=[iv n]/\H'=H/\n<=l.length/\∀k,n<=k->l.getD k 0=0,fun vals _=>(intOf (vals.getD 0 undef)).toNat,⟨l.length,rfl,rfl,aS _,fun k hk=>Hv hk⟩,?_⟩);rintro vals H'-⟨n,rfl,rfl,hn,hz⟩;simp only[cA,nA];refine⟨fun vs H1=>H1=H'/\vs=[.bool (decide (0<n/\l.getD (n-1) 0=0))],d4 ⟨_,rfl⟩ (g7 (b:=decide ((n:Int)>0)) rfl (fun hb=> ?_) (fun hb=> ?_)),?_⟩
 ·have hb:=oDt hb;have e1:wQ .i64 ((n:Int)-1)=((n-1:Nat):Int):=iq aA aA;refine Fo (k:= .i64) (j:=n-1) rfl rfl rfl rfl aE h aA (by simp only[rxs,iv,e1]) aE fun p=>d4 ⟨_,rfl⟩ ⟨rfl,?_⟩;simp only[rxs,iv];congr 2;rw[bC];simp only[beq_iff_eq,decide_eq_true_eq];omega
 ·have hb:=oDf hb;refine⟨rfl,?_⟩;simp only[rxs];congr 2;rw[eq_comm,decide_eq_false_iff_not];omega
 ·rintro vs H1-⟨rfl,rfl⟩;simp only[cA,nA];refine d4 ⟨_,rfl⟩ (g7 rfl (fun hb=> ?_) (fun hb=> ?_))
  ·have hb:=oDt hb;have e1:wQ .i64 ((n:Int)-1)=((n-1:Nat):Int):=iq aA aA;refine d4 ⟨_,rfl⟩ ⟨⟨n-1,?_,rfl,aA,fun k hk=> ?_⟩,?_⟩
   ·simp only[rxs,iv,e1]
   ·rcases Nat.eq_or_lt_of_le hk with e|e
    ·rw[<-e];exact hb.2
    ·exact hz k aA
   ·simp only[rxs,iv,e1];omega
  ·have hb:=oDf hb;obtain⟨u,hu,hd⟩:=Ds.take (vs:=[v,iv n]) (k:= .i64) (i:=n) h F7 rfl rfl hn;refine j7 (hu.rds _) rfl (g6 rfl ⟨rfl,l.take n,hd,?_,N6 hn hz⟩);rcases eC n with e|e
   ·subst e;exact Tm.nil
   ·refine Tm.of (n:=n-1) (by rw[bM];omega) ?_;rw[aK,List.getElem?_take,if_pos aA,<-aK];exact fun h0=>hb ⟨e,h0⟩
def Lg (H:PH) (v:Value) (z:Int):Prop:=∃w,v= .agg #[.bool (decide (z<0)),w]/\Nu H w z.natAbs
theorem Lg.mono {H H':PH} {v:Value} {z:Int} (h:Lg H v z) (hl:Pl H H'):Lg H' v z:=by
 obtain⟨w,h1,h2⟩:=h;exact⟨w,h1,h2.mono hl⟩
theorem Nu.one {H:PH} {v:Value} {n:Nat} (h:Nu H v n):v.cells= #[v]/\v.cells.size=1/\o0 v.cells:=by
 obtain⟨l,h1,_⟩:=h;exact⟨h1.cells,h1.one⟩
def sn (b:Bool) (n:Nat):Int:=if b then -(n:Int)else n
theorem Oy (b:Bool) (h:Ds H v l):Con prog 213 [.bool b,v] H fun u H'=>H'=H/\Lg H u (sn b (vl l)):=by
 refine s9 mixed F8 aB rfl (g9 (Yq h) rfl ?_);rintro u H' ⟨rfl,hu⟩;refine⟨fun h=>(nomatch h),d4 ⟨_,rfl⟩ (g7 rfl (fun hb=> ?_) (fun hb=> ?_))⟩
 ·subst hb;obtain⟨l2,h2,h3,h4⟩:=id hu;refine Ci rfl rfl h2 rfl (d4 ⟨_,rfl⟩ (d4 h2.one (g6 rfl ⟨rfl,u,?_,?_⟩)))
  ·simp only[rxs,Am,h2.cells,iv,Xy];have:=h3.pos;rw[h4]at this;show Value.agg #[.bool (decide ((l2.length:Int)>0)),u]=_;congr 4;rw[decide_eq_decide];show _↔ -(vl l:Int)<0;omega
  ·show Nu _ u (-(vl l:Int)).natAbs;rw[Int.natAbs_neg,dJ];exact hu
 ·subst hb;obtain⟨h2,h3⟩:=hu.one;refine d4 h3 (g6 rfl ⟨rfl,u,?_,?_⟩)
  ·simp only[rxs,Am,h2,Xy];show Value.agg #[.bool false,u]=_;congr 4
  ·exact hu
theorem N7 {a b:List Nat} (ha:Dg a) (hb:Dg b) (ta:Tm a) (tb:Tm b) (h:a.length≠b.length):((a.length:Int)-b.length<0↔vl a<vl b)/\((a.length:Int)-b.length=0↔vl a=vl b):=by
 rcases nN h with h1|h1
 ·have:=Tm.lt_of_len ha tb h1;omega
 ·have:=Tm.lt_of_len hb ta h1;omega
theorem xd {a b:List Nat} {va vb:Value} (ha:Ds H va a) (hb:Ds H vb b) (ta:Tm a) (tb:Tm b):Con prog 172 [va,vb] H fun u H'=>H'=H/\∃c:Int,u= .int .i64 c/\(c<0↔vl a<vl b)/\(c=0↔vl a=vl b):=by
 have xN:=ha.len;have yW:=hb.len;refine s9 mixed G1 aB rfl (Ci rfl rfl ha rfl (Ci rfl rfl hb rfl (d4 ⟨_,rfl⟩ (d4 ⟨_,rfl⟩ (g7 (b:=decide (a.length≠b.length)) ?_ (fun h=> ?_) (fun h=> ?_))))))
 ·simp only[rxs,iv];congr 1;rw[bC];simp only[bne_iff_ne,decide_eq_true_eq];omega
 ·have h:=oDt h;have e1:wQ .i64 ((a.length:Int)-b.length)=(a.length:Int)-b.length:=Do aA aA;refine Ci rfl rfl ha rfl (Ci rfl rfl hb rfl (d4 ⟨_,rfl⟩ (d4 ⟨_,rfl⟩ (g6 rfl ⟨rfl,_,?_,N7 ha.2 hb.2 ta tb h⟩))));simp only[rxs,iv,Am,e1]
 ·have h:a.length=b.length:=by have:=oDf h;omega
  have e0:wQ .i64 ((a.length:Int)-1)=(a.length:Int)-1:=Do aA aA;refine Ci rfl rfl ha rfl (d4 ⟨_,rfl⟩ ⟨fun vals H'=>∃n:Nat,vals=[.int .i64 0,.int .i64 ((n:Int)-1)]/\H'=H/\n<=a.length/\a.drop n=b.drop n,fun vals _=>(intOf (vals.getD 1 undef)+1).toNat,⟨a.length,?_,rfl,aS _,?_⟩,?_⟩)
  ·simp only[rxs,iv,e0]
  ·rw[fK (aS _),fK aA]
  ·rintro vals H'-⟨n,rfl,rfl,hn,hd⟩;simp only[cA,nA];refine d4 ⟨_,rfl⟩ (g7 (b:=decide ((n:Int)-1≥0)) rfl (fun h1=> ?_) (fun h1=> ?_))
   ·have h1:=oDt h1;obtain⟨m,rfl⟩:∃m,n=m+1:=⟨n-1,aA⟩;have em:((m+1:Nat):Int)-1=(m:Nat):=aA;rw[em];refine Fo (k:= .i64) (j:=m) rfl rfl rfl rfl aE ha aA rfl aE fun p=>Fo (k:= .i64) (j:=m) rfl rfl rfl rfl aE hb aA rfl aE fun q=> ?_;have da:=ha.2.at m;have db:=hb.2.at m;refine d4 ⟨_,rfl⟩ (d4 ⟨_,rfl⟩ (g7 (b:=decide (a.getD m 0≠b.getD m 0)) ?_ (fun h2=> ?_) (fun h2=> ?_)))
    ·simp only[rxs,iv];congr 1;rw[bC];simp only[bne_iff_ne,decide_eq_true_eq];omega
    ·have h2:=oDt h2;refine Fo (k:= .i64) (j:=m) rfl rfl rfl rfl aE ha aA rfl aE fun p2=>Fo (k:= .i64) (j:=m) rfl rfl rfl rfl aE hb aA rfl aE fun q2=> ?_;have e1:wQ .i64 ((a.getD m 0:Nat)-(b.getD m 0:Nat):Int)=(a.getD m 0:Nat)-(b.getD m 0:Nat):=Do aA aA;refine d4 ⟨_,rfl⟩ (d4 ⟨_,rfl⟩ (g6 rfl ⟨rfl,(a.getD m 0:Nat)-(b.getD m 0:Nat),?_,?_⟩))
     ·simp only[rxs,iv,Am,e1]
     ·rcases nN h2 with h3|h3
      ·have:=IA ha.2 hb.2 aA aA hd h3;omega
      ·have:=IA hb.2 ha.2 aA aA hd.symm h3;omega
    ·have h2:a.getD m 0=b.getD m 0:=by have:=oDf h2;omega
     have e2:wQ .i64 ((m:Int)-1)=(m:Int)-1:=Do aA aA;refine⟨⟨m,?_,rfl,aA,?_⟩,?_⟩
     ·simp only[rxs,iv,e2]
     ·rw[Ou aA,Ou (l:=b) aA,h2,hd]
     ·simp only[rxs,iv,e2];omega
   ·have h1:=oDf h1;have yC:n=0:=aA;subst yC;refine g6 rfl ⟨rfl,0,rfl,?_⟩;rw[cH,cH]at hd;rw[hd];omega
end
open Go.RowKit Go.RX Go.WD
theorem Oz (l:List Nat) (k:Nat):vl (l.take (k+1))=vl (l.take k)+BP k*l.getD k 0:=by
 rcases dV k l.length with h|h
 ·exact Uh h
 ·rw[aF aA,aF h,Hv h,gP,eF]
theorem ir (l:List Nat) (d:Nat):vl (l++[d])=vl l+BP l.length*d:=by rw[gq,HT]
theorem JF (a b:Nat):(a:Int).tmod (b:Int)=((a%b:Nat):Int):=(Int.ofNat_tmod a b).symm
theorem JG (a b:Nat):(a:Int).tdiv (b:Int)=((a/b:Nat):Int):=(Int.ofNat_tdiv a b).symm
theorem iu (a:Nat):(a:Int).tmod 4294967296=((a%4294967296:Nat):Int):=JF a 4294967296
theorem iy (a:Nat):(a:Int).tdiv 4294967296=((a/4294967296:Nat):Int):=JG a 4294967296
theorem wn {a:Nat} (h:a<9223372036854775808):wQ .i64 (a:Int)=(a:Int):=by rw[IntKind.wrap_i64];omega
theorem wu {a:Nat} (h:a<18446744073709551616):wQ .u64 (a:Int)=(a:Int):=by rw[IntKind.wrap_u64];omega
section
variable {H:PH}
variable {a b:List Nat} {va vb:Value}
theorem iz (ha:Ds H va a) (hb:Ds H vb b) (uD:vl b<=vl a) (hl:b.length<=a.length) (hA:a.length<=100000):Con prog 173 [va,vb] H fun u H'=>Pl H H'/\Nu H' u (vl a-vl b):=by
 refine s9 mixed G3 aB rfl ⟨fun vals H'=>∃(br i:Nat) (v:Value) (l:List Nat),vals=[iv br,v,iv i]/\br<=1/\i<=a.length/\Pl H H'/\Od H H' v l/\l.length=i/\vl (a.take i)+BP i*br=vl (b.take i)+vl l,fun vals _=>(a.length-intOf (vals.getD 2 undef)).toNat,⟨0,0,_,[],rfl,aA,aA,Pl.refl H,Od.nil H H,rfl,?_⟩,?_⟩
 ·simp[vl]
 rintro vals H'-⟨br,i,v,l,rfl,hbr,hi,pY,hO,uE,hv⟩;simp only[cA,nA];have tI:=ha.mono pY;have rJ:=hb.mono pY;refine Ci rfl rfl tI rfl (d4 ⟨_,rfl⟩ (d4 ⟨_,rfl⟩ (g7 (b:=decide ((i:Int)<a.length)) rfl (fun h=> ?_) (fun h=> ?_))))
 ·have h:i<a.length:=by have:=oDt h;omega
  refine Fo (k:= .i64) (j:=i) rfl rfl rfl rfl aE tI h rfl aE fun p=>d4 ⟨_,rfl⟩ (d4 ⟨_,rfl⟩ (Ci rfl rfl rJ rfl (d4 ⟨_,rfl⟩ ?_)));have da:=ha.2.at i;have db:=hb.2.at i;have e1:wQ .i64 (((a.getD i 0:Nat):Int)-(br:Int))=((a.getD i 0:Nat):Int)-(br:Int):=Do aA aA;refine⟨fun vs H1=>H1=H'/\vs=[.int .i64 (((a.getD i 0:Nat):Int)-(br:Int)-(b.getD i 0:Nat))],g7 (b:=decide ((i:Int)<b.length)) rfl (fun h1=> ?_) (fun h1=> ?_),?_⟩
  ·have h1:=oDt h1;refine Fo (k:= .i64) (j:=i) rfl rfl rfl rfl aE rJ aA rfl aE fun q=>d4 ⟨_,rfl⟩ ⟨rfl,?_⟩;have e2:wQ .i64 (((a.getD i 0:Nat):Int)-(br:Int)-(b.getD i 0:Nat))=((a.getD i 0:Nat):Int)-(br:Int)-(b.getD i 0:Nat):=Do aA aA;simp only[rxs,iv,e1,e2]
  ·have h1:=oDf h1;refine⟨rfl,?_⟩;rw[Hv (l:=b) aA];simp only[rxs,iv,e1];congr 2;omega
  ·rintro vs H1-⟨rfl,rfl⟩;simp only[cA,nA];refine d4 ⟨_,rfl⟩ ⟨fun vs H2=>H2=H1/\∃d br':Nat,vs=[iv d,iv br']/\d<4294967296/\br'<=1/\d+br+b.getD i 0=a.getD i 0+4294967296*br',g7 rfl (fun h1=> ?_) (fun h1=> ?_),?_⟩
   ·have h1:=oDt h1;have e2:wQ .i64 (((a.getD i 0:Nat):Int)-(br:Int)-(b.getD i 0:Nat)+4294967296)=((a.getD i 0+4294967296-br-b.getD i 0:Nat):Int):=by rw[Do aA aA];omega
    refine⟨rfl,a.getD i 0+4294967296-br-b.getD i 0,1,?_,?_,aA,aA⟩
    ·simp only[rxs,iv,e2];rfl
    ·replace h1:((a.getD i 0:Nat):Int)-(br:Int)-(b.getD i 0:Nat)<0:=h1;omega
   ·have h1:=oDf h1;replace h1:¬((a.getD i 0:Nat):Int)-(br:Int)-(b.getD i 0:Nat)<0:=h1;have e2:((a.getD i 0:Nat):Int)-(br:Int)-(b.getD i 0:Nat)=((a.getD i 0-br-b.getD i 0:Nat):Int):=aA;refine⟨rfl,a.getD i 0-br-b.getD i 0,0,?_,aA,aA,aA⟩;simp only[rxs,iv,e2];rfl
   ·rintro vs H2-⟨rfl,d,br',rfl,hd,a4y,key⟩;simp only[cA,nA];have e3:wQ .i64 ((i:Int)+1)=((i+1:Nat):Int):=He aA;refine ic rfl rfl rfl aE aE pY hO hd aA rfl aE rfl fun p v' H3 tJ h3=>⟨⟨br',i+1,v',l++[d],?_,a4y,aA,tJ,h3,by simp[uE],?_⟩,?_⟩
    ·simp only[rxs,iv,e3]
    ·have k2:=congrArg (BP i* ·) key;simp only[eS]at k2;rw[Oz,Oz,ir,uE,BP_succ,cY];omega
    ·simp only[rxs,iv,e3];omega
 ·have h:i=a.length:=by have:=oDf h;omega
  rw[h,aF (aS _),aF hl]at hv;have pX:=Ls hO.2;rw[uE,h]at pX;have sN:br=0:=by
   rcases eC br with e|e
   ·exact e
   ·have:br=1:=aA;rw[this]at hv;omega
  refine g9 (Yq hO.ds) rfl ?_;rintro u H1 ⟨rfl,hu⟩;refine⟨fun h=>(nomatch h),g6 rfl ⟨pY,?_⟩⟩;have:vl a-vl b=vl l:=by rw[sN]at hv;omega
  rw[this];exact hu
end
open Go.RowKit Go.RX Go.WD
section
variable {H:PH} {a b:List Nat} {va vb:Value}
theorem N8 (ha:Ds H va a) (hb:Ds H vb b) (hA:a.length<=100000) (hB:b.length<=100000):Con prog 266 [va,vb] H fun u H'=>Pl H H'/\∃l,Ds H' u l/\l.length<=max a.length b.length+1/\vl l=vl a+vl b:=by
 refine s9 mixed G2 aB rfl ⟨fun vals H'=>∃(c i:Nat) (v:Value) (l:List Nat),vals=[v,iv c,iv i]/\c<=1/\i<=max a.length b.length+1/\(i=max a.length b.length+1->c=0)/\Pl H H'/\Od H H' v l/\l.length=i/\vl l+BP i*c=vl (a.take i)+vl (b.take i),fun vals _=>((max a.length b.length:Nat)+1-intOf (vals.getD 2 undef)).toNat,⟨0,0,_,[],rfl,aA,aA,aA,Pl.refl H,Od.nil H H,rfl,?_⟩,?_⟩
 ·simp[vl]
 rintro vals H'-⟨c,i,v,l,rfl,hc,hi,wZ,pY,hO,uE,hv⟩;simp only[cA,nA];have tI:=ha.mono pY;have rJ:=hb.mono pY;refine⟨fun vs H1=>H1=H'/\vs=[.bool (decide (i<a.length\/i<b.length\/0<c))],?_,?_⟩
 ·refine Ci rfl rfl tI rfl (d4 ⟨_,rfl⟩ (d4 ⟨_,rfl⟩ (g7 (b:=decide ((i:Int)<a.length)) rfl (fun h=> ?_) (fun h=> ?_))))
  ·have h:=oDt h;refine⟨rfl,?_⟩;simp only[rxs];congr 2;rw[eq_comm,oDi];omega
  ·have h:=oDf h;refine Ci rfl rfl rJ rfl (d4 ⟨_,rfl⟩ (g7 (b:=decide ((i:Int)<b.length)) rfl (fun h1=> ?_) (fun h1=> ?_)))
   ·have h1:=oDt h1;refine⟨rfl,?_⟩;simp only[rxs];congr 2;rw[eq_comm,oDi];omega
   ·have h1:=oDf h1;refine d4 ⟨_,rfl⟩ ⟨rfl,?_⟩;simp only[rxs,iv];congr 2;rw[decide_eq_decide];omega
 ·rintro vs H1-⟨rfl,rfl⟩;simp only[cA,nA];refine d4 ⟨_,rfl⟩ (g7 rfl (fun h=> ?_) (fun h=> ?_))
  ·have h:=oDt h;have da:=ha.2.at i;have db:=hb.2.at i;refine Ci rfl rfl tI rfl (d4 ⟨_,rfl⟩ (d4 ⟨_,rfl⟩ ⟨fun vs H2=>H2=H1/\vs=[iv (c+a.getD i 0)],g7 (b:=decide ((i:Int)<a.length)) rfl (fun h1=> ?_) (fun h1=> ?_),?_⟩))
   ·have h1:=oDt h1;refine Fo (k:= .i64) (j:=i) rfl rfl rfl rfl aE tI aA rfl aE fun q=>d4 ⟨_,rfl⟩ (d4 ⟨_,rfl⟩ ⟨rfl,?_⟩);have e2:wQ .i64 ((c:Int)+(a.getD i 0:Nat))=((c+a.getD i 0:Nat):Int):=Jg aA;simp only[rxs,iv,e2]
   ·have h1:=oDf h1;refine⟨rfl,?_⟩;rw[Hv (l:=a) aA];simp only[rxs,iv]
   ·rintro vs H2-⟨rfl,rfl⟩;simp only[cA,nA];refine Ci rfl rfl rJ rfl (d4 ⟨_,rfl⟩ ⟨fun vs H3=>H3=H2/\vs=[iv (c+a.getD i 0+b.getD i 0)],g7 (b:=decide ((i:Int)<b.length)) rfl (fun h1=> ?_) (fun h1=> ?_),?_⟩)
    ·have h1:=oDt h1;refine Fo (k:= .i64) (j:=i) rfl rfl rfl rfl aE rJ aA rfl aE fun q=>d4 ⟨_,rfl⟩ (d4 ⟨_,rfl⟩ ⟨rfl,?_⟩);have e2:wQ .i64 (((c+a.getD i 0:Nat):Int)+(b.getD i 0:Nat))=((c+a.getD i 0+b.getD i 0:Nat):Int):=Jg aA;simp only[rxs,iv,e2]
    ·have h1:=oDf h1;refine⟨rfl,?_⟩;rw[Hv (l:=b) aA];simp only[rxs,iv]
    ·rintro vs H3-⟨rfl,rfl⟩;simp only[cA,nA];generalize hs:c+a.getD i 0+b.getD i 0=s;have e3:wQ .i64 ((i:Int)+1)=((i+1:Nat):Int):=He aA;have e4:((s:Nat):Int).tmod 4294967296=((s%4294967296:Nat):Int):=iu s;have e5:wQ .i64 (((s:Nat):Int).tdiv 4294967296)=((s/4294967296:Nat):Int):=by rw[iy,wn aA]
     refine d4 ⟨_,rfl⟩ (ic (d:=s%4294967296) rfl rfl rfl aE aE pY hO aA aA ?_ aE rfl fun p v' H4 tJ h3=>⟨⟨s/4294967296,i+1,v',l++[s%4294967296],?_,aA,aA,?_,tJ,h3,by simp[uE],?_⟩,?_⟩)
     ·simp only[rxs,iv,e4]
     ·simp only[rxs,iv,e3,e5]
     ·intro h4;rw[Hv (l:=a) aA,Hv (l:=b) aA]at hs;omega
     ·have key:s%4294967296+4294967296*(s/4294967296)=c+a.getD i 0+b.getD i 0:=aA;have k2:=congrArg (BP i* ·) key;simp only[eS]at k2;rw[Oz,Oz,ir,uE,BP_succ,cY];omega
     ·simp only[rxs,iv,e3];omega
  ·have h:=oDf h;have wZ:c=0:=aA;rw[wZ,aF aA,aF aA]at hv;exact g6 rfl ⟨pY,l,hO.ds,aA,aA⟩
theorem N9 {bit:Nat} (ha:Ds H va a) (hA:a.length<=100000) (sZ:bit<=1):Con prog 265 [va,iv bit] H fun u H'=>Pl H H'/\Nu H' u (2*vl a+bit):=by
 refine s9 mixed G5 aB rfl ⟨fun vals H'=>∃(c i:Nat) (v:Value) (l:List Nat),vals=[v,iv c,iv i]/\c<=1/\i<=a.length/\Pl H H'/\Od H H' v l/\l.length=i/\vl l+BP i*c=2*vl (a.take i)+bit,fun vals _=>(a.length-intOf (vals.getD 2 undef)).toNat,⟨bit,0,_,[],rfl,aA,aA,Pl.refl H,Od.nil H H,rfl,?_⟩,?_⟩
 ·simp[vl,BP_zero]
 rintro vals H'-⟨c,i,v,l,rfl,hc,hi,pY,hO,uE,hv⟩;simp only[cA,nA];have tI:=ha.mono pY;refine Ci rfl rfl tI rfl (d4 ⟨_,rfl⟩ (d4 ⟨_,rfl⟩ (g7 (b:=decide ((i:Int)<a.length)) rfl (fun h=> ?_) (fun h=> ?_))))
 ·have h:i<a.length:=by have:=oDt h;omega
  refine Fo (k:= .i64) (j:=i) rfl rfl rfl rfl aE tI h rfl aE fun p=>d4 ⟨_,rfl⟩ (d4 ⟨_,rfl⟩ ?_);have da:=ha.2.at i;have e1:wQ .i64 (wQ .i64 (2*((a.getD i 0:Nat):Int))+(c:Int))=((2*a.getD i 0+c:Nat):Int):=by rw[Do (z:=2*((a.getD i 0:Nat):Int)) aA aA,Do aA aA];omega
  have e2:wQ .i64 (((2*a.getD i 0+c:Nat):Int).tdiv 4294967296)=(((2*a.getD i 0+c)/4294967296:Nat):Int):=by rw[iy,wn aA]
  have e3:wQ .i64 ((i:Int)+1)=((i+1:Nat):Int):=He aA;refine ic (d:=(2*a.getD i 0+c)%4294967296) rfl rfl rfl aE aE pY hO aA aA ?_ aE rfl fun p v' H4 tJ h3=>⟨⟨(2*a.getD i 0+c)/4294967296,i+1,v',l++[(2*a.getD i 0+c)%4294967296],?_,aA,aA,tJ,h3,by simp[uE],?_⟩,?_⟩
  ·simp only[rxs,iv,e1,iu]
  ·simp only[rxs,iv,e1,e2,e3]
  ·have key:(2*a.getD i 0+c)%4294967296+4294967296*((2*a.getD i 0+c)/4294967296)=c+a.getD i 0+a.getD i 0:=aA;have k2:=congrArg (BP i* ·) key;simp only[eS]at k2;rw[Oz,ir,uE,BP_succ,cY];omega
  ·simp only[rxs,iv,e3];omega
 ·have h:i=a.length:=by have:=oDf h;omega
  rw[aF aA]at hv;refine ic rfl rfl rfl aE aE pY hO (d:=c) aA aA rfl aE rfl fun p v' H4 tJ h3=>g9 (Yq h3.ds) rfl ?_;rintro u H5 ⟨rfl,hu⟩;refine⟨fun h=>(nomatch h),g6 rfl ⟨tJ,?_⟩⟩;rw[ir,uE,hv]at hu;exact hu
theorem O0 (ha:Ds H va a) (hb:Ds H vb b) (hA:a.length<=100000) (hB:b.length<=100000):Con prog 247 [va,vb] H fun u H'=>Pl H H'/\Nu H' u (vl a*vl b):=by
 have e0:wQ .i64 ((a.length:Int)+(b.length:Int))=((a.length+b.length:Nat):Int):=Jg aA;refine s9 mixed G4 aB rfl (Ci rfl rfl ha rfl (Ci rfl rfl hb rfl (d4 ⟨_,rfl⟩ (d4 ⟨_,rfl⟩ (gz (kl:= .i64) (kc:= .i64) (m:=a.length+b.length) rfl rfl rfl aA (by simp only[rxs,iv,e0]) fun out H1 qR h1=> ?_)))));refine⟨fun vals H'=>∃(i:Nat) (l:List Nat),vals=[iv i]/\i<=a.length/\Pl H H'/\Od H H' out l/\l.length=a.length+b.length/\(∀k,i+b.length<=k->l.getD k 0=0)/\vl l=vl (a.take i)*vl b,fun vals _=>(a.length-intOf (vals.getD 0 undef)).toNat,⟨0,_,rfl,aA,qR,h1,aD,fun k _=>Ov _ k,?_⟩,?_⟩
 ·rw[vi];simp[vl]
 rintro vals H'-⟨i,l,rfl,hi,pY,hO,uE,hz,hv⟩;simp only[cA,nA];have tI:=ha.mono pY;refine Ci rfl rfl tI rfl (d4 ⟨_,rfl⟩ (d4 ⟨_,rfl⟩ (g7 (b:=decide ((i:Int)<a.length)) rfl (fun h=> ?_) (fun h=> ?_))))
 ·have h:i<a.length:=by have:=oDt h;omega
  have da:=ha.2.at i;refine⟨fun vals H'=>∃(c j:Nat) (l:List Nat),vals=[.int .u64 (c:Nat),iv j]/\j<=b.length/\c<4294967296/\Pl H H'/\Od H H' out l/\l.length=a.length+b.length/\(∀k,i+b.length<=k->l.getD k 0=0)/\vl l+BP (i+j)*c=vl (a.take i)*vl b+BP i*(a.getD i 0*vl (b.take j)),fun vals _=>(b.length-intOf (vals.getD 1 undef)).toNat,⟨0,0,l,rfl,aA,aA,pY,hO,uE,hz,?_⟩,?_⟩
  ·simp[vl,hv]
  rintro vals H2-⟨c,j,l2,rfl,hj,hc,wC,yF,a0f,uI,hv2⟩;simp only[cA,nA];have rI:=ha.mono wC;have rE:=hb.mono wC;refine Ci rfl rfl rE rfl (d4 ⟨_,rfl⟩ (d4 ⟨_,rfl⟩ (g7 (b:=decide ((j:Int)<b.length)) rfl (fun vG=> ?_) (fun vG=> ?_))))
  ·have vG:j<b.length:=by have:=oDt vG;omega
   have db:=hb.2.at j;have dl:=yF.2.at (i+j);have e1:wQ .i64 ((i:Int)+(j:Int))=((i+j:Nat):Int):=Jg aA;have hm:a.getD i 0*b.getD j 0<=4294967295*4294967295:=bU aA aA;generalize hs:c+l2.getD (i+j) 0+a.getD i 0*b.getD j 0=s;have a0e:s<18446744073709551616:=aA;have e2:wQ .u64 ((l2.getD (i+j) 0:Nat):Int)=(l2.getD (i+j) 0:Nat):=wu aA;have e3:wQ .u64 ((a.getD i 0:Nat):Int)=(a.getD i 0:Nat):=wu aA;have e4:wQ .u64 ((b.getD j 0:Nat):Int)=(b.getD j 0:Nat):=wu aA;have e5:wQ .u64 ((c:Int)+(l2.getD (i+j) 0:Nat))=((c+l2.getD (i+j) 0:Nat):Int):=by rw[<-lQ];exact wu aA
   have e6:wQ .u64 (((a.getD i 0:Nat):Int)*(b.getD j 0:Nat))=((a.getD i 0*b.getD j 0:Nat):Int):=by rw[<-eG];exact wu aA
   have e7:wQ .u64 (((c+l2.getD (i+j) 0:Nat):Int)+((a.getD i 0*b.getD j 0:Nat):Int))=(s:Int):=by rw[<-lQ,hs];exact wu a0e
   have e8:wQ .i64 ((s%4294967296:Nat):Int)=((s%4294967296:Nat):Int):=wn aA;have e9:wQ .u64 ((s/4294967296:Nat):Int)=((s/4294967296:Nat):Int):=wu aA;have e10:wQ .i64 ((j:Int)+1)=((j+1:Nat):Int):=He aA;refine Fo (k:= .i64) (j:=i+j) rfl rfl rfl rfl aE yF.ds aA (by simp only[rxs,iv,e1]) aE fun p1=> ?_;refine d4 ⟨_,rfl⟩ (d4 ⟨_,rfl⟩ (Fo (k:= .i64) (j:=i) rfl rfl rfl rfl aE rI h rfl aE fun p2=> ?_));refine d4 ⟨_,rfl⟩ (Fo (k:= .i64) (j:=j) rfl rfl rfl rfl aE rE vG rfl aE fun p3=> ?_);refine d4 ⟨_,rfl⟩ (Yi (k:= .i64) (j:=i+j) (d:=s%4294967296) rfl rfl rfl rfl aE aE wC yF aA aA (by simp only[rxs,iv,e1]) (fun p=>by simp only[rxs,iv,e2,e3,e4,e5,e6,e7,iu,e8]) rfl fun p u H3 tJ h3 _=>⟨⟨s/4294967296,j+1,_,?_,aA,?_,tJ,h3,by rw[cJ];exact a0f,?_,?_⟩,?_⟩)
   ·simp only[rxs,iv,e2,e3,e4,e5,e6,e7,iy,e9,e10]
   ·omega
   ·intro k hk;rw[Il aA];exact uI k hk
   ·have k1:=gu (s%4294967296) (show i+j<l2.length by omega);have key:s%4294967296+4294967296*(s/4294967296)=c+l2.getD (i+j) 0+a.getD i 0*b.getD j 0:=aA;have k2:=congrArg (BP (i+j)* ·) key;simp only[eS]at k2;have k3:BP i*(a.getD i 0*(BP j*b.getD j 0))=BP (i+j)*(a.getD i 0*b.getD j 0):=by
     rw[HS,Nat.mul_left_comm (a.getD i 0),cY]
    rw[Oz,eS,eS,k3,<-Nat.add_assoc i j 1,BP_succ,cY];omega
   ·simp only[rxs,iv,e10];omega
  ·have vG:j=b.length:=by have:=oDf vG;omega
   subst vG;have e1:wQ .i64 ((i:Int)+(b.length:Int))=((i+b.length:Nat):Int):=Jg aA;have e2:wQ .i64 (c:Int)=(c:Int):=wn aA;have e10:wQ .i64 ((i:Int)+1)=((i+1:Nat):Int):=He aA;refine Ci rfl rfl rE rfl (d4 ⟨_,rfl⟩ (d4 ⟨_,rfl⟩ (Yi (k:= .i64) (j:=i+b.length) (d:=c) rfl rfl rfl rfl aE aE wC yF aA hc (by simp only[rxs,iv,e1]) (fun p=>by simp only[rxs,iv,e2]) rfl fun p u H3 tJ h3 _=>⟨⟨i+1,_,?_,aA,tJ,h3,by rw[cJ];exact a0f,?_,?_⟩,?_⟩)))
   ·simp only[rxs,iv,e10]
   ·intro k hk;rw[Il aA];exact uI k aA
   ·have k1:=gu c (show i+b.length<l2.length by omega);rw[uI _ (aS _),gP,eF]at k1;rw[k1,hv2,aF (aS _),Oz,cK,cY]
   ·simp only[rxs,iv,e10];omega
 ·have h:i=a.length:=by have:=oDf h;omega
  rw[aF aA]at hv;refine g9 (Yq hO.ds) rfl ?_;rintro u H5 ⟨rfl,hu⟩;refine⟨fun h=>(nomatch h),g6 rfl ⟨pY,?_⟩⟩;rw[hv]at hu;exact hu
end
def uv (d:Nat):Value:= .int .u64 (d:Nat)
theorem O1 (f:Nat->Value) (d:Nat):Instr.fill (fun j=>some (j*1,1)) ((Array.range (1*1)).map f) [(0,uv d)]=some #[uv d]:=by
 rw[ID];simp[Instr.fill,uv,fw]
def Es (H:PH) (v:Value) (l:List Nat):Prop:=Sl H 1 v l.length (l.map uv)/\Eg l
def Eo (H0 H:PH) (v:Value) (l:List Nat):Prop:=OwS H0 H 54 1 v l.length (l.map uv)/\Eg l
theorem Es.mono {H H':PH} {v:Value} {l:List Nat} (h:Es H v l) (hl:Pl H H'):Es H' v l:=⟨h.1.mono hl,h.2⟩
theorem Eo.mono {H0 H H':PH} {v:Value} {l:List Nat} (h:Eo H0 H v l) (hl:Pl H H'):Eo H0 H' v l:=⟨h.1.mono hl,h.2⟩
theorem Eo.es {H0 H:PH} {v:Value} {l:List Nat} (h:Eo H0 H v l):Es H v l:=⟨h.1.sl,h.2⟩
def Mu (H:PH) (v:Value) (n:Nat):Prop:=∃l,Es H v l/\Um l/\ul l=n
theorem Mu.mono {H H':PH} {v:Value} {n:Nat} (h:Mu H v n) (hl:Pl H H'):Mu H' v n:=by
 obtain⟨l,h1,h2⟩:=h;exact⟨l,h1.mono hl,h2⟩
theorem Es.cells {H:PH} {v:Value} {l:List Nat} (h:Es H v l):v.cells= #[v]:=by
 obtain⟨⟨_,a,c,h2,_⟩,_⟩:=h;rw[h2];rfl
theorem Es.one {H:PH} {v:Value} {l:List Nat} (h:Es H v l):v.cells.size=1/\o0 v.cells:=by
 rw[h.cells];obtain⟨⟨_,a,c,h2,_⟩,_⟩:=h;refine⟨rfl,fun c hc=> ?_⟩;simp at hc;rw[hc,h2];rfl
theorem O2 {l:List Nat} {i:Nat} (h:i<l.length):((l.map uv).drop (i*1)).take 1=[uv (l.getD i 0)]:=by
 rw[dN,<-List.map_drop,Ou h];rfl
theorem Ur:prog.cellsOf 54=1:=aB
theorem Lx:w9 prog 54=true:=aB
theorem JH:An prog 54=false:=aB
theorem Ly:prog.underlying 76=some (.slice 54):=aB
theorem ja:∃i,prog.info? 54=some i/\i.zero=some (.int .u64 0)/\i.size=1/\i.bytes=8:=by
 refine⟨(prog.info? 54).getD default,aB,aB,aB,aB⟩
section
variable {G:Value->PH->Prop} {nx:List (List Value->PH->Prop)} {ρ:List Value} {H H0:PH} {o o1 o2:Oper} {x y x2 y2:Operand} {id i id2 i2:Nat} {args args2:List SV} {t:Tree} {v:Value} {l:List Nat}
theorem Bd (ho:o.op= .call ⟨.builtin .len,#[x],#[76]⟩) (hx:g8 [x] [v] x=v) (h:Es H v l) (ha:args.map (D prog ρ)=[v]) (n:den prog G t nx (ρ++[iv l.length]) H):den prog G (.prim id i o args t) nx ρ H:=
 j7 ((uw ho hx Ly h.1).rds H) ha n
theorem En {k:IntKind} {j:Nat} (sR:o1.op= .indexAddr 76 x y) (sS:o2.op= .load 54 x2) (hx:g8 [x,y] [v,.int k (j:Nat)] x=v) (hy:g8 [x,y] [v,.int k (j:Nat)] y= .int k (j:Nat)) (rG:∀p,g8 [x2] [p] x2=p) (h:Es H v l) (hj:j<l.length)
  (ha:args.map (D prog ρ)=[v,.int k (j:Nat)]) (rI:∀p,args2.map (D prog (ρ++[p]))=[p]) (n:∀p,den prog G t nx (ρ++[p]++[uv (l.getD j 0)]) H):den prog G (.prim id i o1 args (.prim id2 i2 o2 args2 t)) nx ρ H:=by
 obtain⟨b,q,cs,T',fz,h1,h2,h3,h4⟩:=ux (P:=prog) sR hx hy Ly Lx Ur Nat.zero_lt_one h.1 hj;rw[O2 hj]at h4;exact j7 (h1.rds H) ha (j7 (gf sS (rG _) h2 Lx JH Ur h3 h4) (rI _) (n _))
theorem Mc {k:IntKind} {j d:Nat} {pf:Bool} (sR:o1.op= .indexAddr 76 x y) (sS:o2.op= .store 54 x2 y2) (hx:g8 [x,y] [v,.int k (j:Nat)] x=v) (hy:g8 [x,y] [v,.int k (j:Nat)] y= .int k (j:Nat)) (rG:∀p,g8 [x2,y2] [p,uv d] x2=p) (vL:∀p,g8 [x2,y2] [p,uv d] y2=uv d)
  (pY:Pl H0 H) (h:Eo H0 H v l) (hj:j<l.length) (hd:d<18446744073709551616) (ha:args.map (D prog ρ)=[v,.int k (j:Nat)]) (rI:∀p,args2.map (D prog (ρ++[p]))=[p,uv d]) (uT:pf=false)
  (n:∀p u H',Pl H0 H'->Eo H0 H' v (l.set j d)->(∃g ob,H0 g=none/\H'=H.put g ob)->den prog G t nx (ρ++[p]++[u]) H'):den prog G (.prim id i o1 args (.eff pf id2 i2 o2 args2 t)) nx ρ H:=by
 obtain⟨⟨qD,hv⟩,hD⟩:=h;rcases hv with⟨_,h0⟩|⟨g,cap,cur,rfl,rZ,hg,hnc,uC,qM,vA⟩
 ·omega
 rw[dN]at qM vA;have xY:=Xz (P:=prog) (m:=(j:Int)) (n:=l.length) sR hx hy Ly Lx aA aA;rw[aV,Ur,bK,dN]at xY;refine j7 (xY.rds H) ha (t7 (Uf sS (rG _) (vL _) hg Lx (by rw[Ur];omega) (by rw[Ur];rfl) (vf _ _)) (rI _) ?_);rintro u H' ⟨rfl,rfl⟩;subst uT;have uH:(uv d).cells.toList=[uv d]:=rfl;rw[uH];refine⟨fun h=>(nomatch h),n _ _ _ ?_ ⟨⟨aD,.inr ⟨g,cap,_,by rw[cJ],rZ,PH.put_self _ _ _,by rw[cJ];exact hnc,uC,?_,?_⟩⟩,hD.set j hd⟩ ⟨g,_,rZ,rfl⟩⟩
 ·intro k ob hk;rw[PH.put_ne _ _ (fun e=>by rw[e,rZ]at hk;cases hk)];exact pY _ _ hk
 ·show(cur.setIfInBounds j (uv d)).size=_;rw[Array.size_setIfInBounds,qM,dN]
 ·show(cur.setIfInBounds j (uv d)).toList.take _=_;rw[Array.toList_setIfInBounds,dN,cJ,List.take_set,vA,List.map_set]
theorem JI {g n:Nat} {cs:Array Value} {l:List Nat} (hg:H g=none) (hl:l.length=n) (hn:n<=maxLen) (hc:cs.toList=l.map uv) (hD:Eg l):Eo H (H.put g (.cells cs 54 (0,0))) (.slice (some ⟨g,0,none⟩) n n) l:=by
 have hs:cs.size=n:=by rw[<-dC,hc,aX,hl]
 refine⟨⟨aD,.inr ⟨g,n,cs,by rw[hl],hg,PH.put_self _ _ _,aA,hn,aA,?_⟩⟩,hD⟩;rw[hc,aF aD]
theorem Yr {kl kc:IntKind} {pf:Bool} {m:Nat} (ho:o.op= .makeSlice 76 x y) (hx:g8 [x,y] [.int kl (m:Nat),.int kc (m:Nat)] x= .int kl (m:Nat)) (hy:g8 [x,y] [.int kl (m:Nat),.int kc (m:Nat)] y= .int kc (m:Nat)) (hm:m<=1000000) (ha:args.map (D prog ρ)=[.int kl (m:Nat),.int kc (m:Nat)])
  (n:∀v H',Pl H H'->Eo H H' v (List.replicate m 0)->den prog G t nx (ρ++[v]) H'):den prog G (.eff pf id i o args t) nx ρ H:=by
 obtain⟨ti,h1,h2,h3,h4⟩:=ja;refine t7 (gg ho hx hy Ly h1 h2 h3 (by rw[h4];omega) (by simp only[maxLen];omega)) ha ?_;rintro v H' ⟨g,hg,rfl,rfl⟩;refine⟨fun _=>PH.le_put hg _,n _ _ (PH.le_put hg _) (JI hg aD (by simp only[maxLen];omega) ?_ (Eg.zeros m))⟩;rw[dN];show(madeCells #[.int .u64 0] m).toList=_;apply bG;intro j;rw[bO,dX];simp only[madeCells,Array.toList_map,bO,Array.toList_range];by_cases hj:j<m
 ·simp[hj,Nat.mod_one,uv]
 ·simp[hj]
theorem JJ {d:Nat} {pf:Bool} (ho:o.op= .buildSlice 76 1 #[(0,x)]) (hx:g8 [x] [uv d] x=uv d) (hd:d<18446744073709551616) (ha:args.map (D prog ρ)=[uv d])
  (n:∀v H',Pl H H'->Eo H H' v [d]->den prog G t nx (ρ++[v]) H'):den prog G (.eff pf id i o args t) nx ρ H:=by
 obtain⟨ti,h1,h2,h3,h4⟩:=ja;refine t7 (gh (cells:= #[uv d]) ho Ly h1 h2 (by rw[h3];decide) (by rw[h3];decide) (by rw[h3];simp only[aN,bJ,hx];exact O1 _ d)) ha ?_;rintro v H' ⟨g,hg,rfl,rfl⟩;exact⟨fun _=>PH.le_put hg _,n _ _ (PH.le_put hg _) (JI hg rfl (by simp only[maxLen];omega) rfl (Eg.one hd))⟩
end
end Go.Z

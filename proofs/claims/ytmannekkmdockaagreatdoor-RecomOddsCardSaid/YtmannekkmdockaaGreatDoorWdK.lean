/- Lemmas of the proof. -/
import Derived.Test.YtmannekkmdockaaGreatDoorRfA
import Derived.Laws.Externs
import Derived.Shelf.Spec.BitsCarry
import Derived.IntWalk
import Derived.Lib.Mul64
import Derived.Test.YtmannekkmdockaaGreatDoorRxV
open Go.Proofs
open Go.Result renaming andThen_ok->eH
open Go.Sem renaming run_bind->eI
open Int renaming fdiv_eq_ediv_of_nonneg->jM,toNat->oC
open List renaming range->eP
open Nat renaming add_assoc->jW,add_mul_div_left->jA,add_mul_mod_self_left->lO,div_div_eq_div_mul->mD,div_eq_of_lt->fZ,div_lt_iff_lt_mul->fM,le_div_iff_mul_le->jX,lt_succ_self->eL,mul_add->eS,pow_add->fE,pow_lt_pow_iff_right->iG,pow_pos->jL,two_pow_add_eq_or_of_lt->lI,zero_lt_succ->eM
open Go.IntKind renaming wrap->wQ
namespace Go.Z
open Proofs.Tryz RowKit RX WD IntWalk
theorem vu (b:Bool) (n:Nat):Value.agg ((#[Value.bool b]++words n).extract 1 9)=wd n:=rfl
theorem Uk (b:Bool) (n:Nat):(#[Value.bool b]++words n).size=9:=rfl
theorem vv (b:Bool) (n:Nat):o0 (#[Value.bool b]++words n):=by
 intro c hc;simp only[Array.toList_append,aQ]at hc;rcases hc with h|h
 ·simp at h;subst h;rfl
 ·exact words_one n c h
theorem Yj:r8 prog 206=wd 0:=by
 have:r8 prog 206= .agg #[.int .u64 0,.int .u64 0,.int .u64 0,.int .u64 0,.int .u64 0,.int .u64 0,.int .u64 0,.int .u64 0]:=aB;rw[this];simp[wd,words,wf,Yd]
theorem Lt:r8 prog 56=wd 0:=by
 have:r8 prog 56= .agg #[.int .u64 0,.int .u64 0,.int .u64 0,.int .u64 0,.int .u64 0,.int .u64 0,.int .u64 0,.int .u64 0]:=aB;rw[this];simp[wd,words,wf,Yd]
theorem vw (x y c:Nat) (hx:x<18446744073709551616) (hy:y<18446744073709551616) (hc:c<=1):Own prog 231 [.int .u64 x,.int .u64 y,.int .u64 c] (.tuple #[.int .u64 (((x+y+c)%18446744073709551616:Nat):Int),.int .u64 (((x+y+c)/18446744073709551616:Nat):Int)]):=fun w=>by
 show(callFunc _ #[_,_,_]).run _ w=_;rw[run_callFunc_extern Tryz.func231 aB aB aB (e:=add64Entry) aB,run_add64 x y c aA aA aA aA];simp only[Result.andThen];congr 5<;>omega
theorem IF (x y b:Nat) (hb:b<=1):Own prog 232 [.int .u64 x,.int .u64 y,.int .u64 b] (.tuple #[.int .u64 (((x+18446744073709551616-y-b)%18446744073709551616:Nat):Int),.int .u64 ((if x<y+b then 1 else 0:Nat):Int)]):=fun w=>by
 show(callFunc _ #[_,_,_]).run _ w=_;rw[run_callFunc_extern Tryz.func232 aB aB aB (e:=sub64Entry) aB,run_sub64 x y b hb];rfl
theorem J1 (f g:Nat->Nat) (k i:Nat):(if i=k then f k else if i<k then f i else g i)=if i<k+1 then f i else g i:=by
 by_cases h1:i=k
 ·subst h1;rw[if_pos rfl,if_pos aA]
 ·rw[if_neg h1];by_cases h2:i<k
  ·rw[if_pos h2,if_pos aA]
  ·rw[if_neg h2,if_neg aA]
theorem vz (a b:Nat):Det prog 196 [wd a,wd b] (.tuple #[wd (sb a b),.int .u64 (bw a b 8)]):=by
 refine Gz mixed E7 aB rfl ?_;refine j3 ⟨words_size a,words_one a⟩ (j3 ⟨words_size b,words_one b⟩ ?_);refine⟨fun l=>∃k,k<=8/\l=[.int .u64 (bw a b k),.int .i64 (k:Nat),.agg (wf fun j=>if j<k then dig (sb a b) j else dig a j)],fun l=>(8-intOf (l.getD 1 undef)).toNat,⟨0,aA,?_⟩,?_⟩
 ·rw[D6];rfl
 ·rintro vals-⟨k,hk,rfl⟩;refine j3 ⟨_,rfl⟩ (Ce (b:=decide ((k:Int)<8)) rfl (fun h=> ?_) (fun h=> ?_))
  ·have hk:k<8:=by simp at h;omega
   refine j3 ⟨_,_,rfl⟩ (j3 ⟨?_,?_⟩ ?_)
   ·show(0:Int)<=(k:Int);omega
   ·show(k:Int)<8;omega
   ·refine C0 (IF (dig a k) (dig b k) (bw a b k) (HH _ _ _)) ?_ ?_
    ·simp only[rxs,vh _ hk,Jd b hk,Nat.lt_irrefl,if_false]
    ·refine j3 ⟨_,rfl,eM _⟩ (j3 ⟨_,rfl,eL _⟩ (j3 ⟨rfl,?_⟩ ?_))
     ·exact vf _ _
     ·refine⟨⟨k+1,aA,?_⟩,?_⟩
      ·have e:(k:Int)+1=((k+1:Nat):Int):=aA;simp only[rxs,<-D7,<-D8 a b hk,e,i64_in _ (show -9223372036854775808<=((k+1:Nat):Int)/\((k+1:Nat):Int)<=9223372036854775807 from aA)];rw[Ye _ hk,Ot (g:=fun j=>if j<k+1 then dig (sb a b) j else dig a j) (fun i _=> ?_)];exact J1 _ _ k i
      ·simp only[rxs,i64_in _ (show -9223372036854775808<=(k:Int)+1/\(k:Int)+1<=9223372036854775807 from aA)];omega
  ·have hk:k=8:=by simp at h;omega
   subst hk;refine Db ?_ rfl;simp only[rxs,Am,gi (n:=sb a b) (f:=fun j=>if j<8 then dig (sb a b) j else dig a j) (fun i hi=>by rw[if_pos hi])];rfl
theorem J2 (a b:Nat):Det prog 195 [wd a,wd b] (.int .i64 (sg (a%M) (b%M))):=by
 refine Gz mixed E8 aB rfl ?_;refine j3 ⟨words_size a,words_one a⟩ (j3 ⟨words_size b,words_one b⟩ ?_);refine⟨fun l=>∃k,k<=8/\(∀j,k<=j->j<8->dig a j=dig b j)/\l=[.int .i64 0,.int .i64 ((k:Int)-1)],fun l=>(intOf (l.getD 1 undef)+1).toNat,⟨8,aA,fun j h1 h2=>aA,rfl⟩,?_⟩;rintro vals-⟨k,hk,hs,rfl⟩;refine j3 ⟨_,rfl⟩ (Ce (b:=decide ((k:Int)-1≥0)) rfl (fun h=> ?_) (fun h=> ?_))
 ·have zK:0<k:=by simp at h;omega
  obtain⟨m,rfl⟩:∃m,k=m+1:=⟨k-1,aA⟩;have hm:m<8:=aA;have em:((m+1:Nat):Int)-1=(m:Int):=aA;rw[em];refine j3 ⟨_,_,rfl⟩ (j3 ⟨?_,?_⟩ (j3 ⟨dig a m,?_⟩ (j3 ⟨dig b m,?_⟩ ?_)))
  ·show(0:Int)<=(m:Int);omega
  ·show(m:Int)<8;omega
  ·simp only[rxs,Jd a hm]
  ·simp only[rxs,Jd b hm]
  ·refine Ce (b:=decide (dig a m≠dig b m)) ?_ (fun h1=> ?_) (fun h1=> ?_)
   ·simp only[rxs,Jd a hm,Jd b hm];congr 1;rw[bC];simp;omega
   ·have h1:dig a m≠dig b m:=by simpa using h1
    refine Ce (b:=decide (dig a m<dig b m)) ?_ (fun h2=> ?_) (fun h2=> ?_)
    ·simp only[rxs,Jd a hm,Jd b hm];congr 1;rw[bC];simp
    ·have:=HJ hm (fun j h h'=>hs j aA h') (by simpa using h2);exact Db rfl (by simp[D,Am,sg,this])
    ·have:=HJ (a:=b) (b:=a) hm (fun j h h'=>(hs j aA h').symm) (by simp at h2;omega);exact Db rfl (by simp only[rxs,Am,sg];rw[if_neg aA,if_neg aA])
   ·have h1:dig a m=dig b m:=by simpa using h1
    refine⟨⟨m,aA,fun j h h'=> ?_,?_⟩,?_⟩
    ·rcases Nat.eq_or_lt_of_le h with rfl|h
     ·exact h1
     ·exact hs j aA h'
    ·simp only[rxs,i64_in _ (show -9223372036854775808<=(m:Int)-1/\(m:Int)-1<=9223372036854775807 from aA)]
    ·simp only[rxs,i64_in _ (show -9223372036854775808<=(m:Int)-1/\(m:Int)-1<=9223372036854775807 from aA)];omega
 ·have zK:k=0:=by simp at h;omega
  subst zK;refine Db rfl ?_;have:a%M=b%M:=by rw[Gk];exact HD fun i hi=>hs i aA hi
  simp[D,Am,sg,this]
open Go.RowKit Go.RX Go.WD Go.IntWalk
theorem J3 {P:Program} {e:TypeId} (hu:P.underlying e=some (.int .u64)) (d x y:Nat) (w:World):(Op.equalIn (d+1) e (.int .u64 x) (.int .u64 y)).run P w= .ok (decide (x=y)) w:=by
 simp only[Op.equalIn,eI,run_underlying hu,eH,if_true,Sem.run_pure];congr 1;rw[bC];simp;omega
theorem IG {P:Program} {e:TypeId} (hT:w9 P e=true) (hc:P.cellsOf e=1) (uW:An P e=false) (hu:P.underlying e=some (.int .u64)) (d:Nat) (f g:Nat->Nat) (w:World):∀is:List Nat,(∀i∈is,i<8)->
  (Op.eqItems (d+1) e (P.cellsOf e) (wf f) (wf g) is).run P w= .ok (decide (∀i∈is,f i=g i)) w:=by
 intro is;induction is with
 |nil=>intro _;simp[Op.eqItems]
 |cons i is ih=>
  intro h;have hi:=h i aD;have hp:∀f:Nat->Nat,(part e (wf f) (i*P.cellsOf e)).run P w= .ok (.int .u64 (f i)) w:=fun f=>by
   rw[Xp hT (by rw[D1,hc];omega) aA w,uW,hc,dN];simp only[bZ,if_false,vh f hi]
  simp only[Op.eqItems,eI,hp,eH,J3 hu];by_cases he:f i=g i
  ·simp only[he,decide_true,Bool.not_true,bZ,if_false,ih (fun j hj=>h j (by simp[hj]))];congr 1;rw[bC];simp[he]
  ·simp[he]
theorem IH (a b:Nat):(∀i∈eP 8,dig a i=dig b i)↔a%M=b%M:=
 ⟨fun h=>by rw[Gk];exact HD fun i hi=>h i (bR.2 hi),fun h i hi=>by rw[Gk]at h;exact vg h (bR.1 hi)⟩
theorem J4 {P:Program} {o:Oper} {t t' e:TypeId} {x y:Operand} {va vb:Value} {a b:Nat} (ho:o.op= .binOp .eql t x y t') (hva:va=wd a) (hvb:vb=wd b) (hx:g8 [x,y] [va,vb] x=va) (hy:g8 [x,y] [va,vb] y=vb)
  (hu:P.underlying t=some (.array 8 e)) (hg:P.eqGuardType P.depth t=false) (hT:w9 P e=true) (hc:P.cellsOf e=1) (uW:An P e=false) (hue:P.underlying e=some (.int .u64)):
  Yld P o [va,vb] (.bool (decide (a%M=b%M))):=fun w=>by
 have qK:o.op.operands.toList=[x,y]:=by simp[ho,Op.operands]
 obtain⟨i,hi⟩:∃i,P.info? e=some i:=by
  unfold w9 at hT;rw[bA,Option.isSome_iff_exists]at hT;exact hT.1
 subst hva;subst hvb;have hr:(Op.equal t (wd a) (wd b)).run P w= .ok (decide (a%M=b%M)) w:=by
  show(Op.equalIn (9999+1) t (.agg (wf (dig a))) (.agg (wf (dig b)))).run P w=_;rw[run_equalIn_array w 9999 _ _ hu hi,show(9999:Nat)=9998+1 from rfl,IG hT hc uW hue 9998 (dig a) (dig b) w _ (fun i hi=>bR.1 hi)];congr 1;rw[bC,oDi,oDi];exact IH a b
 rw[qK];simp only[execOp,ho,hx,hy];simp only[wd]at hr⊢;simp[eqGuard,binOp,hg,hr]
section
variable {o:Oper} {x y:Operand} {va vb:Value} {a b:Nat}
theorem J5 (ho:o.op= .binOp .eql 56 x y 56) (hva:va=wd a) (hvb:vb=wd b) (hx:g8 [x,y] [va,vb] x=va) (hy:g8 [x,y] [va,vb] y=vb):Yld prog o [va,vb] (.bool (decide (a%M=b%M))):=
 J4 (e:=54) ho hva hvb hx hy aB aB aB aB aB aB
end
theorem J6 (d:Nat) (h:d<18446744073709551616):((d:Int).fdiv (2^(min ((63:Int).toNat) (IntKind.bits .u64)))==1)=decide (¬d<9223372036854775808):=by
 have e:(2:Int)^(min ((63:Int).toNat) (IntKind.bits .u64))=9223372036854775808:=aC;rw[e,jM _ aA,bC];simp;omega
theorem J7 {a:Nat} (h:¬a%M<HM):sb 0 a%M=(toI a).natAbs%M:=by
 have hl:=cO a Rt;have:=Ko;unfold sb toI;rw[if_neg h];congr 1;omega
theorem II (a:Nat):(toI a).natAbs<M:=by
 obtain⟨h1,h2⟩:=D9 a;have:=Ko;omega
theorem J8 (a:Nat):Det prog 128 [wd a] (nm (toI a)):=by
 have hl:=cO a Rt;have hM:=Ko;have a4r:=E0 a;have hc:∀ρ:List Value,D prog (wd a::ρ) (.op2 .eql .u64 (.op2 .shr .u64 (.cell (.v 0) 7 0 noI) (kU 63)) (kU 1))= .bool (decide (¬a%M<HM)):=fun ρ=>by
  simp only[rxs,Jd a (show 7<8 by omega)];rw[J6 _ (Yc a 7)];congr 1;rw[bC,oDi,oDi,a4r]
 refine Gz mixed E9 aB rfl (j3 ⟨words_size a,words_one a⟩ (j3 ⟨dig a 7,?_⟩ (Ce (hc []) (fun h=> ?_) (fun h=> ?_))))
 ·simp only[rxs,Jd a (show 7<8 by omega)]
 ·have h:¬a%M<HM:=by simpa using h
  refine Oq (vz 0 a) (by simp only[rxs,Yj];rfl) ?_;refine j3 ⟨_,rfl,eM _⟩ (j3 ⟨_,rfl,eL _⟩ (j3 ⟨words_size _,words_one _⟩ (Db rfl ?_)));simp only[aN,bJ,Am];rw[D,cL,cB,hc];simp only[rxs];show nb _ (sb 0 a)=nm (toI a);exact HN (by rw[bC];simp[toI,if_neg h];omega) (J7 h)
 ·have h:a%M<HM:=by simpa using h
  refine Db rfl ?_;simp only[aN,bJ,Am];rw[D,hc];simp only[rxs];show nb _ a=nm (toI a);refine HN (by rw[bC];simp[toI,if_pos h];omega) ?_;unfold toI;rw[if_pos h,dJ,Nat.mod_mod]
theorem wa (b:Bool) (n:Nat):(nb b n).cells= #[.bool b]++words n:=rfl
def told (z:Int):Value:=if -(HM:Int)<=z/\z<HM then .tuple #[iw z,.int .i64 0]else .tuple #[wd 0,.int .i64 6]
theorem J9 (z:Int) (hz:z.natAbs<M):Det prog 126 [nm z] (told z):=by
 have hH:=E3;refine Gz mixed F0 aB rfl (j3 ⟨Uk _ _,vv _ _⟩ (Oq (J2 z.natAbs HM) ?_ (j3 ⟨_,rfl⟩ ?_)))
 ·simp only[rxs,nm,wa,vu,Yj,E4];rfl
 ·rw[cP hz,cP hH];refine Ce (b:=decide (sg z.natAbs HM>0)) rfl (fun h=> ?_) (fun h=> ?_)
  ·have h:=sg_pos.1 (oDt h);refine Db rfl ?_;simp only[rxs,Am,Lt,told];rw[if_neg aA]
  ·have h:¬HM<z.natAbs:=fun e=>oDf h (sg_pos.2 e);refine Ce (b:=sg z.natAbs HM==0) rfl (fun h1=> ?_) (fun h1=> ?_)
   ·have h1:=sg_zero.1 (by simpa using h1);refine j3 ⟨_,rfl⟩ (Ce (b:= !decide (z<0)) rfl (fun h2=> ?_) (fun h2=> ?_))
    ·have h2:¬z<0:=by simpa using h2
     refine Db rfl ?_;simp only[rxs,Am,Lt,told];rw[if_neg aA]
    ·have h2:z<0:=by simpa using h2
     refine Oq (vz 0 z.natAbs) ?_ (j3 ⟨_,rfl,eM _⟩ (j3 ⟨_,rfl,eL _⟩ (j3 ⟨words_size _,words_one _⟩ (Db rfl ?_))))
     ·simp only[rxs,nm,wa,vu,Yj];rfl
     ·simp only[rxs,Am,told];rw[if_pos aA,<-HO h2 hz];rfl
   ·have h1:z.natAbs≠HM:=fun e=>by simp[sg_zero.2 e]at h1
    refine j3 ⟨_,rfl⟩ (Ce (b:=decide (z<0)) rfl (fun h2=> ?_) (fun h2=> ?_))
    ·have h2:z<0:=by simpa using h2
     refine Oq (vz 0 z.natAbs) ?_ (j3 ⟨_,rfl,eM _⟩ (j3 ⟨_,rfl,eL _⟩ (j3 ⟨words_size _,words_one _⟩ (Db rfl ?_))))
     ·simp only[rxs,nm,wa,vu,Yj];rfl
     ·simp only[rxs,Am,told];rw[if_pos aA,<-HO h2 hz];rfl
    ·have h2:¬z<0:=by simpa using h2
     refine Db rfl ?_;simp only[told];rw[if_pos aA,<-E5 aA hz];rfl
open Go.RowKit Go.RX Go.WD Go.IntWalk
theorem wb (z:Int):∃a b,told z= .tuple #[wd a,b]:=by
 unfold told;split
 ·exact⟨_,_,rfl⟩
 ·exact⟨_,_,rfl⟩
end Go.Z
namespace Go.WD
open RX
theorem IJ:PW 1=18446744073709551616:=by rw[y7,Lq,cM]
theorem Ul {p i:Nat} (h:p<PW i):dig p i=0:=by
 unfold dig;rw[fZ h]
theorem IK (p:Nat):dig p 0=p%18446744073709551616:=by unfold dig;rw[Lq,Nat.div_one]
theorem wc (a b:Nat) (ha:a<18446744073709551616) (hb:b<18446744073709551616):wQ .u64 ((BitVec.ofInt (IntKind.bits .u64) (a:Int)|||BitVec.ofInt (IntKind.bits .u64) (b:Int)).toNat:Int)=((a|||b:Nat):Int):=by
 have h:=Nat.or_lt_two_pow (n:=64) ha hb;have e:(BitVec.ofInt 64 (a:Int)|||BitVec.ofInt 64 (b:Int)).toNat=a|||b:=by
  rw[BitVec.toNat_or,BitVec.toNat_ofInt,BitVec.toNat_ofInt];congr 1<;>omega
 show wQ .u64 ((BitVec.ofInt 64 (a:Int)|||BitVec.ofInt 64 (b:Int)).toNat:Int)=_;rw[e,IntKind.wrap_u64];omega
theorem Yk (a:Nat) (ha:a<18446744073709551616):wQ .u64 ((BitVec.ofInt (IntKind.bits .u64) (a:Int)&&&BitVec.ofInt (IntKind.bits .u64) 4294967295).toNat:Int)=((a%4294967296:Nat):Int):=by
 have e:(BitVec.ofInt 64 (a:Int)&&&BitVec.ofInt 64 4294967295).toNat=a%4294967296:=by
  rw[BitVec.toNat_and,BitVec.toNat_ofInt,BitVec.toNat_ofInt,show((4294967295:Int)%(2^64:Nat)).toNat=2^32-1 from aC,Nat.and_two_pow_sub_one_eq_mod];omega
 show wQ .u64 ((BitVec.ofInt 64 (a:Int)&&&BitVec.ofInt 64 4294967295).toNat:Int)=_;rw[e,IntKind.wrap_u64];omega
theorem Un (a k:Nat) (hk:k<=64):(a:Int).fdiv (2^min k (IntKind.bits .u64))=((a/2^k:Nat):Int):=by
 rw[show min k (IntKind.bits .u64)=k from bY hk,show(2:Int)^k=((2^k:Nat):Int)from aD,jM _ (Int.natCast_nonneg _)];exact(Int.natCast_ediv a (2^k)).symm
open Go.RX
theorem K7 {k i:Nat} (h:i<k):dig (PW k-1) i=18446744073709551615:=by
 obtain⟨d,rfl⟩:=Nat.exists_eq_add_of_lt h;unfold dig;have hp:=Cf i;have hd:=Cf d;have e:PW (i+d+1)-1=(PW i-1)+PW i*(PW (d+1)-1):=by
  have h1:PW (i+d+1)=PW i*PW (d+1):=by rw[jW,Rn]
  have h2:0<PW (d+1):=Cf _;rw[h1,Nat.mul_sub,dN];have h3:PW i<=PW i*PW (d+1):=Nat.le_mul_of_pos_right _ h2;omega
 rw[e,jA _ _ hp,fZ aA,bK,y7];omega
theorem M_W:M=18446744073709551616*PW 7:=by rw[Gk,show(8:Nat)=7+1 from rfl,y7];exact cX _ _
theorem K8 {t:Nat} (h0:0<t) (h1:t<=18446744073709551616) {i:Nat} (hi:i<8):dig (M-t) i=if i=0 then 18446744073709551616-t else 18446744073709551615:=by
 have e:M-t=(18446744073709551616-t)+18446744073709551616*(PW 7-1):=by
  have:=Cf 7;rw[M_W];omega
 rw[e];split
 ·rename_i h;subst h;rw[IK,lO,cP aA]
 ·rename_i h;obtain⟨j,rfl⟩:∃j,i=j+1:=⟨i-1,aA⟩;rw[<-K7 (show j<7 by omega)];unfold dig;rw[y7 j,cX (PW j),<-mD,jA _ _ aA,fZ (show 18446744073709551616-t<18446744073709551616 by omega),bK]
theorem K9 {t:Nat} (h:t<18446744073709551616) (i:Nat):dig t i=if i=0 then t else 0:=by
 split
 ·rename_i e;subst e;rw[IK,cP h]
 ·rename_i e;exact Ul (aU (by rw[IJ];exact h) (Lr (show 1<=i by omega)))
theorem IL:18446744073709551616<=HM/\HM<M:=by
 have h1:=Ru;have h2:PW 1<=PW 7:=Lr aA;rw[IJ]at h2;have h3:=Ko;constructor
 ·rw[h1];omega
 ·omega
theorem L1 {n:Int} (h0: -18446744073709551616<=n) (h1:n<18446744073709551616):words (rs n)=wf fun i=>if i=0 then(n%18446744073709551616).toNat else if n<0 then 18446744073709551615 else 0:=by
 have hM:=IL;refine(Ot fun i hi=> ?_);by_cases hn:n<0
 ·rw[gm hn aA,show(n+M).toNat=M-n.natAbs from aA,K8 aA aA hi];split
  ·omega
  ·rfl
 ·rw[gj aA aA,K9 aA];split
  ·omega
  ·rfl
def sgI (x y:Int):Int:=if x<y then -1 else if x=y then 0 else 1
theorem we {n:Int} (h0: -9223372036854775808<=n) (h1:n<9223372036854775808):Je n:=by
 have:=IL;unfold Je;omega
open Go.RX
def blen (x:Nat):Nat:=if x=0 then 0 else x.log2+1
theorem Yl (x:Nat):x<2^blen x:=by
 unfold blen;split
 ·rename_i h;subst h;decide
 ·exact Nat.lt_log2_self
theorem Ym {x:Nat} (h:x≠0):0<blen x/\2^(blen x-1)<=x:=by
 unfold blen;rw[if_neg h];exact⟨aA,by simpa using Nat.log2_self_le h⟩
theorem L3 {x k:Nat} (h0:0<k) (h1:2^(k-1)<=x) (h2:x<2^k):blen x=k:=by
 have hx:x≠0:=fun e=>by subst e;have:=jL (n:=k-1) (show 0<2 by omega);omega
 obtain⟨p1,p2⟩:=Ym hx;have p3:=Yl x;have a1:k-1<blen x:=(iG (show 1<2 by omega)).1 (aZ h1 p3);have a2:blen x-1<k:=(iG (show 1<2 by omega)).1 (aZ p2 h2);omega
theorem ig {x k:Nat} (h:2^k<=x):blen x=k+blen (x/2^k):=by
 have hp:0<2^k:=jL aA;have hq:x/2^k≠0:=by
  have:=(jX hp).2 (show 1*2^k<=x by omega);omega
 obtain⟨p1,p2⟩:=Ym hq;have p3:=Yl (x/2^k);refine L3 aA ?_ ?_
 ·rw[show k+blen (x/2^k)-1=(blen (x/2^k)-1)+k from aA,fE];exact(jX hp).1 p2
 ·rw[fE,cX];exact(fM hp).1 p3
theorem blen_le {x k:Nat} (h:x<2^k):blen x<=k:=by
 by_cases hx:x=0
 ·subst hx;simp[blen]
 ·obtain⟨p1,p2⟩:=Ym hx;have:=(iG (show 1<2 by omega)).1 (aZ p2 h);omega
theorem blen_ge {x k:Nat} (h:2^k<=x):k<blen x:=(iG (show 1<2 by omega)).1 (aZ h (Yl x))
theorem Yn (k:Nat):PW k=2^(64*k):=by unfold PW;rfl
theorem Lu:(18446744073709551616:Nat)=2^64:=rfl
theorem L4 {A i:Nat} (h:dig A i≠0) (hs:A<PW (i+1)):blen A=64*i+blen (dig A i):=by
 have hd:A/PW i=dig A i:=by
  unfold dig;rw[cP];rw[y7]at hs;exact(fM (Cf i)).2 (by rw[cX];exact hs)
 have pY:PW i<=A:=by
  rcases dV A (PW i)with h1|h1
  ·rw[Ul h1]at h;exact absurd rfl h
  ·exact h1
 rw[Yn]at pY hd;rw[ig pY,hd]
section
variable {y1 y0 u n q r:Nat}
theorem IM (hu:u=q*y1+r) (ho:4294967296*r+n<q*y0):(u*4294967296+n)/(y1*4294967296+y0)<q:=by
 have hp:0<y1*4294967296+y0:=by
  rcases eC y0 with h|h
  ·subst h;omega
  ·omega
 refine(fM hp).2 ?_;rw[eS,<-cY,hu,cK];omega
theorem wi (hu:u=q*y1+r) (hp:0<y1) (ho:q*y0<=4294967296*r+n):q<=(u*4294967296+n)/(y1*4294967296+y0):=by
 refine(jX aA).2 ?_;rw[eS,<-cY,hu,cK];omega
theorem IN (hn:n<4294967296) (hp:0<y1):(u*4294967296+n)/(y1*4294967296+y0)<=u/y1:=by
 have h1:(u*4294967296+n)/(y1*4294967296+y0)<=(u*4294967296+n)/(4294967296*y1):=Nat.div_le_div_left aA aA;rw[<-mD,show(u*4294967296+n)/4294967296=u from aA]at h1;exact h1
theorem IP (h1:2147483648<=y1) (hu:u<y1*4294967296+y0) (h0:y0<4294967296):u/y1<=4294967297:=by
 have:u/y1<4294967298:=(fM aA).2 aA;omega
theorem ik (hn:n<4294967296) (hu:u<y1*4294967296+y0):(u*4294967296+n)/(y1*4294967296+y0)<4294967296:=by
 refine(fM aA).2 ?_;have:(u+1)*4294967296<=(y1*4294967296+y0)*4294967296:=bL _ hu;rw[cX 4294967296];omega
end
theorem L5 {U Y X n q1 r1 q0 r0:Nat} (hX:X=q1*Y+r1) (hU:U=X*4294967296+n) (h0:r1*4294967296+n=q0*Y+r0) (hr:r0<Y):U/Y=q1*4294967296+q0/\U%Y=r0:=by
 have e:U=r0+Y*(q1*4294967296+q0):=by
  rw[hU,hX,cK,jW,h0,eS,cX Y q0,cX Y,Nat.mul_right_comm];omega
 rw[e];exact⟨by rw[jA _ _ aA,fZ hr,bK],by rw[lO,cP hr]⟩
theorem IQ {a b i:Nat} (hb:b<2^i):(a*2^i)|||b=a*2^i+b:=by
 rw[cX,lI hb]
theorem il {r:Nat} (h:r<=64):(18446744073709551616:Nat)=2^(64-r)*2^r:=by
 rw[<-fE,show 64-r+r=64 from aA]
theorem L6 (d:Nat) {r:Nat} (h:r<=64):d*2^r%18446744073709551616=(d%2^(64-r))*2^r:=by
 rw[il h,Nat.mul_mod_mul_right]
theorem IR {d:Nat} (hd:d<18446744073709551616) {r:Nat} (h:r<=64):d/2^(64-r)<2^r:=by
 refine(fM (jL aA)).2 ?_;rw[cX,<-il h];exact hd
theorem L7 {q k:Nat} (h:2^(k+1) ∣ q):q|||2^k=q+2^k:=by
 obtain⟨d,rfl⟩:=h;exact(lI (dA aA aA) d).symm
end Go.WD
namespace Go.Z
open Proofs.Tryz RowKit RX WD IntWalk
theorem Bm (a:Nat) (ha:a<18446744073709551616):wQ .u64 (a:Int)=(a:Int):=by rw[IntKind.wrap_u64];omega
theorem IS (a:Nat):wQ .u64 (a:Int)=((a%18446744073709551616:Nat):Int):=by rw[IntKind.wrap_u64];omega
theorem Ox (a b:Nat):(a:Int)*(b:Int)=((a*b:Nat):Int):=(eG a b).symm
theorem Im (a b:Nat):(a:Int)+(b:Int)=((a+b:Nat):Int):=(Int.natCast_add a b).symm
theorem im (a:Nat):(a:Int).fdiv (2^min (oC 32) (IntKind.bits .u64))=((a/4294967296:Nat):Int):=Un a 32 aA
theorem L8 (x y:Nat) (hx:x<18446744073709551616) (hy:y<18446744073709551616):Det prog 240 [.int .u64 x,.int .u64 y] (.tuple #[.int .u64 ((x*y/18446744073709551616:Nat):Int),.int .u64 ((x*y%18446744073709551616:Nat):Int)]):=by
 obtain⟨bd,bt,bw,hhi⟩:=Lib.mul64_hi x y hx hy;have ba:=Lib.half_mul_le (a:=x/4294967296) (b:=y/4294967296) aA aA;have bb:=Lib.half_mul_le (a:=x/4294967296) (b:=y%4294967296) aA aA;have bc:=Lib.half_mul_le (a:=x%4294967296) (b:=y/4294967296) aA aA;have ba':x/4294967296*(y/4294967296)<18446744073709551616:=aA;have bb':x/4294967296*(y%4294967296)<18446744073709551616:=aA;have bc':x%4294967296*(y/4294967296)<18446744073709551616:=aA;have bh1:x/4294967296*(y/4294967296)+(x/4294967296*(y%4294967296)+x%4294967296*(y%4294967296)/4294967296)/4294967296<18446744073709551616:=aA;have bh:x/4294967296*(y/4294967296)+(x/4294967296*(y%4294967296)+x%4294967296*(y%4294967296)/4294967296)/4294967296+((x/4294967296*(y%4294967296)+x%4294967296*(y%4294967296)/4294967296)%4294967296+x%4294967296*(y/4294967296))/4294967296<18446744073709551616:=by
  have:=(fM (show 0<18446744073709551616 by omega)).2 (Nat.mul_lt_mul'' hx hy);omega
 refine Gz mixed F2 aB rfl (j3 ⟨_,rfl⟩ (j3 ⟨_,rfl⟩ (Db ?_ rfl)));simp only[rxs,Am,im,Yk x hx,Yk y hy,Ox,Im,Bm _ bd,Bm _ bb',Bm _ bt,Yk _ bt,Bm _ bc',Bm _ bw,Bm _ ba',Bm _ bh1,Bm _ bh,IS (x*y)];rw[hhi]
theorem Rx (k:Nat) (h:k<=9223372036854775807):wQ .i64 (k:Int)=(k:Int):=i64_in _ ⟨aA,aA⟩
theorem L9 (k:Nat) (j:Nat):(k:Int)+(j:Int)=((k+j:Nat):Int):=aA
theorem IU (n:Int):wQ .u64 n=((n%18446744073709551616).toNat:Int):=by
 rw[IntKind.wrap_u64];omega
theorem IV (u:Nat):spl (words 0) 0 [.int .u64 (u:Int)]=wf fun j=>if j=0 then u else 0:=by
 refine Eq.trans (Ye (dig 0) (show 0<8 by omega) u) (Ot fun i _=> ?_);rw[Yd]
theorem wj (n:Int) (h0: -9223372036854775808<=n) (h1:n<9223372036854775808):Det prog 29 [.int .i64 n] (iw n):=by
 have hw:=L1 (n:=n) aA aA;refine Gz mixed F1 aB rfl (j3 ⟨n,rfl⟩ (Ce (b:=decide (n<0)) rfl (fun h=> ?_) (fun h=> ?_)))
 ·have hn:=oDt h;refine⟨fun l=>∃k,1<=k/\k<=8/\l=[.int .i64 (k:Nat),.agg (wf fun j=>if j<k then(if j=0 then(n%18446744073709551616).toNat else 18446744073709551615)else 0)],fun l=>(8-intOf (l.getD 0 undef)).toNat,⟨1,aA,aA,?_⟩,?_⟩
  ·simp only[rxs,Lt,IU,IV];congr 3
  ·rintro vals-⟨k,vM,hk,rfl⟩;refine j3 ⟨_,rfl⟩ (Ce (b:=decide ((k:Int)<8)) rfl (fun h=> ?_) (fun h=> ?_))
   ·have hk:k<8:=by simp at h;omega
    have e3:wQ .i64 ((k:Int)+1)=((k+1:Nat):Int):=Rx (k+1) aA;refine j3 ⟨_,_,rfl⟩ (j3 ⟨?_,?_⟩ ?_)
    ·show(0:Int)<=(k:Int);omega
    ·show(k:Int)<8;omega
    ·refine⟨⟨k+1,aA,aA,?_⟩,?_⟩
     ·have:=Ye (fun j=>if j<k then(if j=0 then(n%18446744073709551616).toNat else 18446744073709551615)else 0) hk 18446744073709551615;simp only[rxs,e3];rw[show(18446744073709551615:Int)=((18446744073709551615:Nat):Int)from rfl,this];congr 3;refine Ot fun i _=> ?_;by_cases e:i=k
      ·subst e;rw[if_pos rfl,if_pos (show i<i+1 by omega),if_neg (show ¬i=0 by omega)]
      ·rw[if_neg e];by_cases e':i<k
       ·rw[if_pos e',if_pos (show i<k+1 by omega)]
       ·rw[if_neg e',if_neg (show ¬i<k+1 by omega)]
     ·simp only[rxs,e3];omega
   ·have hk:k=8:=by simp at h;omega
    subst hk;refine Db rfl ?_;simp only[rxs,Am,iw,wd,hw];congr 1;exact Ot fun i hi=>by rw[if_pos hi,if_pos hn]
 ·have hn:=oDf h;refine Db rfl ?_;simp only[rxs,Am,Lt,IU,IV,iw,wd,hw];congr 1;exact Ot fun i hi=>by rw[if_neg hn]
theorem M0 (a:Nat):(a:Int).fdiv (2^min (oC 16) (IntKind.bits .u64))=((a/65536:Nat):Int):=Un a 16 aA
theorem M5 (a:Nat):(a:Int).fdiv (2^min (oC 8) (IntKind.bits .u64))=((a/256:Nat):Int):=Un a 8 aA
def len8:ByteArray:=⟨#[0,1,2,2,3,3,3,3,4,4,4,4,4,4,4,4,5,5,5,5,5,5,5,5,5,5,5,5,5,5,5,5,6,6,6,6,6,6,6,6,6,6,6,6,6,6,6,6,6,6,6,6,6,6,6,6,6,6,6,6,6,6,6,6,7,7,7,7,7,7,7,7,7,7,7,7,7,7,7,7,7,7,7,7,7,7,7,7,7,7,7,7,7,7,7,7,7,7,7,7,7,7,7,7,7,7,7,7,7,7,7,7,7,7,7,7,7,7,7,7,7,7,7,7,7,7,7,7,8,8,8,8,8,8,8,8,8,8,8,8,8,8,8,8,8,8,8,8,8,8,8,8,8,8,8,8,8,8,8,8,8,8,8,8,8,8,8,8,8,8,8,8,8,8,8,8,8,8,8,8,8,8,8,8,8,8,8,8,8,8,8,8,8,8,8,8,8,8,8,8,8,8,8,8,8,8,8,8,8,8,8,8,8,8,8,8,8,8,8,8,8,8,8,8,8,8,8,8,8,8,8,8,8,8,8,8,8,8,8,8,8,8,8,8,8,8,8,8,8,8,8,8,8,8,8,8]⟩
theorem M6:len8.size=256:=aB
theorem M7:(eP 256).all (fun b=>(len8.data.getD b 0).toNat==blen b)=true:=aB
theorem M8 {b:Nat} (h:b<256):(len8.data.getD b 0).toNat=blen b:=by
 have:=dE.1 M7 b (bR.2 h);simpa using this
set_option maxRecDepth 100000 in
theorem wk (x:Nat) (hx:x<18446744073709551616):Det prog 117 [.int .u64 x] (.int .i64 (blen x)):=by
 refine Gz mixed F4 aB rfl (j3 ⟨_,rfl⟩ ⟨fun l=>∃y n,l=[.int .u64 (y:Nat),.int .i64 (n:Nat)]/\y<4294967296/\n<=32/\n+blen y=blen x,?_,?_⟩)
 ·refine Ce (b:=decide ((x:Int)≥4294967296)) rfl (fun h=> ?_) (fun h=> ?_)
  ·have h:=oDt h;exact⟨x/4294967296,32,by simp only[rxs,im];rfl,aA,aA,(ig (k:=32) aA).symm⟩
  ·have h:=oDf h;exact⟨x,0,rfl,aA,aA,aA⟩
 rintro vals-⟨y,n,rfl,hy,hn,hb⟩;refine j3 ⟨_,rfl⟩ ⟨fun l=>∃y n,l=[.int .u64 (y:Nat),.int .i64 (n:Nat)]/\y<65536/\n<=48/\n+blen y=blen x,?_,?_⟩
 ·refine Ce (b:=decide ((y:Int)≥65536)) rfl (fun h=> ?_) (fun h=> ?_)
  ·have h:=oDt h;have e:=ig (x:=y) (k:=16) aA;refine j3 ⟨_,rfl⟩ ⟨y/65536,n+16,?_,aA,aA,?_⟩
   ·have e3:wQ .i64 ((n:Int)+16)=((n+16:Nat):Int):=Rx (n+16) aA;simp only[rxs,M0,e3]
   ·rw[show(2:Nat)^16=65536 from rfl]at e;omega
  ·have h:=oDf h;exact⟨y,n,rfl,aA,aA,hb⟩
 rintro vals-⟨y,n,rfl,hy,hn,hb⟩;refine j3 ⟨_,rfl⟩ ⟨fun l=>∃y n,l=[.int .u64 (y:Nat),.int .i64 (n:Nat)]/\y<256/\n<=56/\n+blen y=blen x,?_,?_⟩
 ·refine Ce (b:=decide ((y:Int)≥256)) rfl (fun h=> ?_) (fun h=> ?_)
  ·have h:=oDt h;have e:=ig (x:=y) (k:=8) aA;refine j3 ⟨_,rfl⟩ ⟨y/256,n+8,?_,aA,aA,?_⟩
   ·have e3:wQ .i64 ((n:Int)+8)=((n+8:Nat):Int):=Rx (n+8) aA;simp only[rxs,M5,e3]
   ·rw[show(2:Nat)^8=256 from rfl]at e;omega
  ·have h:=oDf h;exact⟨y,n,rfl,aA,aA,hb⟩
 rintro vals-⟨y,n,rfl,hy,hn,hb⟩;have hu8:IntKind.u8.wrap (y:Int)=(y:Int):=by rw[IntKind.wrap_u8];omega
 have hyl:blen y<=8:=blen_le hy;refine j3 ⟨_,rfl⟩ (B9 (C4 (s:=len8) (k:= .u8) (m:=y) (vs:=[.string len8,.int .u8 y]) rfl rfl rfl aB (by rw[M6];exact hy)) ?_ ?_)
 ·simp only[rxs,hu8];rfl
 ·rw[M8 hy];refine j3 ⟨_,rfl⟩ (j3 ⟨_,rfl⟩ (Db ?_ rfl));simp only[rxs,Am];rw[Rx (blen y) aA,L9,Rx (n+blen y) aA,hb]
theorem IW (x:Nat) (hx:x<18446744073709551616):Det prog 264 [.int .u64 x] (.int .i64 ((64-blen x:Nat):Int)):=by
 have hl:blen x<=64:=blen_le hx;refine Gz mixed F5 aB rfl (Oq (wk x hx) rfl (j3 ⟨_,rfl⟩ (Db ?_ rfl)));simp only[rxs,Am];rw[show(64:Int)-(blen x:Int)=((64-blen x:Nat):Int)from aA,Rx _ aA]
end Go.Z

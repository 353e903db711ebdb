/- Numbers of eight words. -/
import Derived.Test.YtmannekkmdockaaGreatDoorRows
import Derived.Test.YtmannekkmdockaaGreatDoorRxH
open Int renaming emod_eq_of_lt->jR
open List renaming map->oL,replicate->eK
open Nat renaming add_assoc->jW,div_add_mod->iP,div_eq_of_lt->fZ,mod_mod_of_dvd->nL,mod_one->mX,mul_add->eS,mul_div_cancel->nM,mul_succ->iO,pow_add->fE,pow_pos->jL
namespace Go.WD
open RX
theorem vf (k:IntKind) (n:Int):o0 (Value.int k n).cells:=by intro c hc;simp[fw]at hc;subst hc;rfl
@[irreducible] def PW (k:Nat):Nat:=2^(64*k)
theorem Lq:PW 0=1:=by unfold PW;rfl
theorem y7 (k:Nat):PW (k+1)=PW k*18446744073709551616:=by
 unfold PW;rw[iO,fE]
theorem Cf (k:Nat):0<PW k:=by unfold PW;exact jL aA
theorem Rn (i j:Nat):PW (i+j)=PW i*PW j:=by unfold PW;rw[eS,fE]
theorem Lr {i j:Nat} (h:i<=j):PW i<=PW j:=by unfold PW;exact aR aA aA
theorem D0 {i j:Nat} (h:i<=j):PW i ∣ PW j:=by
 obtain⟨d,rfl⟩:=Nat.exists_eq_add_of_le h;rw[Rn];exact Nat.dvd_mul_right _ _
@[irreducible] def M:Nat:=PW 8
theorem Gk:M=PW 8:=by unfold M;rfl
theorem Rt:0<M:=by rw[Gk];exact Cf 8
def dig (n i:Nat):Nat:=n/PW i%18446744073709551616
theorem Yc (n i:Nat):dig n i<18446744073709551616:=cO _ aA
theorem Jz (n k:Nat):n%PW (k+1)=n%PW k+PW k*dig n k:=by rw[y7,Nat.mod_mul];rfl
theorem HD {a b:Nat}:∀{k:Nat},(∀i,i<k->dig a i=dig b i)->a%PW k=b%PW k:=by
 intro k;induction k with
 |zero=>intro _;rw[Lq,mX,mX]
 |succ k ih=>intro h;rw[Jz,Jz,ih (fun i hi=>h i aA),h k aA]
theorem HE (a:Nat) {i k:Nat} (h:i<k):dig (a%PW k) i=dig a i:=by
 obtain⟨d,rfl⟩:=Nat.exists_eq_add_of_lt h;have e:PW (i+d+1)=PW i*PW (d+1):=by rw[jW,Rn]
 unfold dig;rw[e,Nat.mod_mul_right_div_self,y7,cX (PW d),Nat.mod_mul_right_mod]
theorem vg {a b k i:Nat} (h:a%PW k=b%PW k) (hi:i<k):dig a i=dig b i:=by
 rw[<-HE a hi,h,HE b hi]
theorem Yd (i:Nat):dig 0 i=0:=by simp[dig]
def wf (f:Nat->Nat):Array Value:= #[.int .u64 (f 0),.int .u64 (f 1),.int .u64 (f 2),.int .u64 (f 3),.int .u64 (f 4),.int .u64 (f 5),.int .u64 (f 6),.int .u64 (f 7)]
theorem D1 (f:Nat->Nat):(wf f).size=8:=rfl
theorem D2 (f:Nat->Nat):o0 (wf f):=by
 intro c hc;simp[wf]at hc;rcases hc with h|h|h|h|h|h|h|h<;>subst h<;>rfl
theorem HF {i:Nat} (h:i<8):i=0\/i=1\/i=2\/i=3\/i=4\/i=5\/i=6\/i=7:=aA
theorem vh (f:Nat->Nat) {i:Nat} (h:i<8):(wf f).getD i undef= .int .u64 (f i):=by
 rcases HF h with h|h|h|h|h|h|h|h<;>subst h<;>rfl
theorem Ot {f g:Nat->Nat} (h:∀i,i<8->f i=g i):wf f=wf g:=by
 unfold wf;rw[h 0 aA,h 1 aA,h 2 aA,h 3 aA,h 4 aA,h 5 aA,h 6 aA,h 7 aA]
theorem D3 (f:Nat->Nat) {i:Nat} (h:i<8) (d:Nat):(wf f).setIfInBounds i (.int .u64 d)=wf (fun j=>if j=i then d else f j):=by
 rcases HF h with h|h|h|h|h|h|h|h<;>subst h<;>rfl
theorem Ye (f:Nat->Nat) {i:Nat} (h:i<8) (d:Nat):spl (wf f) i [.int .u64 d]=wf (fun j=>if j=i then d else f j):=D3 f h d
def words (n:Nat):Array Value:=wf (dig n)
def wd (n:Nat):Value:= .agg (words n)
def nb (b:Bool) (n:Nat):Value:= .agg (#[.bool b]++words n)
theorem words_size (n:Nat):(words n).size=8:=rfl
theorem words_one (n:Nat):o0 (words n):=D2 _
theorem Jd (n:Nat) {i:Nat} (h:i<8):(words n).getD i undef= .int .u64 (dig n i):=vh _ h
theorem HG {a b:Nat} (h:a%M=b%M):words a=words b:=by rw[Gk]at h;exact Ot fun _ hi=>vg h hi
theorem gi {f:Nat->Nat} {n:Nat} (h:∀i,i<8->f i=dig n i):wf f=words n:=Ot h
theorem rxs:(∀(f:SV->Value) (a:SV) (l:List SV),oL f (a::l)=f a::oL f l)/\
  (∀f:SV->Value,oL f []=[])/\
  (∀(a:Value) (l m:List Value),(a::l)++m=a::(l++m))/\
  (∀l:List Value,[]++l=l)/\
  (∀(a:Value) (l:List Value) (d:Value),(a::l).getD 0 d=a)/\
  (∀(a:Value) (l:List Value) (n:Nat) (d:Value),(a::l).getD (n+1) d=l.getD n d)/\
  (∀P ρ i,D P ρ (.v i)=ρ.getD i undef)/\
  (∀P ρ c,D P ρ (.k c)=c)/\
  (∀P ρ t,D P ρ (.z t)=r8 P t)/\
  (∀P ρ x,D P ρ (.ag x)= .agg (D P ρ x).cells)/\
  (∀P ρ x o s i,D P ρ (.cell x o s i)=(D P ρ x).cells.getD (o+s*t6 (D P ρ i)) undef)/\
  (∀P ρ x o n s i,D P ρ (.sub x o n s i)= .agg ((D P ρ x).cells.extract (o+s*t6 (D P ρ i)) (o+s*t6 (D P ρ i)+n)))/\
  (∀P ρ x o n y s i,D P ρ (.put x o n y s i)= .agg (spl (D P ρ x).cells (o+s*t6 (D P ρ i)) (D P ρ y).cells.toList))/\
  (∀P ρ x n y,D P ρ (.cat x n y)= .agg ((D P ρ x).cells++(D P ρ y).cells))/\
  (∀P ρ x i,D P ρ (.pj x i)=Gw i (D P ρ x))/\
  (∀P ρ o k x y,D P ρ (.op2 o k x y)=Aa o k (Go.RowKit.intOf (D P ρ x)) (Go.RowKit.intOf (D P ρ y)))/\
  (∀P ρ o k x,D P ρ (.op1 o k x)=unV o k (Go.RowKit.intOf (D P ρ x)))/\
  (∀P ρ x,D P ρ (.nt x)= .bool (!Gh (D P ρ x)))/\
  (∀P ρ k x,D P ρ (.cv k x)= .int k (k.wrap (Go.RowKit.intOf (D P ρ x))))/\
  (∀P ρ c x y,D P ρ (.ite c x y)=if Gh (D P ρ c)then D P ρ x else D P ρ y)/\
  (∀P ρ n x y,D P ρ (.eqb n x y)= .bool (n !=(Gh (D P ρ x)==Gh (D P ρ y))))/\
  (∀v,t6 v=(Go.RowKit.intOf v).toNat)/\
  (∀k n,Go.RowKit.intOf (.int k n)=n)/\
  (∀b,Gh (.bool b)=b)/\
  (∀(k:IntKind) (a b:Int),Aa .add k a b= .int k (k.wrap (a+b)))/\
  (∀(k:IntKind) (a b:Int),Aa .sub k a b= .int k (k.wrap (a-b)))/\
  (∀(k:IntKind) (a b:Int),Aa .mul k a b= .int k (k.wrap (a*b)))/\
  (∀(k:IntKind) (a b:Int),Aa .quo k a b= .int k (k.wrap (a.tdiv b)))/\
  (∀(k:IntKind) (a b:Int),Aa .rem k a b= .int k (a.tmod b))/\
  (∀(k:IntKind) (a b:Int),Aa .and k a b= .int k (k.wrap (BitVec.ofInt k.bits a&&&BitVec.ofInt k.bits b).toNat))/\
  (∀(k:IntKind) (a b:Int),Aa .or k a b= .int k (k.wrap (BitVec.ofInt k.bits a|||BitVec.ofInt k.bits b).toNat))/\
  (∀(k:IntKind) (a b:Int),Aa .xor k a b= .int k (k.wrap (BitVec.ofInt k.bits a^^^BitVec.ofInt k.bits b).toNat))/\
  (∀(k:IntKind) (a b:Int),Aa .andNot k a b= .int k (k.wrap (BitVec.ofInt k.bits a&&& ~~~BitVec.ofInt k.bits b).toNat))/\
  (∀(k:IntKind) (a b:Int),Aa .shl k a b= .int k (k.wrap (a*2^(min b.toNat k.bits))))/\
  (∀(k:IntKind) (a b:Int),Aa .shr k a b= .int k (a.fdiv (2^(min b.toNat k.bits))))/\
  (∀(k:IntKind) (a b:Int),Aa .eql k a b= .bool (a==b))/\
  (∀(k:IntKind) (a b:Int),Aa .neq k a b= .bool (a !=b))/\
  (∀(k:IntKind) (a b:Int),Aa .lss k a b= .bool (a<b))/\
  (∀(k:IntKind) (a b:Int),Aa .leq k a b= .bool (a<=b))/\
  (∀(k:IntKind) (a b:Int),Aa .gtr k a b= .bool (a>b))/\
  (∀(k:IntKind) (a b:Int),Aa .geq k a b= .bool (a≥b))/\
  (∀cs:Array Value,(Value.agg cs).cells=cs)/\
  (∀n,(wd n).cells=words n)/\
  (∀n:Nat,0+n=n)/\
  (∀n:Nat,1*n=n)/\
  (∀n:Nat,n+0=n)/\
  (∀n:Nat,0*n=0)/\
  (∀n:Nat,(n:Int).toNat=n)/\
  (∀a b:Value,Gw 0 (.tuple #[a,b])=a)/\
  (∀a b:Value,Gw 1 (.tuple #[a,b])=b)/\
  (∀a b c:Value,Gw 0 (.tuple #[a,b,c])=a)/\
  (∀a b c:Value,Gw 1 (.tuple #[a,b,c])=b)/\
  (∀a b c:Value,Gw 2 (.tuple #[a,b,c])=c)/\
  (∀(k:IntKind) (n:Int),(Value.int k n).cells.toList=[.int k n]):=by
 and_intros<;>intros<;>first|rfl|simp
def cr (a b k:Nat):Nat:=(a%PW k+b%PW k)/PW k
theorem D4 (a b k:Nat):(a+b)/PW k=a/PW k+b/PW k+cr a b k:=by
 unfold cr;have h1:=iP a (PW k);have h2:=iP b (PW k);rw[show a+b=(a%PW k+b%PW k)+PW k*(a/PW k+b/PW k)from by rw[eS];omega,Nat.add_mul_div_left _ _ (Cf k)];omega
theorem D5 (a b k:Nat):dig (a+b) k=(dig a k+dig b k+cr a b k)%18446744073709551616:=by
 unfold dig;rw[D4];omega
def bw (a b k:Nat):Nat:=if a%PW k<b%PW k then 1 else 0
theorem D6 (a b:Nat):bw a b 0=0:=by simp[bw,Lq,mX]
theorem HH (a b k:Nat):bw a b k<=1:=by unfold bw;split<;>omega
theorem HI {p x y A B:Nat} (hA:A<p) (hB:B<p):A+p*x<B+p*y↔x<y+(if A<B then 1 else 0):=by
 constructor
 ·intro h;rcases Nat.lt_trichotomy x y with h1|h1|h1
  ·split<;>omega
  ·subst h1;rw[if_pos aA];omega
  ·exfalso;have:p*(y+1)<=p*x:=cE _ h1;rw[iO]at this;omega
 ·intro h;split at h
  ·rename_i pX;rcases dV x y with h1|h1
   ·have:p*(x+1)<=p*y:=cE _ h1;rw[iO]at this;omega
   ·have:x=y:=aA;subst this;omega
  ·have:p*(x+1)<=p*y:=cE _ aA;rw[iO]at this;omega
theorem D7 (a b k:Nat):bw a b (k+1)=if dig a k<dig b k+bw a b k then 1 else 0:=by
 unfold bw;rw[Jz,Jz];simp only[HI (cO a (Cf k)) (cO b (Cf k))]
theorem HJ {a b m:Nat} (hm:m<8) (hs:∀j,m<j->j<8->dig a j=dig b j) (h:dig a m<dig b m):a%M<b%M:=by
 have key:∀t,m+1+t<=8->a%PW (m+1+t)<b%PW (m+1+t):=by
  intro t;induction t with
  |zero=>
   intro _;rw[eF,Jz,Jz,HI (cO a (Cf m)) (cO b (Cf m))];omega
  |succ t ih=>
   intro ht;rw[<-jW,Jz,Jz,hs (m+1+t) aA aA];have:=ih aA;omega
 have:=key (8-(m+1)) aA;rw[show m+1+(8-(m+1))=8 from aA]at this;rw[Gk];exact this
def sb (a b:Nat):Nat:=a+(M-b%M)
theorem D8 (a b:Nat) {k:Nat} (hk:k<8):dig (sb a b) k=(dig a k+18446744073709551616-dig b k-bw a b k)%18446744073709551616:=by
 have hs:(sb a b+b)%M=a%M:=by
  unfold sb;have:=cO b Rt;have e:=iP b M;rw[show a+(M-b%M)+b=a+M*(b/M+1)from by rw[iO];omega,Nat.add_mul_mod_self_left]
 have hd:dig (sb a b+b) k=dig a k:=vg (by rw[<-Gk];exact hs) hk;have hc:cr (sb a b) b k=bw a b k:=by
  have pY:k<=8:=aA;have zO:PW k ∣ M:=by rw[Gk];exact D0 pY
  have h1:(sb a b+b)%PW k=a%PW k:=by
   rw[<-nL _ zO,hs,nL _ zO]
  have h2:((sb a b)%PW k+b%PW k)%PW k=a%PW k:=by rw[<-Nat.add_mod];exact h1
  have hA:=cO (sb a b) (Cf k);have hB:=cO b (Cf k);unfold cr bw;rcases dV ((sb a b)%PW k+b%PW k) (PW k)with h|h
  ·rw[cP h]at h2;rw[fZ h,if_neg aA]
  ·have e:=Nat.mod_eq_sub_mod h;rw[e,cP aA]at h2;rw[if_pos aA];rw[Nat.div_eq_sub_div (Cf k) h,fZ aA]
 rw[D5,hc]at hd;have h1:=Yc (sb a b) k;have h2:=Yc b k;have h3:=Yc a k;have h4:=HH a b k;omega
open Go.RX
def sg (a b:Nat):Int:=if a<b then -1 else if a=b then 0 else 1
@[irreducible] def HM:Nat:=9223372036854775808*PW 7
theorem Ru:HM=9223372036854775808*PW 7:=by unfold HM;rfl
theorem Ko:M=2*HM:=by rw[Gk,Ru,show(8:Nat)=7+1 from rfl,y7];omega
theorem Rw:0<HM:=by rw[Ru];have:=Cf 7;omega
def rs (z:Int):Nat:=(z%(M:Int)).toNat
theorem HK (z:Int):rs z<M:=by
 unfold rs;have:=Rt;have h:=Int.emod_lt_of_pos z (show(0:Int)<M by omega);have h':=Int.emod_nonneg z (show(M:Int)≠0 by omega);omega
def iw (z:Int):Value:=wd (rs z)
def nm (z:Int):Value:=nb (decide (z<0)) z.natAbs
def toI (a:Nat):Int:=if a%M<HM then(a%M:Nat)else(a%M:Nat)-(M:Int)
def Je (z:Int):Prop:= -(HM:Int)<=z/\z<HM
theorem D9 (a:Nat):Je (toI a):=by
 have h:=cO a Rt;have:=Ko;unfold Je toI;split<;>omega
theorem gj {z:Int} (h0:0<=z) (h:z<M):rs z=z.toNat:=by
 unfold rs;rw[jR h0 h]
theorem gm {z:Int} (h0:z<0) (h: -(M:Int)<=z):rs z=(z+M).toNat:=by
 unfold rs;have:=Rt;rw[<-Int.add_emod_right,jR aA aA]
theorem toI_rs {z:Int} (h:Je z):toI (rs z)=z:=by
 have hM:=Ko;have hl:=HK z;obtain⟨h1,h2⟩:=h;unfold toI;rw[cP hl];by_cases h0:0<=z
 ·rw[gj h0 aA];split<;>omega
 ·rw[gm aA aA];split<;>omega
theorem HL (z:Int):rs z%M=rs z:=cP (HK z)
theorem E0 (a:Nat):dig a 7<9223372036854775808↔a%M<HM:=by
 have e:a%M=a%PW 7+PW 7*dig a 7:=by rw[Gk];exact Jz a 7
 have pX:=cO a (Cf 7);rw[e,Ru];constructor
 ·intro h;have:=cE (PW 7) (show dig a 7+1<=9223372036854775808 by omega);rw[iO]at this;rw[cX 9223372036854775808];omega
 ·intro h;rcases dV (dig a 7) 9223372036854775808 with h1|h1
  ·exact h1
  ·have:=cE (PW 7) h1;rw[cX 9223372036854775808]at h;omega
theorem HN {b b':Bool} {m n:Nat} (h:b=b') (hm:m%M=n%M):nb b m=nb b' n:=by unfold nb;rw[h,HG hm]
theorem E1 {m n:Nat} (hm:m%M=n%M):wd m=wd n:=by unfold wd;rw[HG hm]
theorem E2 {i:Nat} (h:i<8):dig HM i=if i=7 then 9223372036854775808 else 0:=by
 unfold dig;rw[Ru];split
 ·rename_i e;subst e;rw[nM _ (Cf 7)]
 ·obtain⟨d,hd⟩:∃d,7=(d+1)+i:=⟨7-i-1,aA⟩;rw[hd,Rn,<-cY,nM _ (Cf i),y7,<-cY,Nat.mul_mod_left]
theorem E3:HM<M:=by have:=Ko;have:=Rw;omega
theorem E4:spl (words 0) 7 [.int .u64 9223372036854775808]=words HM:=by
 have:=Ye (dig 0) (show 7<8 by omega) 9223372036854775808;refine Eq.trans this (gi fun i hi=> ?_);rw[E2 hi,Yd]
theorem HO {z:Int} (h:z<0) (hm:z.natAbs<M):wd (sb 0 z.natAbs)=iw z:=by
 unfold iw;refine E1 ?_;rw[gm h aA];unfold sb;rw[cP hm];congr 1;omega
theorem E5 {z:Int} (h:0<=z) (hm:z.natAbs<M):wd z.natAbs=iw z:=by
 unfold iw;rw[gj h aA];congr 1;omega
theorem sg_pos {a b:Nat}:sg a b>0↔b<a:=by unfold sg;split<;>(try split)<;>omega
theorem sg_zero {a b:Nat}:sg a b=0↔a=b:=by unfold sg;split<;>(try split)<;>omega
@[irreducible] def BP (k:Nat):Nat:=2^(32*k)
theorem BP_zero:BP 0=1:=by unfold BP;rfl
theorem BP_succ (k:Nat):BP (k+1)=BP k*4294967296:=by unfold BP;rw[iO,fE]
theorem HQ (k:Nat):0<BP k:=by unfold BP;exact jL aA
theorem HS (i j:Nat):BP (i+j)=BP i*BP j:=by unfold BP;rw[eS,fE]
theorem Bt {i j:Nat} (h:i<=j):BP i<=BP j:=by unfold BP;exact aR aA aA
theorem BP_lt_iff {i j:Nat}:BP i<BP j↔i<j:=by
 constructor
 ·intro h;rcases dV i j with h1|h1
  ·exact h1
  ·have:=Bt h1;omega
 ·intro h;have h1:=Bt (show i+1<=j from h);have h2:=HQ i;rw[BP_succ]at h1;omega
theorem gn (k:Nat):BP (2*k)=PW k:=by unfold BP PW;rw[<-cY]
theorem gp:BP 16=M:=by rw[Gk,<-gn]
def vl:List Nat->Nat
 |[]=>0
 |d::l=>d+4294967296*vl l
def Dg (l:List Nat):Prop:=∀d∈l,d<4294967296
theorem Dg.nil:Dg []:=fun _ h=>by cases h
theorem Dg.append {a b:List Nat} (ha:Dg a) (hb:Dg b):Dg (a++b):=fun d hd=>by
 rcases aQ.1 hd with h|h
 ·exact ha d h
 ·exact hb d h
theorem Dg.one {d:Nat} (h:d<4294967296):Dg [d]:=fun e he=>by rw[aL]at he;omega
theorem Dg.take {l:List Nat} (h:Dg l) (k:Nat):Dg (l.take k):=fun d hd=>h d (cG hd)
theorem Dg.drop {l:List Nat} (h:Dg l) (k:Nat):Dg (l.drop k):=fun d hd=>h d (List.mem_of_mem_drop hd)
theorem Dg.set {l:List Nat} (h:Dg l) (k:Nat) {x:Nat} (hx:x<4294967296):Dg (l.set k x):=fun d hd=>by
 rcases List.mem_or_eq_of_mem_set hd with h1|h1
 ·exact h d h1
 ·omega
theorem Dg.zeros (n:Nat):Dg (eK n 0):=fun d hd=>by rw[List.mem_replicate]at hd;omega
theorem Dg.at {l:List Nat} (h:Dg l) (k:Nat):l.getD k 0<4294967296:=by
 rw[aK];cases e:l[k]? with
 |none=>simp
 |some d=>exact h d (aG e)
theorem gq:∀(a b:List Nat),vl (a++b)=vl a+BP a.length*vl b
 |[],b=>by simp[vl,BP_zero]
 |d::a,b=>by
  rw[cL,vl,vl,gq a b,aO,BP_succ,eS,<-jW,<-cY,cX (BP a.length)]
theorem HT (d:Nat):vl [d]=d:=by simp[vl]
theorem Ls:∀{l:List Nat},Dg l->vl l<BP l.length
 |[],_=>by simp[vl,BP_zero]
 |d::l,h=>by
  have h1:=Ls (l:=l) fun e he=>h e (by simp[he]);have h2:=h d aD;rw[vl,aO,BP_succ];omega
theorem vi:∀n,vl (eK n 0)=0
 |0=>rfl
 |n+1=>by rw[List.replicate_succ,vl,vi n]
theorem HU {l:List Nat} {k:Nat} (h:k<l.length):l[k]? =some (l.getD k 0):=by
 rw[aK,aJ h];rfl
theorem HV {l:List Nat} {k:Nat} (h:k<l.length):l.take (k+1)=l.take k++[l.getD k 0]:=by
 rw[List.take_add_one,HU h];rfl
theorem Ou {l:List Nat} {k:Nat} (h:k<l.length):l.drop k=l.getD k 0::l.drop (k+1):=by
 have:=cV h;rw[this];congr 1;rw[aK,aJ h];rfl
theorem Uh {l:List Nat} {k:Nat} (h:k<l.length):vl (l.take (k+1))=vl (l.take k)+BP k*l.getD k 0:=by
 rw[HV h,gq,HT,bM,bY aA]
theorem HW {l:List Nat} {k:Nat} (h:k<l.length):vl (l.drop k)=l.getD k 0+4294967296*vl (l.drop (k+1)):=by
 rw[Ou h];rfl
theorem HY (l:List Nat) {k:Nat} (h:k<=l.length):vl l=vl (l.take k)+BP k*vl (l.drop k):=by
 have:=gq (l.take k) (l.drop k)
 rwa[List.take_append_drop,bM,bY h]at this
theorem gu:∀{l:List Nat} {k:Nat} (x:Nat),k<l.length->vl (l.set k x)+BP k*l.getD k 0=vl l+BP k*x
 |[],k,x,h=>by simp at h
 |d::l,0,x,_=>by simp[vl,BP_zero];omega
 |d::l,k+1,x,h=>by
  have ih:=gu (l:=l) (k:=k) x (by simpa using h);have e:(d::l).getD (k+1) 0=l.getD k 0:=rfl;rw[List.set_cons_succ,vl,vl,e,BP_succ,cX (BP k),cY,cY];have h1:4294967296*vl (l.set k x)+4294967296*(BP k*l.getD k 0)=4294967296*vl l+4294967296*(BP k*x):=by rw[<-eS,ih,eS]
  omega
theorem Yf {l:List Nat} {k x:Nat} (h:k<l.length):(l.set k x).getD k 0=x:=by
 rw[aK,dH,if_pos rfl,if_pos h];rfl
theorem Il {l:List Nat} {k j x:Nat} (h:j≠k):(l.set k x).getD j 0=l.getD j 0:=by
 rw[aK,aK,dH,if_neg (fun e=>h e.symm)]
theorem HZ {l:List Nat} {k j x:Nat} (h:k<j):(l.set k x).drop j=l.drop j:=by
 apply bG;intro i;rw[cS,cS,dH,if_neg aA]
theorem Ov (n k:Nat):(eK n 0).getD k 0=0:=by
 rw[aK,dX];split<;>rfl
theorem Hv {l:List Nat} {k:Nat} (h:l.length<=k):l.getD k 0=0:=by
 rw[aK,aW h];rfl
def Tm (l:List Nat):Prop:=∀k,vl l<BP k->l.length<=k
theorem Tm.nil:Tm []:=fun _ _=>bI _
theorem E6 {l:List Nat} {n:Nat} (hl:l.length=n+1) (h:l.getD n 0≠0):BP n<=vl l:=by
 have h1:=Uh (l:=l) (k:=n) aA;rw[aF aA]at h1;have:=cE (BP n) (show 1<=l.getD n 0 by omega);omega
theorem Tm.of {l:List Nat} {n:Nat} (hl:l.length=n+1) (h:l.getD n 0≠0):Tm l:=fun k hk=>by
 have:=BP_lt_iff.1 (aZ (E6 hl h) hk);omega
theorem Tm.ge {l:List Nat} (h:Tm l) {n:Nat} (hl:l.length=n+1):BP n<=vl l:=by
 rcases dV (vl l) (BP n)with h1|h1
 ·have:=h n h1;omega
 ·exact h1
theorem Tm.len_le {a b:List Nat} (ha:Tm a) (hb:Dg b) (h:vl a<=vl b):a.length<=b.length:=ha _ (aZ h (Ls hb))
theorem Tm.lt_of_len {a b:List Nat} (ha:Dg a) (hb:Tm b) (h:a.length<b.length):vl a<vl b:=by
 obtain⟨n,hn⟩:∃n,b.length=n+1:=⟨b.length-1,aA⟩;exact aU (Ls ha) (bD (Bt aA) (hb.ge hn))
theorem Tm.pos {l:List Nat} (h:Tm l):0<l.length↔0<vl l:=by
 constructor
 ·intro hl;obtain⟨n,hn⟩:∃n,l.length=n+1:=⟨l.length-1,aA⟩;exact aU (HQ n) (h.ge hn)
 ·intro hv;cases l with
  |nil=>simp[vl]at hv
  |cons d l=>simp
theorem IA {a b:List Nat} {i:Nat} (ha:Dg a) (hb:Dg b) (hia:i<a.length) (hib:i<b.length) (hd:a.drop (i+1)=b.drop (i+1)) (h:a.getD i 0<b.getD i 0):vl a<vl b:=by
 have e1:=HY a (show i+1<=a.length by omega);have e2:=HY b (show i+1<=b.length by omega);have f1:=Uh hia;have f2:=Uh hib;have g1:=Ls (ha.take i);rw[bM,bY aA]at g1;have h2:=cE (BP i) (show a.getD i 0+1<=b.getD i 0 from h);rw[eS]at h2;rw[hd]at e1;omega
end Go.WD
namespace Go.Z
open Proofs.Tryz RowKit RX
theorem mixed:prog.follows .mixedOrders=true:=aB
theorem E7:tree prog [] [] [⟨0,3,[],[0]⟩] [⟨5,[0,0,2,6,0,16,48,0,254,510,1022,1022,2047,6143,16383],[0,0,1,1,0,1,1,0,2,0,0,0,1,4,0],[0,0,0,0,0,0,0,0,0,0,0,0,0,0,0],[0,1,2,3,4,5,6,7,8,9,10,11,12],[13,14]⟩] 196=some (.cq 8 V0
(.cq 8 V1
(.loop [(kU 0),(.ki 0),V0]
(.ri V3
(.br (.io .lss V3 (.ki 8)) (.rq (.num V3) (.rq (.lt 8 V3) (.ext 232 [(.cell V4 0 1 V3),(.cell V1 0 1 V3),V2]
(.tq 0 V5
(.tq 1 V5
(.cq 1 (.pj V5 0) (.next 0 [(.pj V5 1),(.io .add V3 (.ki 1)),(.put V4 0 1 (.pj V5 0) 1 V3)]))))))) (.ret [(.ag V4),V2])))))):=aB
theorem E8:tree prog [] [] [⟨0,2,[],[]⟩] [⟨4,[0,1,3,0,8,24,63],[0,1,1,0,1,1,0],[0,0,0,0,0,0,0],[0,1,2,3,4,5,6],[]⟩,⟨5,[0,1,3,0,8,24,63],[0,1,1,0,1,1,0],[0,0,0,0,0,0,0],[0,1,2,3,4,5,6],[]⟩] 195=some (.cq 8 V0
(.cq 8 V1
(.loop [(.ki 0),(.ki 7)]
(.ri V3
(.br (.io .geq V3 (.ki 0)) (.rq (.num V3) (.rq (.lt 8 V3) (.rq (.int .u64 (.cell V0 0 1 V3)) (.rq (.int .u64 (.cell V1 0 1 V3)) (.br (.uo .neq (.cell V0 0 1 V3) (.cell V1 0 1 V3)) (.br (.uo .lss (.cell V0 0 1 V3) (.cell V1 0 1 V3)) (.ret [(kI (-1))]) (.ret [(.ki 1)])) (.next 0 [V2,(.io .sub V3 (.ki 1))])))))) (.ret [(.ki 0)])))))):=aB
@[reducible] def vj:SV:= .uo .eql (.uo .shr (.cell V0 7 0 noI) (kU 63)) (kU 1)
theorem E9:tree prog [] [] [] [] 128=some (.cq 8 V0
(.rq (.int .u64 (.cn V0 7)) (.br vj
(.cf 196 [(.z 206),(.ag V0)]
(.tq 0 V1
(.tq 1 V1
(.cq 8 (.pj V1 0) (.ret [(.cat vj 1 (.pj V1 0))]))))) (.ret [(.cat vj 1 (.ag V0))])))):=aB
theorem F0:tree prog [] [] [] [] 126=some (.cq 9 V0
(.cf 195 [(.sn V0 1 8),(.pn (.z 206) 7 1 (kU 9223372036854775808))]
(.ri V1
(.br (.io .gtr V1 (.ki 0)) (.ret [(.z 56),(.ki 6)]) (.br (.io .eql V1 (.ki 0))
(.rb (.cn V0 0) (.br (.nt (.cn V0 0)) (.ret [(.z 56),(.ki 6)])
(.cf 196 [(.z 206),(.sn V0 1 8)]
(.tq 0 V2
(.tq 1 V2
(.cq 8 (.pj V2 0) (.ret [(.ag (.pj V2 0)),(.ki 0)])))))))
(.rb (.cn V0 0) (.br (.cn V0 0)
(.cf 196 [(.z 206),(.sn V0 1 8)]
(.tq 0 V2
(.tq 1 V2
(.cq 8 (.pj V2 0) (.ret [(.ag (.pj V2 0)),(.ki 0)]))))) (.ret [(.sn V0 1 8),(.ki 0)])))))))):=aB
theorem F1:tree prog [] [] [⟨0,4,[],[1]⟩] [] 29=some (.ri V0
(.br (.io .lss V0 (.ki 0)) (.loop [(.ki 1),(.pn (.z 56) 0 1 (.cv .u64 V0))]
(.ri V1
(.br (.io .lss V1 (.ki 8)) (.rq (.num V1) (.rq (.lt 8 V1) (.next 0 [(.io .add V1 (.ki 1)),(.put V2 0 1 (kU 18446744073709551615) 1 V1)]))) (.ret [(.ag V2)])))) (.ret [(.pn (.z 56) 0 1 (.cv .u64 V0))]))):=aB
@[reducible] def IB:SV:= .uo .add (.uo .mul (.uo .shr V0 (kU 32)) (.uo .and V1 (kU 4294967295))) (.uo .shr (.uo .mul (.uo .and V0 (kU 4294967295)) (.uo .and V1 (kU 4294967295))) (kU 32))
theorem F2:tree prog [] [] [] [] 240=some (.ru V0
(.ru V1
(.ret [(.uo .add (.uo .add (.uo .mul (.uo .shr V0 (kU 32)) (.uo .shr V1 (kU 32))) (.uo .shr IB (kU 32))) (.uo .shr (.uo .add (.uo .and IB (kU 4294967295)) (.uo .mul (.uo .and V0 (kU 4294967295)) (.uo .shr V1 (kU 32)))) (kU 32))),(.uo .mul V0 V1)]))):=aB
@[reducible] def gw:SV:= .uo .or (.uo .shl V0 (.cv .u64 V3)) (.uo .shr V1 (.uo .sub (kU 64) (.cv .u64 V3)))
@[reducible] def gx:SV:= .uo .sub (.uo .add (.uo .mul V8 (kU 4294967296)) V9) (.uo .mul V13 V4)
@[reducible] def Yg:SV:= .uo .shr (.uo .shl V2 (.cv .u64 V3)) (kU 32)
theorem F3:tree prog [] [(20,false),(24,false)] [⟨3,16,[2,8,9,10,11,13,14,15,16],[]⟩,⟨1,0,[15],[]⟩,⟨3,23,[17,18,16],[]⟩,⟨1,2,[18],[]⟩,⟨0,17,[],[]⟩,⟨0,24,[],[]⟩] [⟨6,[0,0,3,0,0,24,7,127],[0,0,0,0,0,0,0,0],[0,0,0,0,0,0,0,0],[0,1,2,3,4,5,6,7],[]⟩] 237=some (.ru V2
(.rq (.isb false (.uo .eql V2 (kU 0)))
(.ru V0
(.rq (.isb false (.uo .leq V2 V0)) (.br (.uo .eql V0 (kU 0))
(.ru V1
(.rq (.nz V2) (.ret [(.uo .quo V1 V2),(.uo .rem V1 V2)])))
(.cf 264 [V2]
(.ri V3
(.rq (.nn (.cv .u64 V3))
(.ru V1
(.rq (.nn (.uo .sub (kU 64) (.cv .u64 V3))) (.rq (.nz Yg) (.join 9
(.next 0 [(.uo .shl V2 (.cv .u64 V3)),(.cv .u64 V3),Yg,(.uo .and (.uo .shl V2 (.cv .u64 V3)) (kU 4294967295)),gw,(.uo .shr (.uo .shl V1 (.cv .u64 V3)) (kU 32)),(.uo .and (.uo .shl V1 (.cv .u64 V3)) (kU 4294967295)),(.uo .quo gw Yg),(.uo .sub gw (.uo .mul (.uo .quo gw Yg) Yg))]) (.join 1
(.loop [V11,V12]
(.ru V13
(.br (.uo .geq V13 (kU 4294967296))
(.ru V14
(.ru V6
(.br (.uo .geq (.uo .add V14 V6) (kU 4294967296)) (.next 0 [(.uo .sub V13 (kU 1))]) (.next 1 [(.uo .sub V13 (kU 1)),(.uo .add V14 V6)]))))
(.ru V7
(.ru V14
(.ru V9
(.br (.uo .gtr (.uo .mul V13 V7) (.uo .add (.uo .mul (kU 4294967296) V14) V9))
(.ru V6
(.br (.uo .geq (.uo .add V14 V6) (kU 4294967296)) (.next 0 [(.uo .sub V13 (kU 1))]) (.next 1 [(.uo .sub V13 (kU 1)),(.uo .add V14 V6)]))) (.next 0 [V13]))))))))
(.ru V8
(.ru V9
(.ru V13
(.ru V4
(.ru V6
(.rq (.nz V6) (.join 3
(.next 0 [gx,(.uo .quo gx V6),(.uo .sub gx (.uo .mul (.uo .quo gx V6) V6))]) (.join 1
(.loop [V15,V16]
(.ru V17
(.br (.uo .geq V17 (kU 4294967296))
(.ru V18
(.br (.uo .geq (.uo .add V18 V6) (kU 4294967296)) (.next 0 [(.uo .sub V17 (kU 1))]) (.next 1 [(.uo .sub V17 (kU 1)),(.uo .add V18 V6)])))
(.ru V7
(.ru V18
(.ru V10
(.br (.uo .gtr (.uo .mul V17 V7) (.uo .add (.uo .mul (kU 4294967296) V18) V10)) (.br (.uo .geq (.uo .add V18 V6) (kU 4294967296)) (.next 0 [(.uo .sub V17 (kU 1))]) (.next 1 [(.uo .sub V17 (kU 1)),(.uo .add V18 V6)])) (.next 0 [V17]))))))))
(.ru V17
(.ru V14
(.ru V10
(.rq (.num V5) (.rq (.nn V5) (.ret [(.uo .add (.uo .mul V13 (kU 4294967296)) V17),(.uo .shr (.uo .sub (.uo .add (.uo .mul V14 (kU 4294967296)) V10) (.uo .mul V17 V4)) V5)]))))))))))))))))))))))))))):=aB
theorem F4:tree prog [] [] [⟨2,4,[0,2],[]⟩,⟨2,8,[0,2],[]⟩,⟨2,14,[0,2],[]⟩] [] 117=some (.ru V0
(.join 2
(.br (.uo .geq V0 (kU 4294967296)) (.next 0 [(.uo .shr V0 (kU 32)),(.ki 32)]) (.next 0 [V0,(.ki 0)]))
(.ru V1
(.join 2
(.br (.uo .geq V1 (kU 65536))
(.ri V2
(.next 0 [(.uo .shr V1 (kU 16)),(.io .add V2 (.ki 16))])) (.next 0 [V1,V2]))
(.ru V3
(.join 2
(.br (.uo .geq V3 (kU 256))
(.ri V4
(.next 0 [(.uo .shr V3 (kU 8)),(.io .add V4 (.ki 8))])) (.next 0 [V3,V4]))
(.ru V5
(.pm f117 10 3 [(.k (.string ⟨#[0,1,2,2,3,3,3,3,4,4,4,4,4,4,4,4,5,5,5,5,5,5,5,5,5,5,5,5,5,5,5,5,6,6,6,6,6,6,6,6,6,6,6,6,6,6,6,6,6,6,6,6,6,6,6,6,6,6,6,6,6,6,6,6,7,7,7,7,7,7,7,7,7,7,7,7,7,7,7,7,7,7,7,7,7,7,7,7,7,7,7,7,7,7,7,7,7,7,7,7,7,7,7,7,7,7,7,7,7,7,7,7,7,7,7,7,7,7,7,7,7,7,7,7,7,7,7,7,8,8,8,8,8,8,8,8,8,8,8,8,8,8,8,8,8,8,8,8,8,8,8,8,8,8,8,8,8,8,8,8,8,8,8,8,8,8,8,8,8,8,8,8,8,8,8,8,8,8,8,8,8,8,8,8,8,8,8,8,8,8,8,8,8,8,8,8,8,8,8,8,8,8,8,8,8,8,8,8,8,8,8,8,8,8,8,8,8,8,8,8,8,8,8,8,8,8,8,8,8,8,8,8,8,8,8,8,8,8,8,8,8,8,8,8,8,8,8,8,8,8,8,8,8,8,8,8]⟩)),(.cv .u8 V5)]
(.rq (.int .u8 V7)
(.ri V6
(.ret [(.io .add V6 (.cv .i64 V7))]))))))))))):=aB
theorem F5:tree prog [] [] [] [] 264=some (.cf 117 [V0]
(.ri V1
(.ret [(.io .sub (.ki 64) V1)]))):=aB
end Go.Z

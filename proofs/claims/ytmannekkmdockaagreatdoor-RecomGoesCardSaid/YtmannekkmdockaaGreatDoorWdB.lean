/- Numbers of eight words. -/
import Derived.Test.YtmannekkmdockaaGreatDoorRows
import Derived.KernelRfl
import Derived.Test.YtmannekkmdockaaGreatDoorRxV
import Derived.Laws.Externs
import Derived.Shelf.Spec.BitsCarry
import Derived.IntWalk
open Bool renaming eq_iff_iff->bH,false_eq_true->cN
open Go.Result renaming andThen_ok->aE
open Go.Sem renaming run_bind->aG
open Int renaming emod_eq_of_lt->fR
open List renaming getD_eq_getElem?_getD->aB,getElem?_drop->gR,getElem?_eq_getElem->aA,getElem?_set->bS,map->nT,mem_range->cK
open Nat renaming add_assoc->kF,div_add_mod->iL,div_eq_of_lt->fG,lt_or_ge->eV,mod_eq_of_lt->bR,mod_lt->bO,mod_mod_of_dvd->mT,mod_one->mH,mul_add->cS,mul_assoc->cH,mul_comm->cE,mul_div_cancel->mU,mul_le_mul_left->dA,mul_succ->gP,pow_add->dG,pow_le_pow_right->aU,pow_pos->iZ
namespace Go.WD
open Go.RX
theorem FS (k:IntKind) (n:Int):s8 (Value.int k n).cells:=by intro c hc;simp[FK]at hc;subst hc;rfl
@[irreducible] def PW (k:Nat):Nat:=2^(64*k)
theorem Lc:PW 0=1:=by unfold PW;rfl
theorem Ab (k:Nat):PW (k+1)=PW k*18446744073709551616:=by
 unfold PW;rw[gP,dG]
theorem Ec (k:Nat):0<PW k:=by unfold PW;exact iZ (by omega)
theorem Uk (i j:Nat):PW (i+j)=PW i*PW j:=by unfold PW;rw[cS,dG]
theorem Qv {i j:Nat} (h:i<=j):PW i<=PW j:=by unfold PW;exact aU (by omega) (by omega)
theorem ZH {i j:Nat} (h:i<=j):PW i ∣ PW j:=by
 obtain⟨d,rfl⟩:=Nat.exists_eq_add_of_le h;rw[Uk];exact Nat.dvd_mul_right _ _
@[irreducible] def M:Nat:=PW 8
theorem Gp:M=PW 8:=by unfold M;rfl
theorem Qw:0<M:=by rw[Gp];exact Ec 8
def dig (n i:Nat):Nat:=n/PW i%18446744073709551616
theorem Xz (n i:Nat):dig n i<18446744073709551616:=bO _ (by omega)
theorem Ju (n k:Nat):n%PW (k+1)=n%PW k+PW k*dig n k:=by rw[Ab,Nat.mod_mul];rfl
theorem FT {a b:Nat}:∀{k:Nat},(∀i,i<k->dig a i=dig b i)->a%PW k=b%PW k:=by
 intro k;induction k with
 |zero=>intro _;rw[Lc,mH,mH]
 |succ k ih=>intro h;rw[Ju,Ju,ih (fun i hi=>h i (by omega)),h k (by omega)]
theorem FU (a:Nat) {i k:Nat} (h:i<k):dig (a%PW k) i=dig a i:=by
 obtain⟨d,rfl⟩:=Nat.exists_eq_add_of_lt h;have e:PW (i+d+1)=PW i*PW (d+1):=by rw[kF,Uk]
 unfold dig;rw[e,Nat.mod_mul_right_div_self,Ab,cE (PW d),Nat.mod_mul_right_mod]
theorem sj {a b k i:Nat} (h:a%PW k=b%PW k) (hi:i<k):dig a i=dig b i:=by
 rw[<-FU a hi,h,FU b hi]
theorem Ya (i:Nat):dig 0 i=0:=by simp[dig]
def wf (f:Nat->Nat):Array Value:= #[.int .u64 (f 0),.int .u64 (f 1),.int .u64 (f 2),.int .u64 (f 3),.int .u64 (f 4),.int .u64 (f 5),.int .u64 (f 6),.int .u64 (f 7)]
theorem ZI (f:Nat->Nat):(wf f).size=8:=rfl
theorem ZJ (f:Nat->Nat):s8 (wf f):=by
 intro c hc;simp[wf]at hc;rcases hc with h|h|h|h|h|h|h|h<;>subst h<;>rfl
theorem FV {i:Nat} (h:i<8):i=0\/i=1\/i=2\/i=3\/i=4\/i=5\/i=6\/i=7:=by omega
theorem sk (f:Nat->Nat) {i:Nat} (h:i<8):(wf f).getD i undef= .int .u64 (f i):=by
 rcases FV h with h|h|h|h|h|h|h|h<;>subst h<;>rfl
theorem Oe {f g:Nat->Nat} (h:∀i,i<8->f i=g i):wf f=wf g:=by
 unfold wf;rw[h 0 (by omega),h 1 (by omega),h 2 (by omega),h 3 (by omega),h 4 (by omega),h 5 (by omega),h 6 (by omega),h 7 (by omega)]
theorem ZK (f:Nat->Nat) {i:Nat} (h:i<8) (d:Nat):(wf f).setIfInBounds i (.int .u64 d)=wf (fun j=>if j=i then d else f j):=by
 rcases FV h with h|h|h|h|h|h|h|h<;>subst h<;>rfl
theorem fj (f:Nat->Nat) {i:Nat} (h:i<8) (d:Nat):spl (wf f) i [.int .u64 d]=wf (fun j=>if j=i then d else f j):=ZK f h d
def words (n:Nat):Array Value:=wf (dig n)
def wd (n:Nat):Value:= .agg (words n)
def nb (b:Bool) (n:Nat):Value:= .agg (#[.bool b]++words n)
theorem words_size (n:Nat):(words n).size=8:=rfl
theorem words_one (n:Nat):s8 (words n):=ZJ _
theorem Ld (n:Nat) {i:Nat} (h:i<8):(words n).getD i undef= .int .u64 (dig n i):=sk _ h
theorem FW {a b:Nat} (h:a%M=b%M):words a=words b:=by rw[Gp]at h;exact Oe fun _ hi=>sj h hi
theorem FX {f:Nat->Nat} {n:Nat} (h:∀i,i<8->f i=dig n i):wf f=words n:=Oe h
theorem rxs:(∀(f:SV->Value) (a:SV) (l:List SV),nT f (a::l)=f a::nT f l)/\
  (∀f:SV->Value,nT f []=[])/\
  (∀(a:Value) (l m:List Value),(a::l)++m=a::(l++m))/\
  (∀l:List Value,[]++l=l)/\
  (∀(a:Value) (l:List Value) (d:Value),(a::l).getD 0 d=a)/\
  (∀(a:Value) (l:List Value) (n:Nat) (d:Value),(a::l).getD (n+1) d=l.getD n d)/\
  (∀P ρ i,D P ρ (.v i)=ρ.getD i undef)/\
  (∀P ρ c,D P ρ (.k c)=c)/\
  (∀P ρ t,D P ρ (.z t)=s7 P t)/\
  (∀P ρ x,D P ρ (.ag x)= .agg (D P ρ x).cells)/\
  (∀P ρ x o s i,D P ρ (.cell x o s i)=(D P ρ x).cells.getD (o+s*z6 (D P ρ i)) undef)/\
  (∀P ρ x o n s i,D P ρ (.sub x o n s i)= .agg ((D P ρ x).cells.extract (o+s*z6 (D P ρ i)) (o+s*z6 (D P ρ i)+n)))/\
  (∀P ρ x o n y s i,D P ρ (.put x o n y s i)= .agg (spl (D P ρ x).cells (o+s*z6 (D P ρ i)) (D P ρ y).cells.toList))/\
  (∀P ρ x n y,D P ρ (.cat x n y)= .agg ((D P ρ x).cells++(D P ρ y).cells))/\
  (∀P ρ x i,D P ρ (.proj x i)=Np i (D P ρ x))/\
  (∀P ρ o k x y,D P ρ (.op2 o k x y)=t8 o k (Go.RowKit.intOf (D P ρ x)) (Go.RowKit.intOf (D P ρ y)))/\
  (∀P ρ o k x,D P ρ (.op1 o k x)=unV o k (Go.RowKit.intOf (D P ρ x)))/\
  (∀P ρ x,D P ρ (.nt x)= .bool (!Fg (D P ρ x)))/\
  (∀P ρ k x,D P ρ (.cv k x)= .int k (k.wrap (Go.RowKit.intOf (D P ρ x))))/\
  (∀P ρ c x y,D P ρ (.ite c x y)=if Fg (D P ρ c)then D P ρ x else D P ρ y)/\
  (∀P ρ n x y,D P ρ (.eqb n x y)= .bool (n !=(Fg (D P ρ x)==Fg (D P ρ y))))/\
  (∀v,z6 v=(Go.RowKit.intOf v).toNat)/\
  (∀k n,Go.RowKit.intOf (.int k n)=n)/\
  (∀b,Fg (.bool b)=b)/\
  (∀(k:IntKind) (a b:Int),t8 .add k a b= .int k (k.wrap (a+b)))/\
  (∀(k:IntKind) (a b:Int),t8 .sub k a b= .int k (k.wrap (a-b)))/\
  (∀(k:IntKind) (a b:Int),t8 .mul k a b= .int k (k.wrap (a*b)))/\
  (∀(k:IntKind) (a b:Int),t8 .quo k a b= .int k (k.wrap (a.tdiv b)))/\
  (∀(k:IntKind) (a b:Int),t8 .rem k a b= .int k (a.tmod b))/\
  (∀(k:IntKind) (a b:Int),t8 .and k a b= .int k (k.wrap (BitVec.ofInt k.bits a&&&BitVec.ofInt k.bits b).toNat))/\
  (∀(k:IntKind) (a b:Int),t8 .or k a b= .int k (k.wrap (BitVec.ofInt k.bits a|||BitVec.ofInt k.bits b).toNat))/\
  (∀(k:IntKind) (a b:Int),t8 .xor k a b= .int k (k.wrap (BitVec.ofInt k.bits a^^^BitVec.ofInt k.bits b).toNat))/\
  (∀(k:IntKind) (a b:Int),t8 .andNot k a b= .int k (k.wrap (BitVec.ofInt k.bits a&&& ~~~BitVec.ofInt k.bits b).toNat))/\
  (∀(k:IntKind) (a b:Int),t8 .shl k a b= .int k (k.wrap (a*2^(min b.toNat k.bits))))/\
  (∀(k:IntKind) (a b:Int),t8 .shr k a b= .int k (a.fdiv (2^(min b.toNat k.bits))))/\
  (∀(k:IntKind) (a b:Int),t8 .eql k a b= .bool (a==b))/\
  (∀(k:IntKind) (a b:Int),t8 .neq k a b= .bool (a !=b))/\
  (∀(k:IntKind) (a b:Int),t8 .lss k a b= .bool (a<b))/\
  (∀(k:IntKind) (a b:Int),t8 .leq k a b= .bool (a<=b))/\
  (∀(k:IntKind) (a b:Int),t8 .gtr k a b= .bool (a>b))/\
  (∀(k:IntKind) (a b:Int),t8 .geq k a b= .bool (a≥b))/\
  (∀cs:Array Value,(Value.agg cs).cells=cs)/\
  (∀n,(wd n).cells=words n)/\
  (∀n:Nat,0+n=n)/\
  (∀n:Nat,1*n=n)/\
  (∀n:Nat,n+0=n)/\
  (∀n:Nat,0*n=0)/\
  (∀n:Nat,(n:Int).toNat=n)/\
  (∀a b:Value,Np 0 (.tuple #[a,b])=a)/\
  (∀a b:Value,Np 1 (.tuple #[a,b])=b)/\
  (∀a b c:Value,Np 0 (.tuple #[a,b,c])=a)/\
  (∀a b c:Value,Np 1 (.tuple #[a,b,c])=b)/\
  (∀a b c:Value,Np 2 (.tuple #[a,b,c])=c)/\
  (∀(k:IntKind) (n:Int),(Value.int k n).cells.toList=[.int k n]):=by
 and_intros<;>intros<;>first|rfl|simp
def cr (a b k:Nat):Nat:=(a%PW k+b%PW k)/PW k
theorem ZL (a b k:Nat):(a+b)/PW k=a/PW k+b/PW k+cr a b k:=by
 unfold cr;have h1:=iL a (PW k);have h2:=iL b (PW k);rw[show a+b=(a%PW k+b%PW k)+PW k*(a/PW k+b/PW k)from by rw[cS];omega,Nat.add_mul_div_left _ _ (Ec k)];omega
theorem ZM (a b k:Nat):dig (a+b) k=(dig a k+dig b k+cr a b k)%18446744073709551616:=by
 unfold dig;rw[ZL];omega
def bw (a b k:Nat):Nat:=if a%PW k<b%PW k then 1 else 0
theorem ZN (a b:Nat):bw a b 0=0:=by simp[bw,Lc,mH]
theorem FY (a b k:Nat):bw a b k<=1:=by unfold bw;split<;>omega
theorem FZ {p x y A B:Nat} (hA:A<p) (hB:B<p):A+p*x<B+p*y↔x<y+(if A<B then 1 else 0):=by
 constructor
 ·intro h;rcases Nat.lt_trichotomy x y with h1|h1|h1
  ·split<;>omega
  ·subst h1;rw[if_pos (by omega)];omega
  ·exfalso;have:p*(y+1)<=p*x:=dA _ h1;rw[gP]at this;omega
 ·intro h;split at h
  ·rename_i pO;rcases eV x y with h1|h1
   ·have:p*(x+1)<=p*y:=dA _ h1;rw[gP]at this;omega
   ·have:x=y:=by omega
    subst this;omega
  ·have:p*(x+1)<=p*y:=dA _ (by omega);rw[gP]at this;omega
theorem ZO (a b k:Nat):bw a b (k+1)=if dig a k<dig b k+bw a b k then 1 else 0:=by
 unfold bw;rw[Ju,Ju];simp only[FZ (bO a (Ec k)) (bO b (Ec k))]
theorem GA {a b m:Nat} (hm:m<8) (hs:∀j,m<j->j<8->dig a j=dig b j) (h:dig a m<dig b m):a%M<b%M:=by
 have key:∀t,m+1+t<=8->a%PW (m+1+t)<b%PW (m+1+t):=by
  intro t;induction t with
  |zero=>
   intro _;rw[Nat.add_zero,Ju,Ju,FZ (bO a (Ec m)) (bO b (Ec m))];omega
  |succ t ih=>
   intro ht;rw[<-kF,Ju,Ju,hs (m+1+t) (by omega) (by omega)];have:=ih (by omega);omega
 have:=key (8-(m+1)) (by omega);rw[show m+1+(8-(m+1))=8 from by omega]at this;rw[Gp];exact this
def sb (a b:Nat):Nat:=a+(M-b%M)
theorem ZP (a b:Nat) {k:Nat} (hk:k<8):dig (sb a b) k=(dig a k+18446744073709551616-dig b k-bw a b k)%18446744073709551616:=by
 have hs:(sb a b+b)%M=a%M:=by
  unfold sb;have:=bO b Qw;have e:=iL b M;rw[show a+(M-b%M)+b=a+M*(b/M+1)from by rw[gP];omega,Nat.add_mul_mod_self_left]
 have hd:dig (sb a b+b) k=dig a k:=sj (by rw[<-Gp];exact hs) hk;have hc:cr (sb a b) b k=bw a b k:=by
  have pP:k<=8:=by omega
  have hdv:PW k ∣ M:=by rw[Gp];exact ZH pP
  have h1:(sb a b+b)%PW k=a%PW k:=by
   rw[<-mT _ hdv,hs,mT _ hdv]
  have h2:((sb a b)%PW k+b%PW k)%PW k=a%PW k:=by rw[<-Nat.add_mod];exact h1
  have hA:=bO (sb a b) (Ec k);have hB:=bO b (Ec k);unfold cr bw;rcases eV ((sb a b)%PW k+b%PW k) (PW k)with h|h
  ·rw[bR h]at h2;rw[fG h,if_neg (by omega)]
  ·have e:=Nat.mod_eq_sub_mod h;rw[e,bR (by omega)]at h2;rw[if_pos (by omega)];rw[Nat.div_eq_sub_div (Ec k) h,fG (by omega)]
 rw[ZM,hc]at hd;have h1:=Xz (sb a b) k;have h2:=Xz b k;have h3:=Xz a k;have h4:=FY a b k;omega
open Go.RX
def sg (a b:Nat):Int:=if a<b then -1 else if a=b then 0 else 1
@[irreducible] def HM:Nat:=9223372036854775808*PW 7
theorem Qx:HM=9223372036854775808*PW 7:=by unfold HM;rfl
theorem Le:M=2*HM:=by rw[Gp,Qx,show(8:Nat)=7+1 from rfl,Ab];omega
theorem Ul:0<HM:=by rw[Qx];have:=Ec 7;omega
def rs (z:Int):Nat:=(z%(M:Int)).toNat
theorem GB (z:Int):rs z<M:=by
 unfold rs;have:=Qw;have h:=Int.emod_lt_of_pos z (show(0:Int)<M by omega);have h':=Int.emod_nonneg z (show(M:Int)≠0 by omega);omega
def iw (z:Int):Value:=wd (rs z)
def nm (z:Int):Value:=nb (decide (z<0)) z.natAbs
def toI (a:Nat):Int:=if a%M<HM then(a%M:Nat)else(a%M:Nat)-(M:Int)
def Gy (z:Int):Prop:= -(HM:Int)<=z/\z<HM
theorem ZQ (a:Nat):Gy (toI a):=by
 have h:=bO a Qw;have:=Le;unfold Gy toI;split<;>omega
theorem so {z:Int} (h0:0<=z) (h:z<M):rs z=z.toNat:=by
 unfold rs;rw[fR h0 h]
theorem sr {z:Int} (h0:z<0) (h: -(M:Int)<=z):rs z=(z+M).toNat:=by
 unfold rs;have:=Qw;rw[<-Int.add_emod_right,fR (by omega) (by omega)]
theorem toI_rs {z:Int} (h:Gy z):toI (rs z)=z:=by
 have hM:=Le;have hl:=GB z;obtain⟨h1,h2⟩:=h;unfold toI;rw[bR hl];by_cases h0:0<=z
 ·rw[so h0 (by omega)];split<;>omega
 ·rw[sr (by omega) (by omega)];split<;>omega
theorem GE (z:Int):rs z%M=rs z:=bR (GB z)
theorem ZR (a:Nat):dig a 7<9223372036854775808↔a%M<HM:=by
 have e:a%M=a%PW 7+PW 7*dig a 7:=by rw[Gp];exact Ju a 7
 have pO:=bO a (Ec 7);rw[e,Qx];constructor
 ·intro h;have:=dA (PW 7) (show dig a 7+1<=9223372036854775808 by omega);rw[gP]at this;rw[cE 9223372036854775808];omega
 ·intro h;rcases eV (dig a 7) 9223372036854775808 with h1|h1
  ·exact h1
  ·have:=dA (PW 7) h1;rw[cE 9223372036854775808]at h;omega
theorem GF {b b':Bool} {m n:Nat} (h:b=b') (hm:m%M=n%M):nb b m=nb b' n:=by unfold nb;rw[h,FW hm]
theorem ZS {m n:Nat} (hm:m%M=n%M):wd m=wd n:=by unfold wd;rw[FW hm]
theorem ZT {i:Nat} (h:i<8):dig HM i=if i=7 then 9223372036854775808 else 0:=by
 unfold dig;rw[Qx];split
 ·rename_i e;subst e;rw[mU _ (Ec 7)]
 ·obtain⟨d,hd⟩:∃d,7=(d+1)+i:=⟨7-i-1,by omega⟩;rw[hd,Uk,<-cH,mU _ (Ec i),Ab,<-cH,Nat.mul_mod_left]
theorem ZU:HM<M:=by have:=Le;have:=Ul;omega
theorem ZV:spl (words 0) 7 [.int .u64 9223372036854775808]=words HM:=by
 have:=fj (dig 0) (show 7<8 by omega) 9223372036854775808;refine Eq.trans this (FX fun i hi=> ?_);rw[ZT hi,Ya]
theorem GG {z:Int} (h:z<0) (hm:z.natAbs<M):wd (sb 0 z.natAbs)=iw z:=by
 unfold iw;refine ZS ?_;rw[sr h (by omega)];unfold sb;rw[bR hm];congr 1;omega
theorem ZW {z:Int} (h:0<=z) (hm:z.natAbs<M):wd z.natAbs=iw z:=by
 unfold iw;rw[so h (by omega)];congr 1;omega
theorem sg_pos {a b:Nat}:sg a b>0↔b<a:=by unfold sg;split<;>(try split)<;>omega
theorem sg_zero {a b:Nat}:sg a b=0↔a=b:=by unfold sg;split<;>(try split)<;>omega
end Go.WD
/- Digits to the base 2^32: plain. -/
namespace Go.WD
open Go.RX
@[irreducible] def BP (k:Nat):Nat:=2^(32*k)
theorem BP_zero:BP 0=1:=by unfold BP;rfl
theorem BP_succ (k:Nat):BP (k+1)=BP k*4294967296:=by unfold BP;rw[gP,dG]
theorem ZX (k:Nat):0<BP k:=by unfold BP;exact iZ (by omega)
theorem ZY (i j:Nat):BP (i+j)=BP i*BP j:=by unfold BP;rw[cS,dG]
theorem Bf {i j:Nat} (h:i<=j):BP i<=BP j:=by unfold BP;exact aU (by omega) (by omega)
theorem BP_lt_iff {i j:Nat}:BP i<BP j↔i<j:=by
 constructor
 ·intro h;rcases eV i j with h1|h1
  ·exact h1
  ·have:=Bf h1;omega
 ·intro h;have h1:=Bf (show i+1<=j from h);have h2:=ZX i;rw[BP_succ]at h1;omega
theorem su (k:Nat):BP (2*k)=PW k:=by unfold BP PW;rw[<-cH]
theorem ZZ:BP 16=M:=by rw[Gp,<-su]
theorem GH {l:List Nat} {k:Nat} (h:k<l.length):l[k]? =some (l.getD k 0):=by
 rw[aB,aA h];rfl
theorem A0 {l:List Nat} {k:Nat} (h:k<l.length):l.take (k+1)=l.take k++[l.getD k 0]:=by
 rw[List.take_add_one,GH h];rfl
theorem fk {l:List Nat} {k:Nat} (h:k<l.length):l.drop k=l.getD k 0::l.drop (k+1):=by
 have:=List.drop_eq_getElem_cons h;rw[this];congr 1;rw[aB,aA h];rfl
theorem GI {l:List Nat} {k x:Nat} (h:k<l.length):(l.set k x).getD k 0=x:=by
 rw[aB,bS,if_pos rfl,if_pos h];rfl
theorem Lh {l:List Nat} {k j x:Nat} (h:j≠k):(l.set k x).getD j 0=l.getD j 0:=by
 rw[aB,aB,bS,if_neg (fun e=>h e.symm)]
theorem A1 {l:List Nat} {k j x:Nat} (h:k<j):(l.set k x).drop j=l.drop j:=by
 apply List.ext_getElem?;intro i;rw[gR,gR,bS,if_neg (by omega)]
theorem Yb (n k:Nat):(List.replicate n 0).getD k 0=0:=by
 rw[aB,List.getElem?_replicate];split<;>rfl
theorem Un {l:List Nat} {k:Nat} (h:l.length<=k):l.getD k 0=0:=by
 rw[aB,List.getElem?_eq_none h];rfl
end Go.WD
/- MADE BY rxgen.py: the trees of package wide. -/
namespace Go.Proofs.Z
open Go.Proofs.Tryz
open Go.RowKit Go.RX
theorem mixed:prog.follows .mixedOrders=true:=by kernel_rfl
theorem A2:tree prog [] [] [⟨0,3,[],[0]⟩] [⟨5,[0,0,2,6,0,16,48,0,254,510,1022,1022,2047,6143,16383],[0,0,1,1,0,1,1,0,2,0,0,0,1,4,0],[0,0,0,0,0,0,0,0,0,0,0,0,0,0,0],[0,1,2,3,4,5,6,7,8,9,10,11,12],[13,14]⟩] 196=some (.rq (.cells 8 V0) (.rq (.cells 8 V1) (.loop [(kU 0),(.ki 0),V0]
(.ri V3
(.br (.io .lss V3 (.ki 8)) (.rq (.num V3) (.rq (.lt 8 V3) (.ext 232 [(.cell V4 0 1 V3),(.cell V1 0 1 V3),V2]
(.rq (.tup 0 V5) (.rq (.tup 1 V5) (.rq (.cells 1 (.proj V5 0)) (.next 0 [(.proj V5 1),(.io .add V3 (.ki 1)),(.put V4 0 1 (.proj V5 0) 1 V3)]))))))) (.ret [(.ag V4),V2])))))):=by kernel_rfl
theorem A3:tree prog [] [] [⟨0,2,[],[]⟩] [⟨4,[0,1,3,0,8,24,63],[0,1,1,0,1,1,0],[0,0,0,0,0,0,0],[0,1,2,3,4,5,6],[]⟩,⟨5,[0,1,3,0,8,24,63],[0,1,1,0,1,1,0],[0,0,0,0,0,0,0],[0,1,2,3,4,5,6],[]⟩] 195=some (.rq (.cells 8 V0) (.rq (.cells 8 V1) (.loop [(.ki 0),(.ki 7)]
(.ri V3
(.br (.io .geq V3 (.ki 0)) (.rq (.num V3) (.rq (.lt 8 V3) (.rq (.int .u64 (.cell V0 0 1 V3)) (.rq (.int .u64 (.cell V1 0 1 V3)) (.br (.uo .neq (.cell V0 0 1 V3) (.cell V1 0 1 V3)) (.br (.uo .lss (.cell V0 0 1 V3) (.cell V1 0 1 V3)) (.ret [(kI (-1))]) (.ret [(.ki 1)])) (.next 0 [V2,(.io .sub V3 (.ki 1))])))))) (.ret [(.ki 0)])))))):=by kernel_rfl
@[reducible] def sw:SV:= .uo .eql (.uo .shr (.cell V0 7 0 noI) (kU 63)) (kU 1)
theorem A4:tree prog [] [] [] [] 128=some (.rq (.cells 8 V0) (.rq (.int .u64 (.cell V0 7 0 noI)) (.br sw
(.call false 196 [(.z 206),(.ag V0)]
(.rq (.tup 0 V1) (.rq (.tup 1 V1) (.rq (.cells 8 (.proj V1 0)) (.ret [(.cat sw 1 (.proj V1 0))]))))) (.ret [(.cat sw 1 (.ag V0))])))):=by kernel_rfl
theorem A5:tree prog [] [] [] [] 126=some (.rq (.cells 9 V0) (.call false 195 [(.sub V0 1 8 0 noI),(.put (.z 206) 7 1 (kU 9223372036854775808) 0 noI)]
(.ri V1
(.br (.io .gtr V1 (.ki 0)) (.ret [(.z 56),(.ki 6)]) (.br (.io .eql V1 (.ki 0)) (.rq (.bool (.cell V0 0 0 noI)) (.br (.nt (.cell V0 0 0 noI)) (.ret [(.z 56),(.ki 6)]) (.call false 196 [(.z 206),(.sub V0 1 8 0 noI)]
(.rq (.tup 0 V2) (.rq (.tup 1 V2) (.rq (.cells 8 (.proj V2 0)) (.ret [(.ag (.proj V2 0)),(.ki 0)]))))))) (.rq (.bool (.cell V0 0 0 noI)) (.br (.cell V0 0 0 noI) (.call false 196 [(.z 206),(.sub V0 1 8 0 noI)]
(.rq (.tup 0 V2) (.rq (.tup 1 V2) (.rq (.cells 8 (.proj V2 0)) (.ret [(.ag (.proj V2 0)),(.ki 0)]))))) (.ret [(.sub V0 1 8 0 noI),(.ki 0)])))))))):=by kernel_rfl
theorem A6:tree prog [] [] [⟨0,4,[],[1]⟩] [] 29=some (.ri V0
(.br (.io .lss V0 (.ki 0)) (.loop [(.ki 1),(.put (.z 56) 0 1 (.cv .u64 V0) 0 noI)]
(.ri V1
(.br (.io .lss V1 (.ki 8)) (.rq (.num V1) (.rq (.lt 8 V1) (.next 0 [(.io .add V1 (.ki 1)),(.put V2 0 1 (kU 18446744073709551615) 1 V1)]))) (.ret [(.ag V2)])))) (.ret [(.put (.z 56) 0 1 (.cv .u64 V0) 0 noI)]))):=by kernel_rfl
@[reducible] def GK:SV:= .uo .add (.uo .mul (.uo .shr V0 (kU 32)) (.uo .and V1 (kU 4294967295))) (.uo .shr (.uo .mul (.uo .and V0 (kU 4294967295)) (.uo .and V1 (kU 4294967295))) (kU 32))
theorem A7:tree prog [] [] [] [] 240=some (.ru V0
(.ru V1
(.ret [(.uo .add (.uo .add (.uo .mul (.uo .shr V0 (kU 32)) (.uo .shr V1 (kU 32))) (.uo .shr GK (kU 32))) (.uo .shr (.uo .add (.uo .and GK (kU 4294967295)) (.uo .mul (.uo .and V0 (kU 4294967295)) (.uo .shr V1 (kU 32)))) (kU 32))),(.uo .mul V0 V1)]))):=by kernel_rfl
@[reducible] def fl:SV:= .uo .or (.uo .shl V0 (.cv .u64 V3)) (.uo .shr V1 (.uo .sub (kU 64) (.cv .u64 V3)))
@[reducible] def fm:SV:= .uo .sub (.uo .add (.uo .mul V8 (kU 4294967296)) V9) (.uo .mul V13 V4)
@[reducible] def Yc:SV:= .uo .shr (.uo .shl V2 (.cv .u64 V3)) (kU 32)
theorem A8:tree prog [] [(20,false),(24,false)] [⟨3,16,[2,8,9,10,11,13,14,15,16],[]⟩,⟨1,0,[15],[]⟩,⟨3,23,[17,18,16],[]⟩,⟨1,2,[18],[]⟩,⟨0,17,[],[]⟩,⟨0,24,[],[]⟩] [⟨6,[0,0,3,0,0,24,7,127],[0,0,0,0,0,0,0,0],[0,0,0,0,0,0,0,0],[0,1,2,3,4,5,6,7],[]⟩] 237=some (.ru V2
(.rq (.isb false (.uo .eql V2 (kU 0)))
(.ru V0
(.rq (.isb false (.uo .leq V2 V0)) (.br (.uo .eql V0 (kU 0))
(.ru V1
(.rq (.nz V2) (.ret [(.uo .quo V1 V2),(.uo .rem V1 V2)]))) (.call false 264 [V2]
(.ri V3
(.rq (.nn (.cv .u64 V3))
(.ru V1
(.rq (.nn (.uo .sub (kU 64) (.cv .u64 V3))) (.rq (.nz Yc) (.join 9
(.next 0 [(.uo .shl V2 (.cv .u64 V3)),(.cv .u64 V3),Yc,(.uo .and (.uo .shl V2 (.cv .u64 V3)) (kU 4294967295)),fl,(.uo .shr (.uo .shl V1 (.cv .u64 V3)) (kU 32)),(.uo .and (.uo .shl V1 (.cv .u64 V3)) (kU 4294967295)),(.uo .quo fl Yc),(.uo .sub fl (.uo .mul (.uo .quo fl Yc) Yc))]) (.join 1
(.loop [V11,V12]
(.ru V13
(.br (.uo .geq V13 (kU 4294967296))
(.ru V14
(.ru V6
(.br (.uo .geq (.uo .add V14 V6) (kU 4294967296)) (.next 0 [(.uo .sub V13 (kU 1))]) (.next 1 [(.uo .sub V13 (kU 1)),(.uo .add V14 V6)]))))
(.ru V7
(.ru V14
(.ru V9
(.br (.uo .gtr (.uo .mul V13 V7) (.uo .add (.uo .mul (kU 4294967296) V14) V9))
(.ru V6
(.br (.uo .geq (.uo .add V14 V6) (kU 4294967296)) (.next 0 [(.uo .sub V13 (kU 1))]) (.next 1 [(.uo .sub V13 (kU 1)),(.uo .add V14 V6)]))) (.next 0 [V13]))))))))
(.ru V8
(.ru V9
(.ru V13
(.ru V4
(.ru V6
(.rq (.nz V6) (.join 3
(.next 0 [fm,(.uo .quo fm V6),(.uo .sub fm (.uo .mul (.uo .quo fm V6) V6))]) (.join 1
(.loop [V15,V16]
(.ru V17
(.br (.uo .geq V17 (kU 4294967296))
(.ru V18
(.br (.uo .geq (.uo .add V18 V6) (kU 4294967296)) (.next 0 [(.uo .sub V17 (kU 1))]) (.next 1 [(.uo .sub V17 (kU 1)),(.uo .add V18 V6)])))
(.ru V7
(.ru V18
(.ru V10
(.br (.uo .gtr (.uo .mul V17 V7) (.uo .add (.uo .mul (kU 4294967296) V18) V10)) (.br (.uo .geq (.uo .add V18 V6) (kU 4294967296)) (.next 0 [(.uo .sub V17 (kU 1))]) (.next 1 [(.uo .sub V17 (kU 1)),(.uo .add V18 V6)])) (.next 0 [V17]))))))))
(.ru V17
(.ru V14
(.ru V10
(.rq (.num V5) (.rq (.nn V5) (.ret [(.uo .add (.uo .mul V13 (kU 4294967296)) V17),(.uo .shr (.uo .sub (.uo .add (.uo .mul V14 (kU 4294967296)) V10) (.uo .mul V17 V4)) V5)]))))))))))))))))))))))))))):=by kernel_rfl
theorem A9:tree prog [] [] [⟨2,4,[0,2],[]⟩,⟨2,8,[0,2],[]⟩,⟨2,14,[0,2],[]⟩] [] 117=some (.ru V0
(.join 2
(.br (.uo .geq V0 (kU 4294967296)) (.next 0 [(.uo .shr V0 (kU 32)),(.ki 32)]) (.next 0 [V0,(.ki 0)]))
(.ru V1
(.join 2
(.br (.uo .geq V1 (kU 65536))
(.ri V2
(.next 0 [(.uo .shr V1 (kU 16)),(.io .add V2 (.ki 16))])) (.next 0 [V1,V2]))
(.ru V3
(.join 2
(.br (.uo .geq V3 (kU 256))
(.ri V4
(.next 0 [(.uo .shr V3 (kU 8)),(.io .add V4 (.ki 8))])) (.next 0 [V3,V4]))
(.ru V5
(.pm f117 10 3 [(.k (.string ⟨#[0,1,2,2,3,3,3,3,4,4,4,4,4,4,4,4,5,5,5,5,5,5,5,5,5,5,5,5,5,5,5,5,6,6,6,6,6,6,6,6,6,6,6,6,6,6,6,6,6,6,6,6,6,6,6,6,6,6,6,6,6,6,6,6,7,7,7,7,7,7,7,7,7,7,7,7,7,7,7,7,7,7,7,7,7,7,7,7,7,7,7,7,7,7,7,7,7,7,7,7,7,7,7,7,7,7,7,7,7,7,7,7,7,7,7,7,7,7,7,7,7,7,7,7,7,7,7,7,8,8,8,8,8,8,8,8,8,8,8,8,8,8,8,8,8,8,8,8,8,8,8,8,8,8,8,8,8,8,8,8,8,8,8,8,8,8,8,8,8,8,8,8,8,8,8,8,8,8,8,8,8,8,8,8,8,8,8,8,8,8,8,8,8,8,8,8,8,8,8,8,8,8,8,8,8,8,8,8,8,8,8,8,8,8,8,8,8,8,8,8,8,8,8,8,8,8,8,8,8,8,8,8,8,8,8,8,8,8,8,8,8,8,8,8,8,8,8,8,8,8,8,8,8,8,8,8]⟩)),(.cv .u8 V5)]
(.rq (.int .u8 V7)
(.ri V6
(.ret [(.io .add V6 (.cv .i64 V7))]))))))))))):=by kernel_rfl
theorem B5:tree prog [] [] [] [] 264=some (.call false 117 [V0]
(.ri V1
(.ret [(.io .sub (.ki 64) V1)]))):=by kernel_rfl
end Go.Proofs.Z
/- Slices of digits in memory. -/
namespace Go.RX
open Go.RowKit
theorem Con.frame {P:Program} {f:FuncId} {args:List Value} {Hr H:PH} {V:Value->PH->Prop} (h:Con P f args Hr V) (pP:PH.le Hr H):
  Con P f args H fun u H'=>∃Hr',V u Hr'/\PH.le Hr' H'/\∀k ob,H k=some ob->Hr k=none->Hr' k=none/\H' k=some ob:=fun w hw=>by
 refine(h w (pP.In hw)).mono ?_;rintro e w' ⟨v,Hr',he,hs,hV⟩;have none_of:∀k ob,H k=some ob->Hr k=none->Hr' k=none:=fun k ob hk hr=>by
  cases e2:Hr' k with
  |none=>rfl
  |some o2=>
   have h2:=Dk (hw _ _ hk);rcases hs.dom k (by simp[e2])with h3|h3
   ·exact absurd hr h3
   ·omega
 refine⟨v,fun k=>match Hr' k with|some o=>some o|none=>if Hr k=none then H k else none,he,⟨hs.os,hs.tape,hs.output,hs.size,fun k hk hn=> ?_,fun k ob hk=> ?_,fun k hk=> ?_,hs.dr⟩,Hr',hV,fun k ob hk=> ?_,fun k ob hk hr=>⟨none_of k ob hk hr,?_⟩⟩
 ·refine hs.block k hk ?_;cases e2:Hr k with
  |none=>rfl
  |some o2=>rw[pP _ _ e2]at hn;cases hn
 ·cases e2:Hr' k with
  |some o2=>simp only[e2]at hk;cases hk;exact hs.holds _ _ e2
  |none=>
   simp only[e2]at hk;split at hk
   ·rename_i hr;rw[hs.block k (Dk (hw _ _ hk)) hr];exact hw _ _ hk
   ·cases hk
 ·cases e2:Hr' k with
  |some o2=>
   rcases hs.dom k (by simp[e2])with h3|h3
   ·refine .inl fun hn=>h3 ?_;cases e3:Hr k with
    |none=>rfl
    |some o3=>rw[pP _ _ e3]at hn;cases hn
   ·exact .inr h3
  |none=>
   simp only[e2]at hk;split at hk
   ·exact .inl hk
   ·exact absurd rfl hk
 ·simp only[hk]
 ·simp only[none_of k ob hk hr,hr,if_true,hk]
theorem OwS.frame {Hr H Hr' H':PH} {e:TypeId} {sz n:Nat} {v:Value} {xs:List Value} (h:OwS Hr H e sz v n xs) (hk:∀k ob,H k=some ob->Hr k=none->Hr' k=none/\H' k=some ob):OwS Hr' H' e sz v n xs:=by
 obtain⟨h1,h2|⟨g,cap,cur,h2,h3,h4,h5⟩⟩:=h
 ·exact⟨h1,.inl h2⟩
 ·exact⟨h1,.inr ⟨g,cap,cur,h2,(hk _ _ h4 h3).1,(hk _ _ h4 h3).2,h5⟩⟩
end Go.RX
namespace Go.Proofs.Z
open Go.Proofs.Tryz
open Go.RowKit Go.RX Go.WD
def iv (d:Nat):Value:= .int .i64 (d:Nat)
theorem B6 (f:Nat->Value):(Array.range (1*1)).map f= #[f 0]:=by
 apply Array.ext';simp
end Go.Proofs.Z
/- Contracts of package wide: words. -/
namespace Go.Proofs.Z
open Go.Proofs.Tryz
open Go.RowKit Go.RX Go.WD Go.IntWalk
theorem sx (b:Bool) (n:Nat):Value.agg ((#[Value.bool b]++words n).extract 1 9)=wd n:=rfl
theorem Uo (b:Bool) (n:Nat):(#[Value.bool b]++words n).size=9:=rfl
theorem sy (b:Bool) (n:Nat):s8 (#[Value.bool b]++words n):=by
 intro c hc;simp only[Array.toList_append,List.mem_append]at hc;rcases hc with h|h
 ·simp at h;subst h;rfl
 ·exact words_one n c h
theorem Yd:s7 prog 206=wd 0:=by
 have:s7 prog 206= .agg #[.int .u64 0,.int .u64 0,.int .u64 0,.int .u64 0,.int .u64 0,.int .u64 0,.int .u64 0,.int .u64 0]:=by kernel_rfl
 rw[this];simp[wd,words,wf,Ya]
theorem Qy:s7 prog 56=wd 0:=by
 have:s7 prog 56= .agg #[.int .u64 0,.int .u64 0,.int .u64 0,.int .u64 0,.int .u64 0,.int .u64 0,.int .u64 0,.int .u64 0]:=by kernel_rfl
 rw[this];simp[wd,words,wf,Ya]
theorem tc (x y c:Nat) (hx:x<18446744073709551616) (hy:y<18446744073709551616) (hc:c<=1):Own prog 231 [.int .u64 x,.int .u64 y,.int .u64 c] (.tuple #[.int .u64 (((x+y+c)%18446744073709551616:Nat):Int),.int .u64 (((x+y+c)/18446744073709551616:Nat):Int)]):=fun w=>by
 show(callFunc _ #[_,_,_]).run _ w=_;rw[run_callFunc_extern Tryz.func231 (by kernel_rfl) (by kernel_rfl) (by kernel_rfl) (e:=add64Entry) (by kernel_rfl),run_add64 x y c (by omega) (by omega) (by omega) (by omega)];simp only[Result.andThen];congr 5<;>omega
theorem GL (x y b:Nat) (hb:b<=1):Own prog 232 [.int .u64 x,.int .u64 y,.int .u64 b] (.tuple #[.int .u64 (((x+18446744073709551616-y-b)%18446744073709551616:Nat):Int),.int .u64 ((if x<y+b then 1 else 0:Nat):Int)]):=fun w=>by
 show(callFunc _ #[_,_,_]).run _ w=_;rw[run_callFunc_extern Tryz.func232 (by kernel_rfl) (by kernel_rfl) (by kernel_rfl) (e:=sub64Entry) (by kernel_rfl),run_sub64 x y b hb];rfl
theorem B7 (f g:Nat->Nat) (k i:Nat):(if i=k then f k else if i<k then f i else g i)=if i<k+1 then f i else g i:=by
 by_cases h1:i=k
 ·subst h1;rw[if_pos rfl,if_pos (by omega)]
 ·rw[if_neg h1];by_cases h2:i<k
  ·rw[if_pos h2,if_pos (by omega)]
  ·rw[if_neg h2,if_neg (by omega)]
theorem td (a b:Nat):Det prog 196 [wd a,wd b] (.tuple #[wd (sb a b),.int .u64 (bw a b 8)]):=by
 refine Fv mixed A2 (by kernel_rfl) rfl ?_;refine j6 ⟨words_size a,words_one a⟩ (j6 ⟨words_size b,words_one b⟩ ?_);refine⟨fun l=>∃k,k<=8/\l=[.int .u64 (bw a b k),.int .i64 (k:Nat),.agg (wf fun j=>if j<k then dig (sb a b) j else dig a j)],fun l=>(8-intOf (l.getD 1 undef)).toNat,⟨0,by omega,?_⟩,?_⟩
 ·rw[ZN];rfl
 ·rintro vals-⟨k,hk,rfl⟩;refine j6 ⟨_,rfl⟩ (Da (b:=decide ((k:Int)<8)) rfl (fun h=> ?_) (fun h=> ?_))
  ·have hk:k<8:=by simp at h;omega
   refine j6 ⟨_,_,rfl⟩ (j6 ⟨?_,?_⟩ ?_)
   ·show(0:Int)<=(k:Int);omega
   ·show(k:Int)<8;omega
   ·refine YY (GL (dig a k) (dig b k) (bw a b k) (FY _ _ _)) ?_ ?_
    ·simp only[rxs,sk _ hk,Ld b hk,Nat.lt_irrefl,if_false]
    ·refine j6 ⟨_,rfl,Nat.zero_lt_succ _⟩ (j6 ⟨_,rfl,Nat.lt_succ_self _⟩ (j6 ⟨rfl,?_⟩ ?_))
     ·exact FS _ _
     ·refine⟨⟨k+1,by omega,?_⟩,?_⟩
      ·have e:(k:Int)+1=((k+1:Nat):Int):=by omega
       simp only[rxs,<-ZO,<-ZP a b hk,e,i64_in _ (show -9223372036854775808<=((k+1:Nat):Int)/\((k+1:Nat):Int)<=9223372036854775807 from by omega)];rw[fj _ hk,Oe (g:=fun j=>if j<k+1 then dig (sb a b) j else dig a j) (fun i _=> ?_)];exact B7 _ _ k i
      ·simp only[rxs,i64_in _ (show -9223372036854775808<=(k:Int)+1/\(k:Int)+1<=9223372036854775807 from by omega)];omega
  ·have hk:k=8:=by simp at h;omega
   subst hk;refine Cf ?_ rfl;simp only[rxs,Bv,FX (n:=sb a b) (f:=fun j=>if j<8 then dig (sb a b) j else dig a j) (fun i hi=>by rw[if_pos hi])];rfl
theorem B8 (a b:Nat):Det prog 195 [wd a,wd b] (.int .i64 (sg (a%M) (b%M))):=by
 refine Fv mixed A3 (by kernel_rfl) rfl ?_;refine j6 ⟨words_size a,words_one a⟩ (j6 ⟨words_size b,words_one b⟩ ?_);refine⟨fun l=>∃k,k<=8/\(∀j,k<=j->j<8->dig a j=dig b j)/\l=[.int .i64 0,.int .i64 ((k:Int)-1)],fun l=>(intOf (l.getD 1 undef)+1).toNat,⟨8,by omega,fun j h1 h2=>by omega,rfl⟩,?_⟩;rintro vals-⟨k,hk,hs,rfl⟩;refine j6 ⟨_,rfl⟩ (Da (b:=decide ((k:Int)-1≥0)) rfl (fun h=> ?_) (fun h=> ?_))
 ·have hk0:0<k:=by simp at h;omega
  obtain⟨m,rfl⟩:∃m,k=m+1:=⟨k-1,by omega⟩;have hm:m<8:=by omega
  have em:((m+1:Nat):Int)-1=(m:Int):=by omega
  rw[em];refine j6 ⟨_,_,rfl⟩ (j6 ⟨?_,?_⟩ (j6 ⟨dig a m,?_⟩ (j6 ⟨dig b m,?_⟩ ?_)))
  ·show(0:Int)<=(m:Int);omega
  ·show(m:Int)<8;omega
  ·simp only[rxs,Ld a hm]
  ·simp only[rxs,Ld b hm]
  ·refine Da (b:=decide (dig a m≠dig b m)) ?_ (fun h1=> ?_) (fun h1=> ?_)
   ·simp only[rxs,Ld a hm,Ld b hm];congr 1;rw[bH];simp;omega
   ·have h1:dig a m≠dig b m:=by simpa using h1
    refine Da (b:=decide (dig a m<dig b m)) ?_ (fun h2=> ?_) (fun h2=> ?_)
    ·simp only[rxs,Ld a hm,Ld b hm];congr 1;rw[bH];simp
    ·have:=GA hm (fun j h h'=>hs j (by omega) h') (by simpa using h2);exact Cf rfl (by simp[D,Bv,sg,this])
    ·have:=GA (a:=b) (b:=a) hm (fun j h h'=>(hs j (by omega) h').symm) (by simp at h2;omega);exact Cf rfl (by simp only[rxs,Bv,sg];rw[if_neg (by omega),if_neg (by omega)])
   ·have h1:dig a m=dig b m:=by simpa using h1
    refine⟨⟨m,by omega,fun j h h'=> ?_,?_⟩,?_⟩
    ·rcases Nat.eq_or_lt_of_le h with rfl|h
     ·exact h1
     ·exact hs j (by omega) h'
    ·simp only[rxs,i64_in _ (show -9223372036854775808<=(m:Int)-1/\(m:Int)-1<=9223372036854775807 from by omega)]
    ·simp only[rxs,i64_in _ (show -9223372036854775808<=(m:Int)-1/\(m:Int)-1<=9223372036854775807 from by omega)];omega
 ·have hk0:k=0:=by simp at h;omega
  subst hk0;refine Cf rfl ?_;have:a%M=b%M:=by rw[Gp];exact FT fun i hi=>hs i (by omega) hi
  simp[D,Bv,sg,this]
open Go.RowKit Go.RX Go.WD Go.IntWalk
theorem B9 {P:Program} {e:TypeId} (hu:P.underlying e=some (.int .u64)) (d x y:Nat) (w:World):(Op.equalIn (d+1) e (.int .u64 x) (.int .u64 y)).run P w= .ok (decide (x=y)) w:=by
 simp only[Op.equalIn,aG,run_underlying hu,aE,if_true,Sem.run_pure];congr 1;rw[bH];simp;omega
theorem GM {P:Program} {e:TypeId} (hT:z7 P e=true) (hc:P.cellsOf e=1) (uB:Aw P e=false) (hu:P.underlying e=some (.int .u64)) (d:Nat) (f g:Nat->Nat) (w:World):∀is:List Nat,(∀i∈is,i<8)->
  (Op.eqItems (d+1) e (P.cellsOf e) (wf f) (wf g) is).run P w= .ok (decide (∀i∈is,f i=g i)) w:=by
 intro is;induction is with
 |nil=>intro _;simp[Op.eqItems]
 |cons i is ih=>
  intro h;have hi:=h i (by simp);have hp:∀f:Nat->Nat,(part e (wf f) (i*P.cellsOf e)).run P w= .ok (.int .u64 (f i)) w:=fun f=>by
   rw[Xp hT (by rw[ZI,hc];omega) (by omega) w,uB,hc,Nat.mul_one];simp only[cN,if_false,sk f hi]
  simp only[Op.eqItems,aG,hp,aE,B9 hu];by_cases he:f i=g i
  ·simp only[he,decide_true,Bool.not_true,cN,if_false,ih (fun j hj=>h j (by simp[hj]))];congr 1;rw[bH];simp[he]
  ·simp[he]
theorem GN (a b:Nat):(∀i∈List.range 8,dig a i=dig b i)↔a%M=b%M:=
 ⟨fun h=>by rw[Gp];exact FT fun i hi=>h i (cK.2 hi),fun h i hi=>by rw[Gp]at h;exact sj h (cK.1 hi)⟩
theorem C0 {P:Program} {o:Oper} {t t' e:TypeId} {x y:Operand} {va vb:Value} {a b:Nat} (ho:o.op= .binOp .eql t x y t') (hva:va=wd a) (hvb:vb=wd b) (hx:g9 [x,y] [va,vb] x=va) (hy:g9 [x,y] [va,vb] y=vb)
  (hu:P.underlying t=some (.array 8 e)) (hg:P.eqGuardType P.depth t=false) (hT:z7 P e=true) (hc:P.cellsOf e=1) (uB:Aw P e=false) (hue:P.underlying e=some (.int .u64)):
  Yld P o [va,vb] (.bool (decide (a%M=b%M))):=fun w=>by
 have pZ:o.op.operands.toList=[x,y]:=by simp[ho,Op.operands]
 obtain⟨i,hi⟩:∃i,P.info? e=some i:=by
  unfold z7 at hT;rw[Bool.and_eq_true,Option.isSome_iff_exists]at hT;exact hT.1
 subst hva;subst hvb;have hr:(Op.equal t (wd a) (wd b)).run P w= .ok (decide (a%M=b%M)) w:=by
  show(Op.equalIn (9999+1) t (.agg (wf (dig a))) (.agg (wf (dig b)))).run P w=_;rw[run_equalIn_array w 9999 _ _ hu hi,show(9999:Nat)=9998+1 from rfl,GM hT hc uB hue 9998 (dig a) (dig b) w _ (fun i hi=>cK.1 hi)];congr 1;rw[bH,oDi,oDi];exact GN a b
 rw[pZ];simp only[execOp,ho,hx,hy];simp only[wd]at hr⊢;simp[eqGuard,binOp,hg,hr]
section
variable {o:Oper} {x y:Operand} {va vb:Value} {a b:Nat}
theorem C1 (ho:o.op= .binOp .eql 56 x y 56) (hva:va=wd a) (hvb:vb=wd b) (hx:g9 [x,y] [va,vb] x=va) (hy:g9 [x,y] [va,vb] y=vb):Yld prog o [va,vb] (.bool (decide (a%M=b%M))):=
 C0 (e:=54) ho hva hvb hx hy (by kernel_rfl) (by kernel_rfl) (by kernel_rfl) (by kernel_rfl) (by kernel_rfl) (by kernel_rfl)
end
end Go.Proofs.Z

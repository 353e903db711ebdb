/- Numbers of eight words. -/
import Derived.Test.YtmannekkmdockaaGreatDoorRxH
namespace Go.WD
open Go.RX
theorem d1P (k:IntKind) (n:Int):(Value.int k n).cells.toList=[.int k n]:=rfl
theorem b3d (k:IntKind) (n:Int):a0t (Value.int k n).cells:=by intro c hc;simp[b1r]at hc;subst hc;rfl
@[irreducible] def PW (k:Nat):Nat:=2^(64*k)
theorem a1Z:PW 0=1:=by unfold PW;rfl
theorem a0p (k:Nat):PW (k+1)=PW k*18446744073709551616:=by
 unfold PW;rw[Nat.mul_succ,Nat.pow_add]
theorem a0Z (k:Nat):0<PW k:=by unfold PW;exact Nat.pow_pos (by omega)
theorem a4i (i j:Nat):PW (i+j)=PW i*PW j:=by unfold PW;rw[Nat.mul_add,Nat.pow_add]
theorem a7g {i j:Nat} (h:i<=j):PW i<=PW j:=by unfold PW;exact Nat.pow_le_pow_right (by omega) (by omega)
theorem c5Y {i j:Nat} (h:i<=j):PW i ∣ PW j:=by
 obtain⟨d,rfl⟩:=Nat.exists_eq_add_of_le h
 rw[a4i];exact Nat.dvd_mul_right _ _
@[irreducible] def M:Nat:=PW 8
theorem a3w:M=PW 8:=by unfold M;rfl
theorem a9L:0<M:=by rw[a3w];exact a0Z 8
def dig (n i:Nat):Nat:=n/PW i%18446744073709551616
theorem a2p (n i:Nat):dig n i<18446744073709551616:=Nat.mod_lt _ (by omega)
theorem a1p (n k:Nat):n%PW (k+1)=n%PW k+PW k*dig n k:=by rw[a0p,Nat.mod_mul];rfl
theorem a5w {a b:Nat}:∀{k:Nat},(∀i,i<k->dig a i=dig b i)->a%PW k=b%PW k:=by
 intro k
 induction k with
 |zero=>intro _;rw[a1Z,Nat.mod_one,Nat.mod_one]
 |succ k ih=>intro h;rw[a1p,a1p,ih (fun i hi=>h i (by omega)),h k (by omega)]
theorem b3e (a:Nat) {i k:Nat} (h:i<k):dig (a%PW k) i=dig a i:=by
 obtain⟨d,rfl⟩:=Nat.exists_eq_add_of_lt h
 have e:PW (i+d+1)=PW i*PW (d+1):=by rw[Nat.add_assoc,a4i]
 unfold dig
 rw[e,Nat.mod_mul_right_div_self,a0p,Nat.mul_comm (PW d),Nat.mod_mul_right_mod]
theorem a7h {a b k i:Nat} (h:a%PW k=b%PW k) (hi:i<k):dig a i=dig b i:=by
 rw[<-b3e a hi,h,b3e b hi]
theorem a3Z (i:Nat):dig 0 i=0:=by simp[dig]
def wf (f:Nat->Nat):Array Value:= #[.int .u64 (f 0),.int .u64 (f 1),.int .u64 (f 2),.int .u64 (f 3),.int .u64 (f 4),.int .u64 (f 5),.int .u64 (f 6),.int .u64 (f 7)]
theorem c7x (f:Nat->Nat):(wf f).size=8:=rfl
theorem d1Q (f:Nat->Nat):a0t (wf f):=by
 intro c hc
 simp[wf]at hc
 rcases hc with h|h|h|h|h|h|h|h<;>subst h<;>rfl
theorem c5Z {i:Nat} (h:i<8):i=0\/i=1\/i=2\/i=3\/i=4\/i=5\/i=6\/i=7:=by omega
theorem b8x (f:Nat->Nat) {i:Nat} (h:i<8):(wf f).getD i undef= .int .u64 (f i):=by
 rcases c5Z h with h|h|h|h|h|h|h|h<;>subst h<;>rfl
theorem a2u {f g:Nat->Nat} (h:∀i,i<8->f i=g i):wf f=wf g:=by
 unfold wf
 rw[h 0 (by omega),h 1 (by omega),h 2 (by omega),h 3 (by omega),h 4 (by omega),h 5 (by omega),h 6 (by omega),h 7 (by omega)]
theorem d1R (f:Nat->Nat) {i:Nat} (h:i<8) (d:Nat):(wf f).setIfInBounds i (.int .u64 d)=wf (fun j=>if j=i then d else f j):=by
 rcases c5Z h with h|h|h|h|h|h|h|h<;>subst h<;>rfl
theorem b4r (f:Nat->Nat) {i:Nat} (h:i<8) (d:Nat):spl (wf f) i [.int .u64 d]=wf (fun j=>if j=i then d else f j):=d1R f h d
def words (n:Nat):Array Value:=wf (dig n)
def wd (n:Nat):Value:= .agg (words n)
def nb (b:Bool) (n:Nat):Value:= .agg (#[.bool b]++words n)
theorem words_size (n:Nat):(words n).size=8:=rfl
theorem words_one (n:Nat):a0t (words n):=d1Q _
theorem a1a (n:Nat) {i:Nat} (h:i<8):(words n).getD i undef= .int .u64 (dig n i):=b8x _ h
theorem a7i {a b:Nat} (h:a%M=b%M):words a=words b:=by rw[a3w]at h;exact a2u fun _ hi=>a7h h hi
theorem b4s {f:Nat->Nat} {n:Nat} (h:∀i,i<8->f i=dig n i):wf f=words n:=a2u h
theorem rxs:(∀(f:SV->Value) (a:SV) (l:List SV),List.map f (a::l)=f a::List.map f l)/\
  (∀f:SV->Value,List.map f []=[])/\
  (∀(a:Value) (l m:List Value),(a::l)++m=a::(l++m))/\
  (∀l:List Value,[]++l=l)/\
  (∀(a:Value) (l:List Value) (d:Value),(a::l).getD 0 d=a)/\
  (∀(a:Value) (l:List Value) (n:Nat) (d:Value),(a::l).getD (n+1) d=l.getD n d)/\
  (∀P ρ i,D P ρ (.v i)=ρ.getD i undef)/\
  (∀P ρ c,D P ρ (.k c)=c)/\
  (∀P ρ t,D P ρ (.z t)=a0L P t)/\
  (∀P ρ x,D P ρ (.ag x)= .agg (D P ρ x).cells)/\
  (∀P ρ x o s i,D P ρ (.cell x o s i)=(D P ρ x).cells.getD (o+s*a2j (D P ρ i)) undef)/\
  (∀P ρ x o n s i,D P ρ (.sub x o n s i)= .agg ((D P ρ x).cells.extract (o+s*a2j (D P ρ i)) (o+s*a2j (D P ρ i)+n)))/\
  (∀P ρ x o n y s i,D P ρ (.put x o n y s i)= .agg (spl (D P ρ x).cells (o+s*a2j (D P ρ i)) (D P ρ y).cells.toList))/\
  (∀P ρ x n y,D P ρ (.cat x n y)= .agg ((D P ρ x).cells++(D P ρ y).cells))/\
  (∀P ρ x i,D P ρ (.proj x i)=c5R i (D P ρ x))/\
  (∀P ρ o k x y,D P ρ (.op2 o k x y)=a2E o k (Go.RowKit.intOf (D P ρ x)) (Go.RowKit.intOf (D P ρ y)))/\
  (∀P ρ o k x,D P ρ (.op1 o k x)=unV o k (Go.RowKit.intOf (D P ρ x)))/\
  (∀P ρ x,D P ρ (.nt x)= .bool (!a2n (D P ρ x)))/\
  (∀P ρ k x,D P ρ (.cv k x)= .int k (k.wrap (Go.RowKit.intOf (D P ρ x))))/\
  (∀P ρ c x y,D P ρ (.ite c x y)=if a2n (D P ρ c)then D P ρ x else D P ρ y)/\
  (∀P ρ n x y,D P ρ (.eqb n x y)= .bool (n !=(a2n (D P ρ x)==a2n (D P ρ y))))/\
  (∀v,a2j v=(Go.RowKit.intOf v).toNat)/\
  (∀k n,Go.RowKit.intOf (.int k n)=n)/\
  (∀b,a2n (.bool b)=b)/\
  (∀(k:IntKind) (a b:Int),a2E .add k a b= .int k (k.wrap (a+b)))/\
  (∀(k:IntKind) (a b:Int),a2E .sub k a b= .int k (k.wrap (a-b)))/\
  (∀(k:IntKind) (a b:Int),a2E .mul k a b= .int k (k.wrap (a*b)))/\
  (∀(k:IntKind) (a b:Int),a2E .quo k a b= .int k (k.wrap (a.tdiv b)))/\
  (∀(k:IntKind) (a b:Int),a2E .rem k a b= .int k (a.tmod b))/\
  (∀(k:IntKind) (a b:Int),a2E .and k a b= .int k (k.wrap (BitVec.ofInt k.bits a&&&BitVec.ofInt k.bits b).toNat))/\
  (∀(k:IntKind) (a b:Int),a2E .or k a b= .int k (k.wrap (BitVec.ofInt k.bits a|||BitVec.ofInt k.bits b).toNat))/\
  (∀(k:IntKind) (a b:Int),a2E .xor k a b= .int k (k.wrap (BitVec.ofInt k.bits a^^^BitVec.ofInt k.bits b).toNat))/\
  (∀(k:IntKind) (a b:Int),a2E .andNot k a b= .int k (k.wrap (BitVec.ofInt k.bits a&&& ~~~BitVec.ofInt k.bits b).toNat))/\
  (∀(k:IntKind) (a b:Int),a2E .shl k a b= .int k (k.wrap (a*2^(min b.toNat k.bits))))/\
  (∀(k:IntKind) (a b:Int),a2E .shr k a b= .int k (a.fdiv (2^(min b.toNat k.bits))))/\
  (∀(k:IntKind) (a b:Int),a2E .eql k a b= .bool (a==b))/\
  (∀(k:IntKind) (a b:Int),a2E .neq k a b= .bool (a !=b))/\
  (∀(k:IntKind) (a b:Int),a2E .lss k a b= .bool (a<b))/\
  (∀(k:IntKind) (a b:Int),a2E .leq k a b= .bool (a<=b))/\
  (∀(k:IntKind) (a b:Int),a2E .gtr k a b= .bool (a>b))/\
  (∀(k:IntKind) (a b:Int),a2E .geq k a b= .bool (a≥b))/\
  (∀cs:Array Value,(Value.agg cs).cells=cs)/\
  (∀n,(wd n).cells=words n)/\
  (∀n:Nat,0+n=n)/\
  (∀n:Nat,1*n=n)/\
  (∀n:Nat,n+0=n)/\
  (∀n:Nat,0*n=0)/\
  (∀n:Nat,(n:Int).toNat=n)/\
  (∀a b:Value,c5R 0 (.tuple #[a,b])=a)/\
  (∀a b:Value,c5R 1 (.tuple #[a,b])=b)/\
  (∀a b c:Value,c5R 0 (.tuple #[a,b,c])=a)/\
  (∀a b c:Value,c5R 1 (.tuple #[a,b,c])=b)/\
  (∀a b c:Value,c5R 2 (.tuple #[a,b,c])=c)/\
  (∀(k:IntKind) (n:Int),(Value.int k n).cells.toList=[.int k n]):=by
 and_intros<;>intros<;>first|rfl|simp
def cr (a b k:Nat):Nat:=(a%PW k+b%PW k)/PW k
theorem d1S (a b k:Nat):cr a b k<=1:=by
 unfold cr
 have h1:=Nat.mod_lt a (a0Z k)
 have h2:=Nat.mod_lt b (a0Z k)
 have:a%PW k+b%PW k<2*PW k:=by omega
 have:=(Nat.div_lt_iff_lt_mul (a0Z k)).2 this
 omega
theorem b3f (a b k:Nat):cr a b (k+1)=(dig a k+dig b k+cr a b k)/18446744073709551616:=by
 unfold cr
 rw[a1p,a1p,a0p,<-Nat.div_div_eq_div_mul]
 congr 1
 rw[show a%PW k+PW k*dig a k+(b%PW k+PW k*dig b k)=(a%PW k+b%PW k)+PW k*(dig a k+dig b k)from by rw[Nat.mul_add];omega,Nat.add_mul_div_left _ _ (a0Z k)]
 omega
theorem b6F (a b k:Nat):(a+b)/PW k=a/PW k+b/PW k+cr a b k:=by
 unfold cr
 have h1:=Nat.div_add_mod a (PW k)
 have h2:=Nat.div_add_mod b (PW k)
 rw[show a+b=(a%PW k+b%PW k)+PW k*(a/PW k+b/PW k)from by rw[Nat.mul_add];omega,Nat.add_mul_div_left _ _ (a0Z k)]
 omega
theorem a7j (a b k:Nat):dig (a+b) k=(dig a k+dig b k+cr a b k)%18446744073709551616:=by
 unfold dig;rw[b6F];omega
def bw (a b k:Nat):Nat:=if a%PW k<b%PW k then 1 else 0
theorem c7y (a b:Nat):bw a b 0=0:=by simp[bw,a1Z,Nat.mod_one]
theorem d1T (a b k:Nat):bw a b k<=1:=by unfold bw;split<;>omega
theorem c6a {p x y A B:Nat} (hA:A<p) (hB:B<p):A+p*x<B+p*y↔x<y+(if A<B then 1 else 0):=by
 constructor
 ·intro h
  rcases Nat.lt_trichotomy x y with h1|h1|h1
  ·split<;>omega
  ·subst h1;rw[if_pos (by omega)];omega
  ·exfalso
   have:p*(y+1)<=p*x:=Nat.mul_le_mul_left _ h1
   rw[Nat.mul_succ]at this;omega
 ·intro h
  split at h
  ·rename_i hlt
   rcases Nat.lt_or_ge x y with h1|h1
   ·have:p*(x+1)<=p*y:=Nat.mul_le_mul_left _ h1
    rw[Nat.mul_succ]at this;omega
   ·have:x=y:=by omega
    subst this;omega
  ·have:p*(x+1)<=p*y:=Nat.mul_le_mul_left _ (by omega)
   rw[Nat.mul_succ]at this;omega
theorem c7z (a b k:Nat):bw a b (k+1)=if dig a k<dig b k+bw a b k then 1 else 0:=by
 unfold bw
 rw[a1p,a1p]
 simp only[c6a (Nat.mod_lt a (a0Z k)) (Nat.mod_lt b (a0Z k))]
theorem b1x {a b m:Nat} (hm:m<8) (hs:∀j,m<j->j<8->dig a j=dig b j) (h:dig a m<dig b m):a%M<b%M:=by
 have key:∀t,m+1+t<=8->a%PW (m+1+t)<b%PW (m+1+t):=by
  intro t
  induction t with
  |zero=>
   intro _
   rw[Nat.add_zero,a1p,a1p,c6a (Nat.mod_lt a (a0Z m)) (Nat.mod_lt b (a0Z m))]
   omega
  |succ t ih=>
   intro ht
   rw[<-Nat.add_assoc,a1p,a1p,hs (m+1+t) (by omega) (by omega)]
   have:=ih (by omega)
   omega
 have:=key (8-(m+1)) (by omega)
 rw[show m+1+(8-(m+1))=8 from by omega]at this
 rw[a3w];exact this
def sb (a b:Nat):Nat:=a+(M-b%M)
theorem d1U (a b:Nat) {k:Nat} (hk:k<8):dig (sb a b) k=(dig a k+18446744073709551616-dig b k-bw a b k)%18446744073709551616:=by
 have hs:(sb a b+b)%M=a%M:=by
  unfold sb
  have:=Nat.mod_lt b a9L
  have e:=Nat.div_add_mod b M
  rw[show a+(M-b%M)+b=a+M*(b/M+1)from by rw[Nat.mul_succ];omega,Nat.add_mul_mod_self_left]
 have hd:dig (sb a b+b) k=dig a k:=a7h (by rw[<-a3w];exact hs) hk
 have hc:cr (sb a b) b k=bw a b k:=by
  have hle:k<=8:=by omega
  have hdv:PW k ∣ M:=by rw[a3w];exact c5Y hle
  have h1:(sb a b+b)%PW k=a%PW k:=by
   rw[<-Nat.mod_mod_of_dvd _ hdv,hs,Nat.mod_mod_of_dvd _ hdv]
  have h2:((sb a b)%PW k+b%PW k)%PW k=a%PW k:=by rw[<-Nat.add_mod];exact h1
  have hA:=Nat.mod_lt (sb a b) (a0Z k)
  have hB:=Nat.mod_lt b (a0Z k)
  unfold cr bw
  rcases Nat.lt_or_ge ((sb a b)%PW k+b%PW k) (PW k)with h|h
  ·rw[Nat.mod_eq_of_lt h]at h2
   rw[Nat.div_eq_of_lt h,if_neg (by omega)]
  ·have e:=Nat.mod_eq_sub_mod h
   rw[e,Nat.mod_eq_of_lt (by omega)]at h2
   rw[if_pos (by omega)]
   rw[Nat.div_eq_sub_div (a0Z k) h,Nat.div_eq_of_lt (by omega)]
 rw[a7j,hc]at hd
 have h1:=a2p (sb a b) k
 have h2:=a2p b k
 have h3:=a2p a k
 have h4:=d1T a b k
 omega
open Go.RX
def sg (a b:Nat):Int:=if a<b then -1 else if a=b then 0 else 1
@[irreducible] def HM:Nat:=9223372036854775808*PW 7
theorem b3g:HM=9223372036854775808*PW 7:=by unfold HM;rfl
theorem c2s:M=2*HM:=by rw[a3w,b3g,show(8:Nat)=7+1 from rfl,a0p];omega
theorem b1y:0<HM:=by rw[b3g];have:=a0Z 7;omega
def rs (z:Int):Nat:=(z%(M:Int)).toNat
theorem d1V (z:Int):rs z<M:=by
 unfold rs
 have:=a9L
 have h:=Int.emod_lt_of_pos z (show(0:Int)<M by omega)
 have h':=Int.emod_nonneg z (show(M:Int)≠0 by omega)
 omega
def iw (z:Int):Value:=wd (rs z)
def nm (z:Int):Value:=nb (decide (z<0)) z.natAbs
def toI (a:Nat):Int:=if a%M<HM then(a%M:Nat)else(a%M:Nat)-(M:Int)
def b0S (z:Int):Prop:= -(HM:Int)<=z/\z<HM
theorem c3a (a:Nat):b0S (toI a):=by
 have h:=Nat.mod_lt a a9L
 have:=c2s
 unfold b0S toI;split<;>omega
theorem b8y {z:Int} (h0:0<=z) (h:z<M):rs z=z.toNat:=by
 unfold rs;rw[Int.emod_eq_of_lt h0 h]
theorem b8z {z:Int} (h0:z<0) (h: -(M:Int)<=z):rs z=(z+M).toNat:=by
 unfold rs
 have:=a9L
 rw[<-Int.add_emod_right,Int.emod_eq_of_lt (by omega) (by omega)]
theorem toI_rs {z:Int} (h:b0S z):toI (rs z)=z:=by
 have hM:=c2s
 have hl:=d1V z
 obtain⟨h1,h2⟩:=h
 unfold toI
 rw[Nat.mod_eq_of_lt hl]
 by_cases h0:0<=z
 ·rw[b8y h0 (by omega)]
  split<;>omega
 ·rw[b8z (by omega) (by omega)]
  split<;>omega
theorem c6b (z:Int):rs z%M=rs z:=Nat.mod_eq_of_lt (d1V z)
theorem c7A (a:Nat):dig a 7<9223372036854775808↔a%M<HM:=by
 have e:a%M=a%PW 7+PW 7*dig a 7:=by rw[a3w];exact a1p a 7
 have hlt:=Nat.mod_lt a (a0Z 7)
 rw[e,b3g]
 constructor
 ·intro h
  have:=Nat.mul_le_mul_left (PW 7) (show dig a 7+1<=9223372036854775808 by omega)
  rw[Nat.mul_succ]at this
  rw[Nat.mul_comm 9223372036854775808];omega
 ·intro h
  rcases Nat.lt_or_ge (dig a 7) 9223372036854775808 with h1|h1
  ·exact h1
  ·have:=Nat.mul_le_mul_left (PW 7) h1
   rw[Nat.mul_comm 9223372036854775808]at h;omega
theorem a9M {b b':Bool} {m n:Nat} (h:b=b') (hm:m%M=n%M):nb b m=nb b' n:=by unfold nb;rw[h,a7i hm]
theorem a9N {m n:Nat} (hm:m%M=n%M):wd m=wd n:=by unfold wd;rw[a7i hm]
theorem d1W {i:Nat} (h:i<8):dig HM i=if i=7 then 9223372036854775808 else 0:=by
 unfold dig
 rw[b3g]
 split
 ·rename_i e;subst e
  rw[Nat.mul_div_cancel _ (a0Z 7)]
 ·obtain⟨d,hd⟩:∃d,7=(d+1)+i:=⟨7-i-1,by omega⟩
  rw[hd,a4i,<-Nat.mul_assoc,Nat.mul_div_cancel _ (a0Z i),a0p,<-Nat.mul_assoc,Nat.mul_mod_left]
theorem d4T:HM<M:=by have:=c2s;have:=b1y;omega
theorem b3h:spl (words 0) 7 [.int .u64 9223372036854775808]=words HM:=by
 have:=b4r (dig 0) (show 7<8 by omega) 9223372036854775808
 refine Eq.trans this (b4s fun i hi=> ?_)
 rw[d1W hi,a3Z]
theorem a6d {z:Int} (h:z<0) (hm:z.natAbs<M):wd (sb 0 z.natAbs)=iw z:=by
 unfold iw
 refine a9N ?_
 rw[b8z h (by omega)]
 unfold sb
 rw[Nat.mod_eq_of_lt hm]
 congr 1
 omega
theorem b8A {z:Int} (h:0<=z) (hm:z.natAbs<M):wd z.natAbs=iw z:=by
 unfold iw
 rw[b8y h (by omega)]
 congr 1
 omega
theorem sg_pos {a b:Nat}:sg a b>0↔b<a:=by unfold sg;split<;>(try split)<;>omega
theorem sg_zero {a b:Nat}:sg a b=0↔a=b:=by unfold sg;split<;>(try split)<;>omega
end Go.WD
/- Digits to the base 2^32: plain. -/
namespace Go.WD
open Go.RX
@[irreducible] def BP (k:Nat):Nat:=2^(32*k)
theorem BP_zero:BP 0=1:=by unfold BP;rfl
theorem BP_succ (k:Nat):BP (k+1)=BP k*4294967296:=by unfold BP;rw[Nat.mul_succ,Nat.pow_add]
theorem d1X (k:Nat):0<BP k:=by unfold BP;exact Nat.pow_pos (by omega)
theorem d1Y (i j:Nat):BP (i+j)=BP i*BP j:=by unfold BP;rw[Nat.mul_add,Nat.pow_add]
theorem a1L {i j:Nat} (h:i<=j):BP i<=BP j:=by unfold BP;exact Nat.pow_le_pow_right (by omega) (by omega)
theorem BP_lt_iff {i j:Nat}:BP i<BP j↔i<j:=by
 constructor
 ·intro h;rcases Nat.lt_or_ge i j with h1|h1
  ·exact h1
  ·have:=a1L h1;omega
 ·intro h
  have h1:=a1L (show i+1<=j from h)
  have h2:=d1X i
  rw[BP_succ]at h1;omega
theorem c7B (k:Nat):BP (2*k)=PW k:=by unfold BP PW;rw[<-Nat.mul_assoc]
theorem d5Y:BP 16=M:=by rw[a3w,<-c7B]
theorem b8B {l:List Nat} {k:Nat} (h:k<l.length):l[k]? =some (l.getD k 0):=by
 rw[List.getD_eq_getElem?_getD,List.getElem?_eq_getElem h];rfl
theorem b6G {l:List Nat} {k:Nat} (h:k<l.length):l.take (k+1)=l.take k++[l.getD k 0]:=by
 rw[List.take_add_one,b8B h];rfl
theorem a9O {l:List Nat} {k:Nat} (h:k<l.length):l.drop k=l.getD k 0::l.drop (k+1):=by
 have:=List.drop_eq_getElem_cons h
 rw[this]
 congr 1
 rw[List.getD_eq_getElem?_getD,List.getElem?_eq_getElem h];rfl
theorem a7k {l:List Nat} {k x:Nat} (h:k<l.length):(l.set k x).getD k 0=x:=by
 rw[List.getD_eq_getElem?_getD,List.getElem?_set,if_pos rfl,if_pos h];rfl
theorem a1M {l:List Nat} {k j x:Nat} (h:j≠k):(l.set k x).getD j 0=l.getD j 0:=by
 rw[List.getD_eq_getElem?_getD,List.getD_eq_getElem?_getD,List.getElem?_set,if_neg (fun e=>h e.symm)]
theorem c3b {l:List Nat} {k j x:Nat} (h:k<j):(l.set k x).drop j=l.drop j:=by
 apply List.ext_getElem?
 intro i
 rw[List.getElem?_drop,List.getElem?_drop,List.getElem?_set,if_neg (by omega)]
theorem a4Q (n k:Nat):(List.replicate n 0).getD k 0=0:=by
 rw[List.getD_eq_getElem?_getD,List.getElem?_replicate];split<;>rfl
theorem a8J {l:List Nat} {k:Nat} (h:l.length<=k):l.getD k 0=0:=by
 rw[List.getD_eq_getElem?_getD,List.getElem?_eq_none h];rfl
end Go.WD
/- Words to the base 2^64: plain. -/
namespace Go.WD
open Go.RX
theorem PW_lt_iff {i j:Nat}:PW i<PW j↔i<j:=by
 constructor
 ·intro h;rcases Nat.lt_or_ge i j with h1|h1
  ·exact h1
  ·have:=a7g h1;omega
 ·intro h
  have h1:=a7g (show i+1<=j from h)
  have h2:=a0Z i
  rw[a0p]at h1;omega
def ul:List Nat->Nat
 |[]=>0
 |d::l=>d+18446744073709551616*ul l
def Eg (l:List Nat):Prop:=∀d∈l,d<18446744073709551616
theorem Eg.one {d:Nat} (h:d<18446744073709551616):Eg [d]:=fun e he=>by rw[List.mem_singleton]at he;omega
theorem Eg.take {l:List Nat} (h:Eg l) (k:Nat):Eg (l.take k):=fun d hd=>h d (List.mem_of_mem_take hd)
theorem Eg.set {l:List Nat} (h:Eg l) (k:Nat) {x:Nat} (hx:x<18446744073709551616):Eg (l.set k x):=fun d hd=>by
 rcases List.mem_or_eq_of_mem_set hd with h1|h1
 ·exact h d h1
 ·omega
theorem Eg.zeros (n:Nat):Eg (List.replicate n 0):=fun d hd=>by rw[List.mem_replicate]at hd;omega
theorem Eg.at {l:List Nat} (h:Eg l) (k:Nat):l.getD k 0<18446744073709551616:=by
 rw[List.getD_eq_getElem?_getD]
 cases e:l[k]? with
 |none=>simp
 |some d=>exact h d (List.mem_of_getElem? e)
theorem a7l:∀(a b:List Nat),ul (a++b)=ul a+PW a.length*ul b
 |[],b=>by simp[ul,a1Z]
 |d::a,b=>by
  rw[List.cons_append,ul,ul,a7l a b,List.length_cons,a0p,Nat.mul_add,<-Nat.add_assoc,<-Nat.mul_assoc,Nat.mul_comm (PW a.length)]
theorem b8C (d:Nat):ul [d]=d:=by simp[ul]
theorem a6n:∀{l:List Nat},Eg l->ul l<PW l.length
 |[],_=>by simp[ul,a1Z]
 |d::l,h=>by
  have h1:=a6n (l:=l) fun e he=>h e (by simp[he])
  have h2:=h d (by simp)
  rw[ul,List.length_cons,a0p]
  omega
theorem a3h:∀n,ul (List.replicate n 0)=0
 |0=>rfl
 |n+1=>by rw[List.replicate_succ,ul,a3h n]
theorem a1I {l:List Nat} {k:Nat} (h:k<l.length):ul (l.take (k+1))=ul (l.take k)+PW k*l.getD k 0:=by
 rw[b6G h,a7l,b8C,List.length_take,Nat.min_eq_left (by omega)]
theorem a5x {l:List Nat} {k:Nat} (h:k<l.length):ul (l.drop k)=l.getD k 0+18446744073709551616*ul (l.drop (k+1)):=by
 rw[a9O h];rfl
theorem a9P (l:List Nat) {k:Nat} (h:k<=l.length):ul l=ul (l.take k)+PW k*ul (l.drop k):=by
 have:=a7l (l.take k) (l.drop k)
 rwa[List.take_append_drop,List.length_take,Nat.min_eq_left h]at this
theorem a4j:∀{l:List Nat} {k:Nat} (x:Nat),k<l.length->ul (l.set k x)+PW k*l.getD k 0=ul l+PW k*x
 |[],k,x,h=>by simp at h
 |d::l,0,x,_=>by simp[ul,a1Z];omega
 |d::l,k+1,x,h=>by
  have ih:=a4j (l:=l) (k:=k) x (by simpa using h)
  have e:(d::l).getD (k+1) 0=l.getD k 0:=rfl
  rw[List.set_cons_succ,ul,ul,e,a0p,Nat.mul_comm (PW k),Nat.mul_assoc,Nat.mul_assoc]
  have h1:18446744073709551616*ul (l.set k x)+18446744073709551616*(PW k*l.getD k 0)=18446744073709551616*ul l+18446744073709551616*(PW k*x):=by rw[<-Nat.mul_add,ih,Nat.mul_add]
  omega
def Um (l:List Nat):Prop:=∀k,ul l<PW k->l.length<=k
theorem Um.nil:Um []:=fun _ _=>Nat.zero_le _
theorem d4U {l:List Nat} {n:Nat} (hl:l.length=n+1) (h:l.getD n 0≠0):PW n<=ul l:=by
 have h1:=a1I (l:=l) (k:=n) (by omega)
 rw[List.take_of_length_le (by omega)]at h1
 have:=Nat.mul_le_mul_left (PW n) (show 1<=l.getD n 0 by omega)
 omega
theorem Um.of {l:List Nat} {n:Nat} (hl:l.length=n+1) (h:l.getD n 0≠0):Um l:=fun k hk=>by
 have:=PW_lt_iff.1 (Nat.lt_of_le_of_lt (d4U hl h) hk)
 omega
theorem Um.ge {l:List Nat} (h:Um l) {n:Nat} (hl:l.length=n+1):PW n<=ul l:=by
 rcases Nat.lt_or_ge (ul l) (PW n)with h1|h1
 ·have:=h n h1;omega
 ·exact h1
theorem Um.len_le {a b:List Nat} (ha:Um a) (hb:Eg b) (h:ul a<=ul b):a.length<=b.length:=ha _ (Nat.lt_of_le_of_lt h (a6n hb))
theorem Um.lt_of_len {a b:List Nat} (ha:Eg a) (hb:Um b) (h:a.length<b.length):ul a<ul b:=by
 obtain⟨n,hn⟩:∃n,b.length=n+1:=⟨b.length-1,by omega⟩
 exact Nat.lt_of_lt_of_le (a6n ha) (Nat.le_trans (a7g (by omega)) (hb.ge hn))
theorem Um.pos {l:List Nat} (h:Um l):0<l.length↔0<ul l:=by
 constructor
 ·intro hl
  obtain⟨n,hn⟩:∃n,l.length=n+1:=⟨l.length-1,by omega⟩
  exact Nat.lt_of_lt_of_le (a0Z n) (h.ge hn)
 ·intro hv
  cases l with
  |nil=>simp[ul]at hv
  |cons d l=>simp
theorem b4t {a b:List Nat} {i:Nat} (ha:Eg a) (hb:Eg b) (hia:i<a.length) (hib:i<b.length) (hd:a.drop (i+1)=b.drop (i+1)) (h:a.getD i 0<b.getD i 0):ul a<ul b:=by
 have e1:=a9P a (show i+1<=a.length by omega)
 have e2:=a9P b (show i+1<=b.length by omega)
 have f1:=a1I hia
 have f2:=a1I hib
 have g1:=a6n (ha.take i)
 rw[List.length_take,Nat.min_eq_left (by omega)]at g1
 have h2:=Nat.mul_le_mul_left (PW i) (show a.getD i 0+1<=b.getD i 0 from h)
 rw[Nat.mul_add]at h2
 rw[hd]at e1
 omega
end Go.WD

/- Numbers of eight words. -/
import Derived.Test.YtmannekkmdockaaGreatDoorRxH
import Derived.Test.YtmannekkmdockaaGreatDoorWdT
import Derived.Test.YtmannekkmdockaaGreatDoorRxT
import Derived.Laws.Externs
import Derived.Shelf.Spec.BitsCarry
import Derived.IntWalk
import Derived.ChangeKeysEq
namespace Go.WD
open Go.RX
theorem d3r (k:IntKind) (n:Int):(Value.int k n).cells.toList=[.int k n]:=rfl
theorem b3R (k:IntKind) (n:Int):a0t (Value.int k n).cells:=by intro c hc;simp[b2i]at hc;subst hc;rfl
@[irreducible] def PW (k:Nat):Nat:=2^(64*k)
theorem a2g:PW 0=1:=by unfold PW;rfl
theorem a0s (k:Nat):PW (k+1)=PW k*18446744073709551616:=by
 unfold PW;rw[Nat.mul_succ,Nat.pow_add]
theorem a1a (k:Nat):0<PW k:=by unfold PW;exact Nat.pow_pos (by omega)
theorem a4C (i j:Nat):PW (i+j)=PW i*PW j:=by unfold PW;rw[Nat.mul_add,Nat.pow_add]
theorem a7J {i j:Nat} (h:i<=j):PW i<=PW j:=by unfold PW;exact Nat.pow_le_pow_right (by omega) (by omega)
theorem c7w {i j:Nat} (h:i<=j):PW i ∣ PW j:=by
 obtain⟨d,rfl⟩:=Nat.exists_eq_add_of_le h
 rw[a4C];exact Nat.dvd_mul_right _ _
@[irreducible] def M:Nat:=PW 8
theorem a3t:M=PW 8:=by unfold M;rfl
theorem b0C:0<M:=by rw[a3t];exact a1a 8
def dig (n i:Nat):Nat:=n/PW i%18446744073709551616
theorem a2x (n i:Nat):dig n i<18446744073709551616:=Nat.mod_lt _ (by omega)
theorem a1q (n k:Nat):n%PW (k+1)=n%PW k+PW k*dig n k:=by rw[a0s,Nat.mod_mul];rfl
theorem a5V {a b:Nat}:∀{k:Nat},(∀i,i<k->dig a i=dig b i)->a%PW k=b%PW k:=by
 intro k
 induction k with
 |zero=>intro _;rw[a2g,Nat.mod_one,Nat.mod_one]
 |succ k ih=>intro h;rw[a1q,a1q,ih (fun i hi=>h i (by omega)),h k (by omega)]
theorem b3S (a:Nat) {i k:Nat} (h:i<k):dig (a%PW k) i=dig a i:=by
 obtain⟨d,rfl⟩:=Nat.exists_eq_add_of_lt h
 have e:PW (i+d+1)=PW i*PW (d+1):=by rw[Nat.add_assoc,a4C]
 unfold dig
 rw[e,Nat.mod_mul_right_div_self,a0s,Nat.mul_comm (PW d),Nat.mod_mul_right_mod]
theorem a7K {a b k i:Nat} (h:a%PW k=b%PW k) (hi:i<k):dig a i=dig b i:=by
 rw[<-b3S a hi,h,b3S b hi]
theorem a4q (i:Nat):dig 0 i=0:=by simp[dig]
def wf (f:Nat->Nat):Array Value:= #[.int .u64 (f 0),.int .u64 (f 1),.int .u64 (f 2),.int .u64 (f 3),.int .u64 (f 4),.int .u64 (f 5),.int .u64 (f 6),.int .u64 (f 7)]
theorem c8X (f:Nat->Nat):(wf f).size=8:=rfl
theorem d3s (f:Nat->Nat):a0t (wf f):=by
 intro c hc
 simp[wf]at hc
 rcases hc with h|h|h|h|h|h|h|h<;>subst h<;>rfl
theorem c7x {i:Nat} (h:i<8):i=0\/i=1\/i=2\/i=3\/i=4\/i=5\/i=6\/i=7:=by omega
theorem b9u (f:Nat->Nat) {i:Nat} (h:i<8):(wf f).getD i undef= .int .u64 (f i):=by
 rcases c7x h with h|h|h|h|h|h|h|h<;>subst h<;>rfl
theorem a2D {f g:Nat->Nat} (h:∀i,i<8->f i=g i):wf f=wf g:=by
 unfold wf
 rw[h 0 (by omega),h 1 (by omega),h 2 (by omega),h 3 (by omega),h 4 (by omega),h 5 (by omega),h 6 (by omega),h 7 (by omega)]
theorem d3t (f:Nat->Nat) {i:Nat} (h:i<8) (d:Nat):(wf f).setIfInBounds i (.int .u64 d)=wf (fun j=>if j=i then d else f j):=by
 rcases c7x h with h|h|h|h|h|h|h|h<;>subst h<;>rfl
theorem b5f (f:Nat->Nat) {i:Nat} (h:i<8) (d:Nat):spl (wf f) i [.int .u64 d]=wf (fun j=>if j=i then d else f j):=d3t f h d
def words (n:Nat):Array Value:=wf (dig n)
def wd (n:Nat):Value:= .agg (words n)
def nb (b:Bool) (n:Nat):Value:= .agg (#[.bool b]++words n)
theorem words_size (n:Nat):(words n).size=8:=rfl
theorem words_one (n:Nat):a0t (words n):=d3s _
theorem a1b (n:Nat) {i:Nat} (h:i<8):(words n).getD i undef= .int .u64 (dig n i):=b9u _ h
theorem a7L {a b:Nat} (h:a%M=b%M):words a=words b:=by rw[a3t]at h;exact a2D fun _ hi=>a7K h hi
theorem b5g {f:Nat->Nat} {n:Nat} (h:∀i,i<8->f i=dig n i):wf f=words n:=a2D h
theorem rxs:(∀(f:SV->Value) (a:SV) (l:List SV),List.map f (a::l)=f a::List.map f l)/\
  (∀f:SV->Value,List.map f []=[])/\
  (∀(a:Value) (l m:List Value),(a::l)++m=a::(l++m))/\
  (∀l:List Value,[]++l=l)/\
  (∀(a:Value) (l:List Value) (d:Value),(a::l).getD 0 d=a)/\
  (∀(a:Value) (l:List Value) (n:Nat) (d:Value),(a::l).getD (n+1) d=l.getD n d)/\
  (∀P ρ i,D P ρ (.v i)=ρ.getD i undef)/\
  (∀P ρ c,D P ρ (.k c)=c)/\
  (∀P ρ t,D P ρ (.z t)=a0I P t)/\
  (∀P ρ x,D P ρ (.ag x)= .agg (D P ρ x).cells)/\
  (∀P ρ x o s i,D P ρ (.cell x o s i)=(D P ρ x).cells.getD (o+s*a2r (D P ρ i)) undef)/\
  (∀P ρ x o n s i,D P ρ (.sub x o n s i)= .agg ((D P ρ x).cells.extract (o+s*a2r (D P ρ i)) (o+s*a2r (D P ρ i)+n)))/\
  (∀P ρ x o n y s i,D P ρ (.put x o n y s i)= .agg (spl (D P ρ x).cells (o+s*a2r (D P ρ i)) (D P ρ y).cells.toList))/\
  (∀P ρ x n y,D P ρ (.cat x n y)= .agg ((D P ρ x).cells++(D P ρ y).cells))/\
  (∀P ρ x i,D P ρ (.proj x i)=c7q i (D P ρ x))/\
  (∀P ρ o k x y,D P ρ (.op2 o k x y)=a2O o k (Go.RowKit.intOf (D P ρ x)) (Go.RowKit.intOf (D P ρ y)))/\
  (∀P ρ o k x,D P ρ (.op1 o k x)=unV o k (Go.RowKit.intOf (D P ρ x)))/\
  (∀P ρ x,D P ρ (.nt x)= .bool (!a2w (D P ρ x)))/\
  (∀P ρ k x,D P ρ (.cv k x)= .int k (k.wrap (Go.RowKit.intOf (D P ρ x))))/\
  (∀P ρ c x y,D P ρ (.ite c x y)=if a2w (D P ρ c)then D P ρ x else D P ρ y)/\
  (∀P ρ n x y,D P ρ (.eqb n x y)= .bool (n !=(a2w (D P ρ x)==a2w (D P ρ y))))/\
  (∀v,a2r v=(Go.RowKit.intOf v).toNat)/\
  (∀k n,Go.RowKit.intOf (.int k n)=n)/\
  (∀b,a2w (.bool b)=b)/\
  (∀(k:IntKind) (a b:Int),a2O .add k a b= .int k (k.wrap (a+b)))/\
  (∀(k:IntKind) (a b:Int),a2O .sub k a b= .int k (k.wrap (a-b)))/\
  (∀(k:IntKind) (a b:Int),a2O .mul k a b= .int k (k.wrap (a*b)))/\
  (∀(k:IntKind) (a b:Int),a2O .quo k a b= .int k (k.wrap (a.tdiv b)))/\
  (∀(k:IntKind) (a b:Int),a2O .rem k a b= .int k (a.tmod b))/\
  (∀(k:IntKind) (a b:Int),a2O .and k a b= .int k (k.wrap (BitVec.ofInt k.bits a&&&BitVec.ofInt k.bits b).toNat))/\
  (∀(k:IntKind) (a b:Int),a2O .or k a b= .int k (k.wrap (BitVec.ofInt k.bits a|||BitVec.ofInt k.bits b).toNat))/\
  (∀(k:IntKind) (a b:Int),a2O .xor k a b= .int k (k.wrap (BitVec.ofInt k.bits a^^^BitVec.ofInt k.bits b).toNat))/\
  (∀(k:IntKind) (a b:Int),a2O .andNot k a b= .int k (k.wrap (BitVec.ofInt k.bits a&&& ~~~BitVec.ofInt k.bits b).toNat))/\
  (∀(k:IntKind) (a b:Int),a2O .shl k a b= .int k (k.wrap (a*2^(min b.toNat k.bits))))/\
  (∀(k:IntKind) (a b:Int),a2O .shr k a b= .int k (a.fdiv (2^(min b.toNat k.bits))))/\
  (∀(k:IntKind) (a b:Int),a2O .eql k a b= .bool (a==b))/\
  (∀(k:IntKind) (a b:Int),a2O .neq k a b= .bool (a !=b))/\
  (∀(k:IntKind) (a b:Int),a2O .lss k a b= .bool (a<b))/\
  (∀(k:IntKind) (a b:Int),a2O .leq k a b= .bool (a<=b))/\
  (∀(k:IntKind) (a b:Int),a2O .gtr k a b= .bool (a>b))/\
  (∀(k:IntKind) (a b:Int),a2O .geq k a b= .bool (a≥b))/\
  (∀cs:Array Value,(Value.agg cs).cells=cs)/\
  (∀n,(wd n).cells=words n)/\
  (∀n:Nat,0+n=n)/\
  (∀n:Nat,1*n=n)/\
  (∀n:Nat,n+0=n)/\
  (∀n:Nat,0*n=0)/\
  (∀n:Nat,(n:Int).toNat=n)/\
  (∀a b:Value,c7q 0 (.tuple #[a,b])=a)/\
  (∀a b:Value,c7q 1 (.tuple #[a,b])=b)/\
  (∀a b c:Value,c7q 0 (.tuple #[a,b,c])=a)/\
  (∀a b c:Value,c7q 1 (.tuple #[a,b,c])=b)/\
  (∀a b c:Value,c7q 2 (.tuple #[a,b,c])=c)/\
  (∀(k:IntKind) (n:Int),(Value.int k n).cells.toList=[.int k n]):=by
 and_intros<;>intros<;>first|rfl|simp
def cr (a b k:Nat):Nat:=(a%PW k+b%PW k)/PW k
theorem d3u (a b k:Nat):cr a b k<=1:=by
 unfold cr
 have h1:=Nat.mod_lt a (a1a k)
 have h2:=Nat.mod_lt b (a1a k)
 have:a%PW k+b%PW k<2*PW k:=by omega
 have:=(Nat.div_lt_iff_lt_mul (a1a k)).2 this
 omega
theorem b3T (a b k:Nat):cr a b (k+1)=(dig a k+dig b k+cr a b k)/18446744073709551616:=by
 unfold cr
 rw[a1q,a1q,a0s,<-Nat.div_div_eq_div_mul]
 congr 1
 rw[show a%PW k+PW k*dig a k+(b%PW k+PW k*dig b k)=(a%PW k+b%PW k)+PW k*(dig a k+dig b k)from by rw[Nat.mul_add];omega,Nat.add_mul_div_left _ _ (a1a k)]
 omega
theorem b7w (a b k:Nat):(a+b)/PW k=a/PW k+b/PW k+cr a b k:=by
 unfold cr
 have h1:=Nat.div_add_mod a (PW k)
 have h2:=Nat.div_add_mod b (PW k)
 rw[show a+b=(a%PW k+b%PW k)+PW k*(a/PW k+b/PW k)from by rw[Nat.mul_add];omega,Nat.add_mul_div_left _ _ (a1a k)]
 omega
theorem a7M (a b k:Nat):dig (a+b) k=(dig a k+dig b k+cr a b k)%18446744073709551616:=by
 unfold dig;rw[b7w];omega
def bw (a b k:Nat):Nat:=if a%PW k<b%PW k then 1 else 0
theorem c8Y (a b:Nat):bw a b 0=0:=by simp[bw,a2g,Nat.mod_one]
theorem d3v (a b k:Nat):bw a b k<=1:=by unfold bw;split<;>omega
theorem c7y {p x y A B:Nat} (hA:A<p) (hB:B<p):A+p*x<B+p*y↔x<y+(if A<B then 1 else 0):=by
 constructor
 ·intro h
  rcases Nat.lt_trichotomy x y with h1|h1|h1
  ·split<;>omega
  ·subst h1;rw[if_pos (by omega)];omega
  ·exfalso
   have:p*(y+1)<=p*x:=Nat.mul_le_mul_left _ h1
   rw[Nat.mul_succ]at this;omega
 ·intro h
  split at h
  ·rename_i hlt
   rcases Nat.lt_or_ge x y with h1|h1
   ·have:p*(x+1)<=p*y:=Nat.mul_le_mul_left _ h1
    rw[Nat.mul_succ]at this;omega
   ·have:x=y:=by omega
    subst this;omega
  ·have:p*(x+1)<=p*y:=Nat.mul_le_mul_left _ (by omega)
   rw[Nat.mul_succ]at this;omega
theorem c8Z (a b k:Nat):bw a b (k+1)=if dig a k<dig b k+bw a b k then 1 else 0:=by
 unfold bw
 rw[a1q,a1q]
 simp only[c7y (Nat.mod_lt a (a1a k)) (Nat.mod_lt b (a1a k))]
theorem b2n {a b m:Nat} (hm:m<8) (hs:∀j,m<j->j<8->dig a j=dig b j) (h:dig a m<dig b m):a%M<b%M:=by
 have key:∀t,m+1+t<=8->a%PW (m+1+t)<b%PW (m+1+t):=by
  intro t
  induction t with
  |zero=>
   intro _
   rw[Nat.add_zero,a1q,a1q,c7y (Nat.mod_lt a (a1a m)) (Nat.mod_lt b (a1a m))]
   omega
  |succ t ih=>
   intro ht
   rw[<-Nat.add_assoc,a1q,a1q,hs (m+1+t) (by omega) (by omega)]
   have:=ih (by omega)
   omega
 have:=key (8-(m+1)) (by omega)
 rw[show m+1+(8-(m+1))=8 from by omega]at this
 rw[a3t];exact this
def sb (a b:Nat):Nat:=a+(M-b%M)
theorem d3w (a b:Nat) {k:Nat} (hk:k<8):dig (sb a b) k=(dig a k+18446744073709551616-dig b k-bw a b k)%18446744073709551616:=by
 have hs:(sb a b+b)%M=a%M:=by
  unfold sb
  have:=Nat.mod_lt b b0C
  have e:=Nat.div_add_mod b M
  rw[show a+(M-b%M)+b=a+M*(b/M+1)from by rw[Nat.mul_succ];omega,Nat.add_mul_mod_self_left]
 have hd:dig (sb a b+b) k=dig a k:=a7K (by rw[<-a3t];exact hs) hk
 have hc:cr (sb a b) b k=bw a b k:=by
  have hle:k<=8:=by omega
  have hdv:PW k ∣ M:=by rw[a3t];exact c7w hle
  have h1:(sb a b+b)%PW k=a%PW k:=by
   rw[<-Nat.mod_mod_of_dvd _ hdv,hs,Nat.mod_mod_of_dvd _ hdv]
  have h2:((sb a b)%PW k+b%PW k)%PW k=a%PW k:=by rw[<-Nat.add_mod];exact h1
  have hA:=Nat.mod_lt (sb a b) (a1a k)
  have hB:=Nat.mod_lt b (a1a k)
  unfold cr bw
  rcases Nat.lt_or_ge ((sb a b)%PW k+b%PW k) (PW k)with h|h
  ·rw[Nat.mod_eq_of_lt h]at h2
   rw[Nat.div_eq_of_lt h,if_neg (by omega)]
  ·have e:=Nat.mod_eq_sub_mod h
   rw[e,Nat.mod_eq_of_lt (by omega)]at h2
   rw[if_pos (by omega)]
   rw[Nat.div_eq_sub_div (a1a k) h,Nat.div_eq_of_lt (by omega)]
 rw[a7M,hc]at hd
 have h1:=a2x (sb a b) k
 have h2:=a2x b k
 have h3:=a2x a k
 have h4:=d3v a b k
 omega
open Go.RX
def sg (a b:Nat):Int:=if a<b then -1 else if a=b then 0 else 1
@[irreducible] def HM:Nat:=9223372036854775808*PW 7
theorem b3U:HM=9223372036854775808*PW 7:=by unfold HM;rfl
theorem c3H:M=2*HM:=by rw[a3t,b3U,show(8:Nat)=7+1 from rfl,a0s];omega
theorem a9u:0<HM:=by rw[b3U];have:=a1a 7;omega
def rs (z:Int):Nat:=(z%(M:Int)).toNat
theorem d3x (z:Int):rs z<M:=by
 unfold rs
 have:=b0C
 have h:=Int.emod_lt_of_pos z (show(0:Int)<M by omega)
 have h':=Int.emod_nonneg z (show(M:Int)≠0 by omega)
 omega
def iw (z:Int):Value:=wd (rs z)
def nm (z:Int):Value:=nb (decide (z<0)) z.natAbs
def toI (a:Nat):Int:=if a%M<HM then(a%M:Nat)else(a%M:Nat)-(M:Int)
def a8Y (z:Int):Prop:= -(HM:Int)<=z/\z<HM
theorem c4u (a:Nat):a8Y (toI a):=by
 have h:=Nat.mod_lt a b0C
 have:=c3H
 unfold a8Y toI;split<;>omega
theorem b9v {z:Int} (h0:0<=z) (h:z<M):rs z=z.toNat:=by
 unfold rs;rw[Int.emod_eq_of_lt h0 h]
theorem b9w {z:Int} (h0:z<0) (h: -(M:Int)<=z):rs z=(z+M).toNat:=by
 unfold rs
 have:=b0C
 rw[<-Int.add_emod_right,Int.emod_eq_of_lt (by omega) (by omega)]
theorem toI_rs {z:Int} (h:a8Y z):toI (rs z)=z:=by
 have hM:=c3H
 have hl:=d3x z
 obtain⟨h1,h2⟩:=h
 unfold toI
 rw[Nat.mod_eq_of_lt hl]
 by_cases h0:0<=z
 ·rw[b9v h0 (by omega)]
  split<;>omega
 ·rw[b9w (by omega) (by omega)]
  split<;>omega
theorem c7z (z:Int):rs z%M=rs z:=Nat.mod_eq_of_lt (d3x z)
theorem c9a (a:Nat):dig a 7<9223372036854775808↔a%M<HM:=by
 have e:a%M=a%PW 7+PW 7*dig a 7:=by rw[a3t];exact a1q a 7
 have hlt:=Nat.mod_lt a (a1a 7)
 rw[e,b3U]
 constructor
 ·intro h
  have:=Nat.mul_le_mul_left (PW 7) (show dig a 7+1<=9223372036854775808 by omega)
  rw[Nat.mul_succ]at this
  rw[Nat.mul_comm 9223372036854775808];omega
 ·intro h
  rcases Nat.lt_or_ge (dig a 7) 9223372036854775808 with h1|h1
  ·exact h1
  ·have:=Nat.mul_le_mul_left (PW 7) h1
   rw[Nat.mul_comm 9223372036854775808]at h;omega
theorem b0D {b b':Bool} {m n:Nat} (h:b=b') (hm:m%M=n%M):nb b m=nb b' n:=by unfold nb;rw[h,a7L hm]
theorem b0E {m n:Nat} (hm:m%M=n%M):wd m=wd n:=by unfold wd;rw[a7L hm]
theorem d3y {i:Nat} (h:i<8):dig HM i=if i=7 then 9223372036854775808 else 0:=by
 unfold dig
 rw[b3U]
 split
 ·rename_i e;subst e
  rw[Nat.mul_div_cancel _ (a1a 7)]
 ·obtain⟨d,hd⟩:∃d,7=(d+1)+i:=⟨7-i-1,by omega⟩
  rw[hd,a4C,<-Nat.mul_assoc,Nat.mul_div_cancel _ (a1a i),a0s,<-Nat.mul_assoc,Nat.mul_mod_left]
theorem d6z:HM<M:=by have:=c3H;have:=a9u;omega
theorem b3V:spl (words 0) 7 [.int .u64 9223372036854775808]=words HM:=by
 have:=b5f (dig 0) (show 7<8 by omega) 9223372036854775808
 refine Eq.trans this (b5g fun i hi=> ?_)
 rw[d3y hi,a4q]
theorem a6I {z:Int} (h:z<0) (hm:z.natAbs<M):wd (sb 0 z.natAbs)=iw z:=by
 unfold iw
 refine b0E ?_
 rw[b9w h (by omega)]
 unfold sb
 rw[Nat.mod_eq_of_lt hm]
 congr 1
 omega
theorem b9x {z:Int} (h:0<=z) (hm:z.natAbs<M):wd z.natAbs=iw z:=by
 unfold iw
 rw[b9v h (by omega)]
 congr 1
 omega
theorem sg_pos {a b:Nat}:sg a b>0↔b<a:=by unfold sg;split<;>(try split)<;>omega
theorem sg_zero {a b:Nat}:sg a b=0↔a=b:=by unfold sg;split<;>(try split)<;>omega
end Go.WD
/- Digits to the base 2^32: plain. -/
namespace Go.WD
open Go.RX
@[irreducible] def BP (k:Nat):Nat:=2^(32*k)
theorem BP_zero:BP 0=1:=by unfold BP;rfl
theorem BP_succ (k:Nat):BP (k+1)=BP k*4294967296:=by unfold BP;rw[Nat.mul_succ,Nat.pow_add]
theorem d3z (k:Nat):0<BP k:=by unfold BP;exact Nat.pow_pos (by omega)
theorem d3A (i j:Nat):BP (i+j)=BP i*BP j:=by unfold BP;rw[Nat.mul_add,Nat.pow_add]
theorem a1E {i j:Nat} (h:i<=j):BP i<=BP j:=by unfold BP;exact Nat.pow_le_pow_right (by omega) (by omega)
theorem BP_lt_iff {i j:Nat}:BP i<BP j↔i<j:=by
 constructor
 ·intro h;rcases Nat.lt_or_ge i j with h1|h1
  ·exact h1
  ·have:=a1E h1;omega
 ·intro h
  have h1:=a1E (show i+1<=j from h)
  have h2:=d3z i
  rw[BP_succ]at h1;omega
theorem c9b (k:Nat):BP (2*k)=PW k:=by unfold BP PW;rw[<-Nat.mul_assoc]
theorem d7M:BP 16=M:=by rw[a3t,<-c9b]
theorem b9y {l:List Nat} {k:Nat} (h:k<l.length):l[k]? =some (l.getD k 0):=by
 rw[List.getD_eq_getElem?_getD,List.getElem?_eq_getElem h];rfl
theorem b7x {l:List Nat} {k:Nat} (h:k<l.length):l.take (k+1)=l.take k++[l.getD k 0]:=by
 rw[List.take_add_one,b9y h];rfl
theorem b0F {l:List Nat} {k:Nat} (h:k<l.length):l.drop k=l.getD k 0::l.drop (k+1):=by
 have:=List.drop_eq_getElem_cons h
 rw[this]
 congr 1
 rw[List.getD_eq_getElem?_getD,List.getElem?_eq_getElem h];rfl
theorem a7N {l:List Nat} {k x:Nat} (h:k<l.length):(l.set k x).getD k 0=x:=by
 rw[List.getD_eq_getElem?_getD,List.getElem?_set,if_pos rfl,if_pos h];rfl
theorem a1Q {l:List Nat} {k j x:Nat} (h:j≠k):(l.set k x).getD j 0=l.getD j 0:=by
 rw[List.getD_eq_getElem?_getD,List.getD_eq_getElem?_getD,List.getElem?_set,if_neg (fun e=>h e.symm)]
theorem c4v {l:List Nat} {k j x:Nat} (h:k<j):(l.set k x).drop j=l.drop j:=by
 apply List.ext_getElem?
 intro i
 rw[List.getElem?_drop,List.getElem?_drop,List.getElem?_set,if_neg (by omega)]
theorem a5j (n k:Nat):(List.replicate n 0).getD k 0=0:=by
 rw[List.getD_eq_getElem?_getD,List.getElem?_replicate];split<;>rfl
theorem a9v {l:List Nat} {k:Nat} (h:l.length<=k):l.getD k 0=0:=by
 rw[List.getD_eq_getElem?_getD,List.getElem?_eq_none h];rfl
end Go.WD
/- Slices of digits in memory. -/
namespace Go.RX
open Go.RowKit
theorem Con.frame {P:Program} {f:FuncId} {args:List Value} {Hr H:PH} {V:Value->PH->Prop} (h:Con P f args Hr V) (hle:PH.le Hr H):
  Con P f args H fun u H'=>∃Hr',V u Hr'/\PH.le Hr' H'/\∀k ob,H k=some ob->Hr k=none->Hr' k=none/\H' k=some ob:=fun w hw=>by
 refine(h w (hle.In hw)).mono ?_
 rintro e w' ⟨v,Hr',he,hs,hV⟩
 have none_of:∀k ob,H k=some ob->Hr k=none->Hr' k=none:=fun k ob hk hr=>by
  cases e2:Hr' k with
  |none=>rfl
  |some o2=>
   have h2:=a0D (hw _ _ hk)
   rcases hs.dom k (by simp[e2])with h3|h3
   ·exact absurd hr h3
   ·omega
 refine⟨v,fun k=>match Hr' k with|some o=>some o|none=>if Hr k=none then H k else none,he,⟨hs.os,hs.tape,hs.output,hs.size,fun k hk hn=> ?_,fun k ob hk=> ?_,fun k hk=> ?_,hs.dr⟩,Hr',hV,fun k ob hk=> ?_,fun k ob hk hr=>⟨none_of k ob hk hr,?_⟩⟩
 ·refine hs.block k hk ?_
  cases e2:Hr k with
  |none=>rfl
  |some o2=>rw[hle _ _ e2]at hn;cases hn
 ·cases e2:Hr' k with
  |some o2=>simp only[e2]at hk;cases hk;exact hs.holds _ _ e2
  |none=>
   simp only[e2]at hk
   split at hk
   ·rename_i hr
    rw[hs.block k (a0D (hw _ _ hk)) hr]
    exact hw _ _ hk
   ·cases hk
 ·cases e2:Hr' k with
  |some o2=>
   rcases hs.dom k (by simp[e2])with h3|h3
   ·refine .inl fun hn=>h3 ?_
    cases e3:Hr k with
    |none=>rfl
    |some o3=>rw[hle _ _ e3]at hn;cases hn
   ·exact .inr h3
  |none=>
   simp only[e2]at hk
   split at hk
   ·exact .inl hk
   ·exact absurd rfl hk
 ·simp only[hk]
 ·simp only[none_of k ob hk hr,hr,if_true,hk]
theorem OwS.frame {Hr H Hr' H':PH} {e:TypeId} {sz n:Nat} {v:Value} {xs:List Value} (h:OwS Hr H e sz v n xs) (hk:∀k ob,H k=some ob->Hr k=none->Hr' k=none/\H' k=some ob):OwS Hr' H' e sz v n xs:=by
 obtain⟨h1,h2|⟨g,cap,cur,h2,h3,h4,h5⟩⟩:=h
 ·exact⟨h1,.inl h2⟩
 ·exact⟨h1,.inr ⟨g,cap,cur,h2,(hk _ _ h4 h3).1,(hk _ _ h4 h3).2,h5⟩⟩
end Go.RX
namespace Go.Proofs.YtmannekkmdockaaGreatDoor
open Go.Proofs.Tryz
open Go.RowKit Go.RX Go.WD
def iv (d:Nat):Value:= .int .i64 (d:Nat)
theorem d3B (f:Nat->Value):(Array.range (1*1)).map f= #[f 0]:=by
 apply Array.ext';simp
end Go.Proofs.YtmannekkmdockaaGreatDoor
/- Contracts of package wide: words. -/
namespace Go.Proofs.YtmannekkmdockaaGreatDoor
open Go.Proofs.Tryz
open Go.RowKit Go.RX Go.WD Go.IntWalk
theorem b9z (b:Bool) (n:Nat):Value.agg ((#[Value.bool b]++words n).extract 1 9)=wd n:=rfl
theorem a2S (b:Bool) (n:Nat):(#[Value.bool b]++words n).size=9:=rfl
theorem a7O (b:Bool) (n:Nat):a0t (#[Value.bool b]++words n):=by
 intro c hc
 simp only[Array.toList_append,List.mem_append]at hc
 rcases hc with h|h
 ·simp at h;subst h;rfl
 ·exact words_one n c h
theorem a9w:a0I prog 206=wd 0:=by
 have:a0I prog 206= .agg #[.int .u64 0,.int .u64 0,.int .u64 0,.int .u64 0,.int .u64 0,.int .u64 0,.int .u64 0,.int .u64 0]:=by kernel_rfl
 rw[this];simp[wd,words,wf,a4q]
theorem a6J:a0I prog 56=wd 0:=by
 have:a0I prog 56= .agg #[.int .u64 0,.int .u64 0,.int .u64 0,.int .u64 0,.int .u64 0,.int .u64 0,.int .u64 0,.int .u64 0]:=by kernel_rfl
 rw[this];simp[wd,words,wf,a4q]
theorem a3d (x y c:Nat) (hx:x<18446744073709551616) (hy:y<18446744073709551616) (hc:c<=1):Own prog 231 [.int .u64 x,.int .u64 y,.int .u64 c] (.tuple #[.int .u64 (((x+y+c)%18446744073709551616:Nat):Int),.int .u64 (((x+y+c)/18446744073709551616:Nat):Int)]):=fun w=>by
 show(callFunc _ #[_,_,_]).run _ w=_
 rw[run_callFunc_extern Tryz.func231 (by kernel_rfl) (by kernel_rfl) (by kernel_rfl) (e:=add64Entry) (by kernel_rfl),run_add64 x y c (by omega) (by omega) (by omega) (by omega)]
 simp only[Result.andThen]
 congr 5<;>omega
theorem b2o (x y b:Nat) (hb:b<=1):Own prog 232 [.int .u64 x,.int .u64 y,.int .u64 b] (.tuple #[.int .u64 (((x+18446744073709551616-y-b)%18446744073709551616:Nat):Int),.int .u64 ((if x<y+b then 1 else 0:Nat):Int)]):=fun w=>by
 show(callFunc _ #[_,_,_]).run _ w=_
 rw[run_callFunc_extern Tryz.func232 (by kernel_rfl) (by kernel_rfl) (by kernel_rfl) (e:=sub64Entry) (by kernel_rfl),run_sub64 x y b hb]
 rfl
theorem b5h (f g:Nat->Nat) (k i:Nat):(if i=k then f k else if i<k then f i else g i)=if i<k+1 then f i else g i:=by
 by_cases h1:i=k
 ·subst h1;rw[if_pos rfl,if_pos (by omega)]
 ·rw[if_neg h1]
  by_cases h2:i<k
  ·rw[if_pos h2,if_pos (by omega)]
  ·rw[if_neg h2,if_neg (by omega)]
theorem a7P (a b:Nat):Det prog 196 [wd a,wd b] (.tuple #[wd (sb a b),.int .u64 (bw a b 8)]):=by
 refine a0C mixed c4o (by kernel_rfl) rfl ?_
 refine a0m ⟨words_size a,words_one a⟩ (a0m ⟨words_size b,words_one b⟩ ?_)
 refine⟨fun l=>∃k,k<=8/\l=[.int .u64 (bw a b k),.int .i64 (k:Nat),.agg (wf fun j=>if j<k then dig (sb a b) j else dig a j)],fun l=>(8-intOf (l.getD 1 undef)).toNat,⟨0,by omega,?_⟩,?_⟩
 ·rw[c8Y];rfl
 ·rintro vals-⟨k,hk,rfl⟩
  refine a0m ⟨_,rfl⟩ (a1V (b:=decide ((k:Int)<8)) rfl (fun h=> ?_) (fun h=> ?_))
  ·have hk:k<8:=by simp at h;omega
   refine a0m ⟨_,_,rfl⟩ (a0m ⟨?_,?_⟩ ?_)
   ·show(0:Int)<=(k:Int);omega
   ·show(k:Int)<8;omega
   ·refine d3p (b2o (dig a k) (dig b k) (bw a b k) (d3v _ _ _)) ?_ ?_
    ·simp only[rxs,b9u _ hk,a1b b hk,Nat.lt_irrefl,if_false]
    ·refine a0m ⟨_,rfl,Nat.zero_lt_succ _⟩ (a0m ⟨_,rfl,Nat.lt_succ_self _⟩ (a0m ⟨rfl,?_⟩ ?_))
     ·exact b3R _ _
     ·refine⟨⟨k+1,by omega,?_⟩,?_⟩
      ·have e:(k:Int)+1=((k+1:Nat):Int):=by omega
       simp only[rxs,<-c8Z,<-d3w a b hk,e,i64_in _ (show -9223372036854775808<=((k+1:Nat):Int)/\((k+1:Nat):Int)<=9223372036854775807 from by omega)]
       rw[b5f _ hk,a2D (g:=fun j=>if j<k+1 then dig (sb a b) j else dig a j) (fun i _=> ?_)]
       exact b5h _ _ k i
      ·simp only[rxs,i64_in _ (show -9223372036854775808<=(k:Int)+1/\(k:Int)+1<=9223372036854775807 from by omega)]
       omega
  ·have hk:k=8:=by simp at h;omega
   subst hk
   refine a1d ?_ rfl
   simp only[rxs,a4M,b5g (n:=sb a b) (f:=fun j=>if j<8 then dig (sb a b) j else dig a j) (fun i hi=>by rw[if_pos hi])]
   rfl
theorem b9A (a b:Nat):Det prog 195 [wd a,wd b] (.int .i64 (sg (a%M) (b%M))):=by
 refine a0C mixed c4p (by kernel_rfl) rfl ?_
 refine a0m ⟨words_size a,words_one a⟩ (a0m ⟨words_size b,words_one b⟩ ?_)
 refine⟨fun l=>∃k,k<=8/\(∀j,k<=j->j<8->dig a j=dig b j)/\l=[.int .i64 0,.int .i64 ((k:Int)-1)],fun l=>(intOf (l.getD 1 undef)+1).toNat,⟨8,by omega,fun j h1 h2=>by omega,rfl⟩,?_⟩
 rintro vals-⟨k,hk,hs,rfl⟩
 refine a0m ⟨_,rfl⟩ (a1V (b:=decide ((k:Int)-1≥0)) rfl (fun h=> ?_) (fun h=> ?_))
 ·have hk0:0<k:=by simp at h;omega
  obtain⟨m,rfl⟩:∃m,k=m+1:=⟨k-1,by omega⟩
  have hm:m<8:=by omega
  have em:((m+1:Nat):Int)-1=(m:Int):=by omega
  rw[em]
  refine a0m ⟨_,_,rfl⟩ (a0m ⟨?_,?_⟩ (a0m ⟨dig a m,?_⟩ (a0m ⟨dig b m,?_⟩ ?_)))
  ·show(0:Int)<=(m:Int);omega
  ·show(m:Int)<8;omega
  ·simp only[rxs,a1b a hm]
  ·simp only[rxs,a1b b hm]
  ·refine a1V (b:=decide (dig a m≠dig b m)) ?_ (fun h1=> ?_) (fun h1=> ?_)
   ·simp only[rxs,a1b a hm,a1b b hm]
    congr 1
    rw[Bool.eq_iff_iff];simp;omega
   ·have h1:dig a m≠dig b m:=by simpa using h1
    refine a1V (b:=decide (dig a m<dig b m)) ?_ (fun h2=> ?_) (fun h2=> ?_)
    ·simp only[rxs,a1b a hm,a1b b hm]
     congr 1
     rw[Bool.eq_iff_iff];simp
    ·have:=b2n hm (fun j h h'=>hs j (by omega) h') (by simpa using h2)
     exact a1d rfl (by simp[D,a4M,sg,this])
    ·have:=b2n (a:=b) (b:=a) hm (fun j h h'=>(hs j (by omega) h').symm) (by simp at h2;omega)
     exact a1d rfl (by simp only[rxs,a4M,sg];rw[if_neg (by omega),if_neg (by omega)])
   ·have h1:dig a m=dig b m:=by simpa using h1
    refine⟨⟨m,by omega,fun j h h'=> ?_,?_⟩,?_⟩
    ·rcases Nat.eq_or_lt_of_le h with rfl|h
     ·exact h1
     ·exact hs j (by omega) h'
    ·simp only[rxs,i64_in _ (show -9223372036854775808<=(m:Int)-1/\(m:Int)-1<=9223372036854775807 from by omega)]
    ·simp only[rxs,i64_in _ (show -9223372036854775808<=(m:Int)-1/\(m:Int)-1<=9223372036854775807 from by omega)]
     omega
 ·have hk0:k=0:=by simp at h;omega
  subst hk0
  refine a1d rfl ?_
  have:a%M=b%M:=by rw[a3t];exact a5V fun i hi=>hs i (by omega) hi
  simp[D,a4M,sg,this]
open Go.RowKit Go.RX Go.WD Go.IntWalk
theorem b3W {P:Program} {e:TypeId} (hu:P.underlying e=some (.int .u64)) (d x y:Nat) (w:World):(Op.equalIn (d+1) e (.int .u64 x) (.int .u64 y)).run P w= .ok (decide (x=y)) w:=by
 simp only[Op.equalIn,Sem.run_bind,run_underlying hu,Result.andThen_ok,if_true,Sem.run_pure]
 congr 1
 rw[Bool.eq_iff_iff];simp;omega
theorem a6K {P:Program} {e:TypeId} (hT:a2s P e=true) (hc:P.cellsOf e=1) (hag:a0N P e=false) (hu:P.underlying e=some (.int .u64)) (d:Nat) (f g:Nat->Nat) (w:World):∀is:List Nat,(∀i∈is,i<8)->
  (Op.eqItems (d+1) e (P.cellsOf e) (wf f) (wf g) is).run P w= .ok (decide (∀i∈is,f i=g i)) w:=by
 intro is
 induction is with
 |nil=>intro _;simp[Op.eqItems]
 |cons i is ih=>
  intro h
  have hi:=h i (by simp)
  have hp:∀f:Nat->Nat,(part e (wf f) (i*P.cellsOf e)).run P w= .ok (.int .u64 (f i)) w:=fun f=>by
   rw[a3S hT (by rw[c8X,hc];omega) (by omega) w,hag,hc,Nat.mul_one]
   simp only[Bool.false_eq_true,if_false,b9u f hi]
  simp only[Op.eqItems,Sem.run_bind,hp,Result.andThen_ok,b3W hu]
  by_cases he:f i=g i
  ·simp only[he,decide_true,Bool.not_true,Bool.false_eq_true,if_false,ih (fun j hj=>h j (by simp[hj]))]
   congr 1
   rw[Bool.eq_iff_iff];simp[he]
  ·simp[he]
theorem a6L (a b:Nat):(∀i∈List.range 8,dig a i=dig b i)↔a%M=b%M:=
 ⟨fun h=>by rw[a3t];exact a5V fun i hi=>h i (List.mem_range.2 hi),fun h i hi=>by rw[a3t]at h;exact a7K h (List.mem_range.1 hi)⟩
theorem b9B {P:Program} {o:Oper} {t t' e:TypeId} {x y:Operand} {va vb:Value} {a b:Nat} (ho:o.op= .binOp .eql t x y t') (hva:va=wd a) (hvb:vb=wd b) (hx:a0f [x,y] [va,vb] x=va) (hy:a0f [x,y] [va,vb] y=vb)
  (hu:P.underlying t=some (.array 8 e)) (hg:P.eqGuardType P.depth t=false) (hT:a2s P e=true) (hc:P.cellsOf e=1) (hag:a0N P e=false) (hue:P.underlying e=some (.int .u64)):
  Yld P o [va,vb] (.bool (decide (a%M=b%M))):=fun w=>by
 have hos:o.op.operands.toList=[x,y]:=by simp[ho,Op.operands]
 obtain⟨i,hi⟩:∃i,P.info? e=some i:=by
  unfold a2s at hT;rw[Bool.and_eq_true,Option.isSome_iff_exists]at hT;exact hT.1
 subst hva;subst hvb
 have hr:(Op.equal t (wd a) (wd b)).run P w= .ok (decide (a%M=b%M)) w:=by
  show(Op.equalIn (9999+1) t (.agg (wf (dig a))) (.agg (wf (dig b)))).run P w=_
  rw[run_equalIn_array w 9999 _ _ hu hi,show(9999:Nat)=9998+1 from rfl,a6K hT hc hag hue 9998 (dig a) (dig b) w _ (fun i hi=>List.mem_range.1 hi)]
  congr 1
  rw[Bool.eq_iff_iff,decide_eq_true_iff,decide_eq_true_iff];exact a6L a b
 rw[hos]
 simp only[execOp,ho,hx,hy]
 simp only[wd]at hr⊢
 simp[eqGuard,binOp,hg,hr]
section
variable {o:Oper} {x y:Operand} {va vb:Value} {a b:Nat}
theorem c9c (ho:o.op= .binOp .eql 206 x y 206) (hva:va=wd a) (hvb:vb=wd b) (hx:a0f [x,y] [va,vb] x=va) (hy:a0f [x,y] [va,vb] y=vb):Yld prog o [va,vb] (.bool (decide (a%M=b%M))):=
 b9B (e:=54) ho hva hvb hx hy (by kernel_rfl) (by kernel_rfl) (by kernel_rfl) (by kernel_rfl) (by kernel_rfl) (by kernel_rfl)
theorem c9d (ho:o.op= .binOp .eql 56 x y 56) (hva:va=wd a) (hvb:vb=wd b) (hx:a0f [x,y] [va,vb] x=va) (hy:a0f [x,y] [va,vb] y=vb):Yld prog o [va,vb] (.bool (decide (a%M=b%M))):=
 b9B (e:=54) ho hva hvb hx hy (by kernel_rfl) (by kernel_rfl) (by kernel_rfl) (by kernel_rfl) (by kernel_rfl) (by kernel_rfl)
end
theorem c4w (a:Nat):Det prog 262 [wd a] (.bool (decide (a%M=0))):=by
 refine a0C mixed c8Q (by kernel_rfl) rfl (a0m ⟨words_size a,words_one a⟩ ?_)
 refine b9p (c9c (a:=a) (b:=0) rfl rfl a9w rfl rfl) rfl (a1d rfl ?_)
 show Value.bool (decide (a%M=0%M))=Value.bool (decide (a%M=0))
 congr 1
theorem d3C (b:Bool) (a:Nat):Det prog 234 [.bool b,wd a] (nb (b&& !decide (a%M=0)) a):=by
 refine a0C mixed d6x (by kernel_rfl) rfl (a0m ⟨words_size a,words_one a⟩ (a0m ⟨b,rfl⟩ (a1V (b:=b) rfl (fun h=> ?_) (fun h=> ?_))))
 ·subst h
  exact a2f (c4w a) rfl (a0m ⟨_,rfl⟩ (a1d rfl rfl))
 ·subst h
  exact a1d rfl rfl
end Go.Proofs.YtmannekkmdockaaGreatDoor

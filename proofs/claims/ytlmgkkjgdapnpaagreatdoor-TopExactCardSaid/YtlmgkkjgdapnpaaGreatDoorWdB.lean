/- Numbers of eight words. -/
import Derived.Test.YtlmgkkjgdapnpaaGreatDoorRxH
import Derived.Test.YtlmgkkjgdapnpaaGreatDoorWdT
import Derived.Test.YtlmgkkjgdapnpaaGreatDoorRxT
import Derived.Laws.Externs
import Derived.Shelf.Spec.BitsCarry
import Derived.IntWalk
import Derived.ChangeKeysEq
namespace Go.WD
open Go.RX
theorem b3k (k:IntKind) (n:Int):a0p (Value.int k n).cells:=by intro c hc;simp[b1h]at hc;subst hc;rfl
@[irreducible] def PW (k:Nat):Nat:=2^(64*k)
theorem a2X:PW 0=1:=by unfold PW;rfl
theorem a0C (k:Nat):PW (k+1)=PW k*18446744073709551616:=by
 unfold PW;rw[Nat.mul_succ,Nat.pow_add]
theorem a1k (k:Nat):0<PW k:=by unfold PW;exact Nat.pow_pos (by omega)
theorem a8Q (i j:Nat):PW (i+j)=PW i*PW j:=by unfold PW;rw[Nat.mul_add,Nat.pow_add]
theorem b3l {i j:Nat} (h:i<=j):PW i<=PW j:=by unfold PW;exact Nat.pow_le_pow_right (by omega) (by omega)
theorem d3R {i j:Nat} (h:i<=j):PW i ∣ PW j:=by
 obtain⟨d,rfl⟩:=Nat.exists_eq_add_of_le h
 rw[a8Q];exact Nat.dvd_mul_right _ _
@[irreducible] def M:Nat:=PW 8
theorem a3L:M=PW 8:=by unfold M;rfl
theorem b1k:0<M:=by rw[a3L];exact a1k 8
def dig (n i:Nat):Nat:=n/PW i%18446744073709551616
theorem a6p (n i:Nat):dig n i<18446744073709551616:=Nat.mod_lt _ (by omega)
theorem a1x (n k:Nat):n%PW (k+1)=n%PW k+PW k*dig n k:=by rw[a0C,Nat.mod_mul];rfl
theorem a5P {a b:Nat}:∀{k:Nat},(∀i,i<k->dig a i=dig b i)->a%PW k=b%PW k:=by
 intro k
 induction k with
 |zero=>intro _;rw[a2X,Nat.mod_one,Nat.mod_one]
 |succ k ih=>intro h;rw[a1x,a1x,ih (fun i hi=>h i (by omega)),h k (by omega)]
theorem b8e (a:Nat) {i k:Nat} (h:i<k):dig (a%PW k) i=dig a i:=by
 obtain⟨d,rfl⟩:=Nat.exists_eq_add_of_lt h
 have e:PW (i+d+1)=PW i*PW (d+1):=by rw[Nat.add_assoc,a8Q]
 unfold dig
 rw[e,Nat.mod_mul_right_div_self,a0C,Nat.mul_comm (PW d),Nat.mod_mul_right_mod]
theorem a7t {a b k i:Nat} (h:a%PW k=b%PW k) (hi:i<k):dig a i=dig b i:=by
 rw[<-b8e a hi,h,b8e b hi]
theorem a5h (i:Nat):dig 0 i=0:=by simp[dig]
def wf (f:Nat->Nat):Array Value:= #[.int .u64 (f 0),.int .u64 (f 1),.int .u64 (f 2),.int .u64 (f 3),.int .u64 (f 4),.int .u64 (f 5),.int .u64 (f 6),.int .u64 (f 7)]
theorem c9l (f:Nat->Nat):(wf f).size=8:=rfl
theorem d3S (f:Nat->Nat):a0p (wf f):=by
 intro c hc
 simp[wf]at hc
 rcases hc with h|h|h|h|h|h|h|h<;>subst h<;>rfl
theorem c7D {i:Nat} (h:i<8):i=0\/i=1\/i=2\/i=3\/i=4\/i=5\/i=6\/i=7:=by omega
theorem a8R (f:Nat->Nat) {i:Nat} (h:i<8):(wf f).getD i undef= .int .u64 (f i):=by
 rcases c7D h with h|h|h|h|h|h|h|h<;>subst h<;>rfl
theorem a2l {f g:Nat->Nat} (h:∀i,i<8->f i=g i):wf f=wf g:=by
 unfold wf
 rw[h 0 (by omega),h 1 (by omega),h 2 (by omega),h 3 (by omega),h 4 (by omega),h 5 (by omega),h 6 (by omega),h 7 (by omega)]
theorem d3T {f g:Nat->Nat} (h:wf f=wf g):∀i,i<8->f i=g i:=by
 intro i hi
 have:=(a8R f hi).symm.trans ((congrArg (fun a=>Array.getD a i undef) h).trans (a8R g hi))
 simp only[Value.int.injEq,true_and]at this
 omega
theorem d3U (f:Nat->Nat) {i:Nat} (h:i<8) (d:Nat):(wf f).setIfInBounds i (.int .u64 d)=wf (fun j=>if j=i then d else f j):=by
 rcases c7D h with h|h|h|h|h|h|h|h<;>subst h<;>rfl
theorem b1l (f:Nat->Nat) {i:Nat} (h:i<8) (d:Nat):spl (wf f) i [.int .u64 d]=wf (fun j=>if j=i then d else f j):=d3U f h d
def words (n:Nat):Array Value:=wf (dig n)
def wd (n:Nat):Value:= .agg (words n)
def nb (b:Bool) (n:Nat):Value:= .agg (#[.bool b]++words n)
theorem a0r (n:Nat):(words n).size=8:=rfl
theorem a0x (n:Nat):a0p (words n):=d3S _
theorem a1v (n:Nat) {i:Nat} (h:i<8):(words n).getD i undef= .int .u64 (dig n i):=a8R _ h
theorem a7u {a b:Nat} (h:a%M=b%M):words a=words b:=by rw[a3L]at h;exact a2l fun _ hi=>a7t h hi
theorem b1m {a b:Nat} (h:words a=words b):a%M=b%M:=by rw[a3L];exact a5P (d3T h)
theorem a9S {f:Nat->Nat} {n:Nat} (h:∀i,i<8->f i=dig n i):wf f=words n:=a2l h
theorem rxs:(∀(f:SV->Value) (a:SV) (l:List SV),List.map f (a::l)=f a::List.map f l)/\
  (∀f:SV->Value,List.map f []=[])/\
  (∀(a:Value) (l m:List Value),(a::l)++m=a::(l++m))/\
  (∀l:List Value,[]++l=l)/\
  (∀(a:Value) (l:List Value) (d:Value),(a::l).getD 0 d=a)/\
  (∀(a:Value) (l:List Value) (n:Nat) (d:Value),(a::l).getD (n+1) d=l.getD n d)/\
  (∀P ρ i,D P ρ (.v i)=ρ.getD i undef)/\
  (∀P ρ c,D P ρ (.k c)=c)/\
  (∀P ρ t,D P ρ (.z t)=a0G P t)/\
  (∀P ρ x,D P ρ (.ag x)= .agg (D P ρ x).cells)/\
  (∀P ρ x o s i,D P ρ (.cell x o s i)=(D P ρ x).cells.getD (o+s*a2G (D P ρ i)) undef)/\
  (∀P ρ x o n s i,D P ρ (.sub x o n s i)= .agg ((D P ρ x).cells.extract (o+s*a2G (D P ρ i)) (o+s*a2G (D P ρ i)+n)))/\
  (∀P ρ x o n y s i,D P ρ (.put x o n y s i)= .agg (spl (D P ρ x).cells (o+s*a2G (D P ρ i)) (D P ρ y).cells.toList))/\
  (∀P ρ x n y,D P ρ (.cat x n y)= .agg ((D P ρ x).cells++(D P ρ y).cells))/\
  (∀P ρ x i,D P ρ (.proj x i)=c3E i (D P ρ x))/\
  (∀P ρ o k x y,D P ρ (.op2 o k x y)=a2U o k (Go.RowKit.intOf (D P ρ x)) (Go.RowKit.intOf (D P ρ y)))/\
  (∀P ρ o k x,D P ρ (.op1 o k x)=unV o k (Go.RowKit.intOf (D P ρ x)))/\
  (∀P ρ x,D P ρ (.nt x)= .bool (!a2u (D P ρ x)))/\
  (∀P ρ k x,D P ρ (.cv k x)= .int k (k.wrap (Go.RowKit.intOf (D P ρ x))))/\
  (∀P ρ c x y,D P ρ (.ite c x y)=if a2u (D P ρ c)then D P ρ x else D P ρ y)/\
  (∀P ρ n x y,D P ρ (.eqb n x y)= .bool (n !=(a2u (D P ρ x)==a2u (D P ρ y))))/\
  (∀v,a2G v=(Go.RowKit.intOf v).toNat)/\
  (∀k n,Go.RowKit.intOf (.int k n)=n)/\
  (∀b,a2u (.bool b)=b)/\
  (∀(k:IntKind) (a b:Int),a2U .add k a b= .int k (k.wrap (a+b)))/\
  (∀(k:IntKind) (a b:Int),a2U .sub k a b= .int k (k.wrap (a-b)))/\
  (∀(k:IntKind) (a b:Int),a2U .mul k a b= .int k (k.wrap (a*b)))/\
  (∀(k:IntKind) (a b:Int),a2U .quo k a b= .int k (k.wrap (a.tdiv b)))/\
  (∀(k:IntKind) (a b:Int),a2U .rem k a b= .int k (a.tmod b))/\
  (∀(k:IntKind) (a b:Int),a2U .and k a b= .int k (k.wrap (BitVec.ofInt k.bits a&&&BitVec.ofInt k.bits b).toNat))/\
  (∀(k:IntKind) (a b:Int),a2U .or k a b= .int k (k.wrap (BitVec.ofInt k.bits a|||BitVec.ofInt k.bits b).toNat))/\
  (∀(k:IntKind) (a b:Int),a2U .xor k a b= .int k (k.wrap (BitVec.ofInt k.bits a^^^BitVec.ofInt k.bits b).toNat))/\
  (∀(k:IntKind) (a b:Int),a2U .andNot k a b= .int k (k.wrap (BitVec.ofInt k.bits a&&& ~~~BitVec.ofInt k.bits b).toNat))/\
  (∀(k:IntKind) (a b:Int),a2U .shl k a b= .int k (k.wrap (a*2^(min b.toNat k.bits))))/\
  (∀(k:IntKind) (a b:Int),a2U .shr k a b= .int k (a.fdiv (2^(min b.toNat k.bits))))/\
  (∀(k:IntKind) (a b:Int),a2U .eql k a b= .bool (a==b))/\
  (∀(k:IntKind) (a b:Int),a2U .neq k a b= .bool (a !=b))/\
  (∀(k:IntKind) (a b:Int),a2U .lss k a b= .bool (a<b))/\
  (∀(k:IntKind) (a b:Int),a2U .leq k a b= .bool (a<=b))/\
  (∀(k:IntKind) (a b:Int),a2U .gtr k a b= .bool (a>b))/\
  (∀(k:IntKind) (a b:Int),a2U .geq k a b= .bool (a≥b))/\
  (∀cs:Array Value,(Value.agg cs).cells=cs)/\
  (∀n,(wd n).cells=words n)/\
  (∀n:Nat,0+n=n)/\
  (∀n:Nat,1*n=n)/\
  (∀n:Nat,n+0=n)/\
  (∀n:Nat,0*n=0)/\
  (∀n:Nat,(n:Int).toNat=n)/\
  (∀a b:Value,c3E 0 (.tuple #[a,b])=a)/\
  (∀a b:Value,c3E 1 (.tuple #[a,b])=b)/\
  (∀a b c:Value,c3E 0 (.tuple #[a,b,c])=a)/\
  (∀a b c:Value,c3E 1 (.tuple #[a,b,c])=b)/\
  (∀a b c:Value,c3E 2 (.tuple #[a,b,c])=c)/\
  (∀(k:IntKind) (n:Int),(Value.int k n).cells.toList=[.int k n]):=by
 and_intros<;>intros<;>first|rfl|simp
def cr (a b k:Nat):Nat:=(a%PW k+b%PW k)/PW k
theorem c9m (a b:Nat):cr a b 0=0:=by simp[cr,a2X,Nat.mod_one]
theorem d6A (a b k:Nat):cr a b k<=1:=by
 unfold cr
 have h1:=Nat.mod_lt a (a1k k)
 have h2:=Nat.mod_lt b (a1k k)
 have:a%PW k+b%PW k<2*PW k:=by omega
 have:=(Nat.div_lt_iff_lt_mul (a1k k)).2 this
 omega
theorem c9n (a b k:Nat):cr a b (k+1)=(dig a k+dig b k+cr a b k)/18446744073709551616:=by
 unfold cr
 rw[a1x,a1x,a0C,<-Nat.div_div_eq_div_mul]
 congr 1
 rw[show a%PW k+PW k*dig a k+(b%PW k+PW k*dig b k)=(a%PW k+b%PW k)+PW k*(dig a k+dig b k)from by rw[Nat.mul_add];omega,Nat.add_mul_div_left _ _ (a1k k)]
 omega
theorem b6a (a b k:Nat):(a+b)/PW k=a/PW k+b/PW k+cr a b k:=by
 unfold cr
 have h1:=Nat.div_add_mod a (PW k)
 have h2:=Nat.div_add_mod b (PW k)
 rw[show a+b=(a%PW k+b%PW k)+PW k*(a/PW k+b/PW k)from by rw[Nat.mul_add];omega,Nat.add_mul_div_left _ _ (a1k k)]
 omega
theorem b8f (a b k:Nat):dig (a+b) k=(dig a k+dig b k+cr a b k)%18446744073709551616:=by
 unfold dig;rw[b6a];omega
def bw (a b k:Nat):Nat:=if a%PW k<b%PW k then 1 else 0
theorem c9o (a b:Nat):bw a b 0=0:=by simp[bw,a2X,Nat.mod_one]
theorem d3V (a b k:Nat):bw a b k<=1:=by unfold bw;split<;>omega
theorem c7E {p x y A B:Nat} (hA:A<p) (hB:B<p):A+p*x<B+p*y↔x<y+(if A<B then 1 else 0):=by
 constructor
 ·intro h
  rcases Nat.lt_trichotomy x y with h1|h1|h1
  ·split<;>omega
  ·subst h1;rw[if_pos (by omega)];omega
  ·exfalso
   have:p*(y+1)<=p*x:=Nat.mul_le_mul_left _ h1
   rw[Nat.mul_succ]at this;omega
 ·intro h
  split at h
  ·rename_i hlt
   rcases Nat.lt_or_ge x y with h1|h1
   ·have:p*(x+1)<=p*y:=Nat.mul_le_mul_left _ h1
    rw[Nat.mul_succ]at this;omega
   ·have:x=y:=by omega
    subst this;omega
  ·have:p*(x+1)<=p*y:=Nat.mul_le_mul_left _ (by omega)
   rw[Nat.mul_succ]at this;omega
theorem c9p (a b k:Nat):bw a b (k+1)=if dig a k<dig b k+bw a b k then 1 else 0:=by
 unfold bw
 rw[a1x,a1x]
 simp only[c7E (Nat.mod_lt a (a1k k)) (Nat.mod_lt b (a1k k))]
theorem b1n {a b m:Nat} (hm:m<8) (hs:∀j,m<j->j<8->dig a j=dig b j) (h:dig a m<dig b m):a%M<b%M:=by
 have key:∀t,m+1+t<=8->a%PW (m+1+t)<b%PW (m+1+t):=by
  intro t
  induction t with
  |zero=>
   intro _
   rw[Nat.add_zero,a1x,a1x,c7E (Nat.mod_lt a (a1k m)) (Nat.mod_lt b (a1k m))]
   omega
  |succ t ih=>
   intro ht
   rw[<-Nat.add_assoc,a1x,a1x,hs (m+1+t) (by omega) (by omega)]
   have:=ih (by omega)
   omega
 have:=key (8-(m+1)) (by omega)
 rw[show m+1+(8-(m+1))=8 from by omega]at this
 rw[a3L];exact this
def sb (a b:Nat):Nat:=a+(M-b%M)
theorem d3W (a b:Nat) {k:Nat} (hk:k<8):dig (sb a b) k=(dig a k+18446744073709551616-dig b k-bw a b k)%18446744073709551616:=by
 have hs:(sb a b+b)%M=a%M:=by
  unfold sb
  have:=Nat.mod_lt b b1k
  have e:=Nat.div_add_mod b M
  rw[show a+(M-b%M)+b=a+M*(b/M+1)from by rw[Nat.mul_succ];omega,Nat.add_mul_mod_self_left]
 have hd:dig (sb a b+b) k=dig a k:=a7t (by rw[<-a3L];exact hs) hk
 have hc:cr (sb a b) b k=bw a b k:=by
  have hle:k<=8:=by omega
  have hdv:PW k ∣ M:=by rw[a3L];exact d3R hle
  have h1:(sb a b+b)%PW k=a%PW k:=by
   rw[<-Nat.mod_mod_of_dvd _ hdv,hs,Nat.mod_mod_of_dvd _ hdv]
  have h2:((sb a b)%PW k+b%PW k)%PW k=a%PW k:=by rw[<-Nat.add_mod];exact h1
  have hA:=Nat.mod_lt (sb a b) (a1k k)
  have hB:=Nat.mod_lt b (a1k k)
  unfold cr bw
  rcases Nat.lt_or_ge ((sb a b)%PW k+b%PW k) (PW k)with h|h
  ·rw[Nat.mod_eq_of_lt h]at h2
   rw[Nat.div_eq_of_lt h,if_neg (by omega)]
  ·have e:=Nat.mod_eq_sub_mod h
   rw[e,Nat.mod_eq_of_lt (by omega)]at h2
   rw[if_pos (by omega)]
   rw[Nat.div_eq_sub_div (a1k k) h,Nat.div_eq_of_lt (by omega)]
 rw[b8f,hc]at hd
 have h1:=a6p (sb a b) k
 have h2:=a6p b k
 have h3:=a6p a k
 have h4:=d3V a b k
 omega
open Go.RX
def sg (a b:Nat):Int:=if a<b then -1 else if a=b then 0 else 1
@[irreducible] def HM:Nat:=9223372036854775808*PW 7
theorem b6b:HM=9223372036854775808*PW 7:=by unfold HM;rfl
theorem c3o:M=2*HM:=by rw[a3L,b6b,show(8:Nat)=7+1 from rfl,a0C];omega
theorem a8S:0<HM:=by rw[b6b];have:=a1k 7;omega
def rs (z:Int):Nat:=(z%(M:Int)).toNat
theorem d6B (z:Int):rs z<M:=by
 unfold rs
 have:=b1k
 have h:=Int.emod_lt_of_pos z (show(0:Int)<M by omega)
 have h':=Int.emod_nonneg z (show(M:Int)≠0 by omega)
 omega
def iw (z:Int):Value:=wd (rs z)
def nm (z:Int):Value:=nb (decide (z<0)) z.natAbs
def toI (a:Nat):Int:=if a%M<HM then(a%M:Nat)else(a%M:Nat)-(M:Int)
def c3p (z:Int):Prop:= -(HM:Int)<=z/\z<HM
theorem c4j (a:Nat):c3p (toI a):=by
 have h:=Nat.mod_lt a b1k
 have:=c3o
 unfold c3p toI;split<;>omega
theorem b8g {z:Int} (h0:0<=z) (h:z<M):rs z=z.toNat:=by
 unfold rs;rw[Int.emod_eq_of_lt h0 h]
theorem b8h {z:Int} (h0:z<0) (h: -(M:Int)<=z):rs z=(z+M).toNat:=by
 unfold rs
 have:=b1k
 rw[<-Int.add_emod_right,Int.emod_eq_of_lt (by omega) (by omega)]
theorem a3T {z:Int} (h:c3p z):toI (rs z)=z:=by
 have hM:=c3o
 have hl:=d6B z
 obtain⟨h1,h2⟩:=h
 unfold toI
 rw[Nat.mod_eq_of_lt hl]
 by_cases h0:0<=z
 ·rw[b8g h0 (by omega)]
  split<;>omega
 ·rw[b8h (by omega) (by omega)]
  split<;>omega
theorem c9q (a:Nat):dig a 7<9223372036854775808↔a%M<HM:=by
 have e:a%M=a%PW 7+PW 7*dig a 7:=by rw[a3L];exact a1x a 7
 have hlt:=Nat.mod_lt a (a1k 7)
 rw[e,b6b]
 constructor
 ·intro h
  have:=Nat.mul_le_mul_left (PW 7) (show dig a 7+1<=9223372036854775808 by omega)
  rw[Nat.mul_succ]at this
  rw[Nat.mul_comm 9223372036854775808];omega
 ·intro h
  rcases Nat.lt_or_ge (dig a 7) 9223372036854775808 with h1|h1
  ·exact h1
  ·have:=Nat.mul_le_mul_left (PW 7) h1
   rw[Nat.mul_comm 9223372036854775808]at h;omega
theorem a5i {b b':Bool} {m n:Nat} (h:b=b') (hm:m%M=n%M):nb b m=nb b' n:=by unfold nb;rw[h,a7u hm]
theorem c4k {m n:Nat} (hm:m%M=n%M):wd m=wd n:=by unfold wd;rw[a7u hm]
theorem d3X {i:Nat} (h:i<8):dig HM i=if i=7 then 9223372036854775808 else 0:=by
 unfold dig
 rw[b6b]
 split
 ·rename_i e;subst e
  rw[Nat.mul_div_cancel _ (a1k 7)]
 ·obtain⟨d,hd⟩:∃d,7=(d+1)+i:=⟨7-i-1,by omega⟩
  rw[hd,a8Q,<-Nat.mul_assoc,Nat.mul_div_cancel _ (a1k i),a0C,<-Nat.mul_assoc,Nat.mul_mod_left]
theorem d6C:HM<M:=by have:=c3o;have:=a8S;omega
theorem b3m:spl (words 0) 7 [.int .u64 9223372036854775808]=words HM:=by
 have:=b1l (dig 0) (show 7<8 by omega) 9223372036854775808
 refine Eq.trans this (a9S fun i hi=> ?_)
 rw[d3X hi,a5h]
theorem a6q {z:Int} (h:z<0) (hm:z.natAbs<M):wd (sb 0 z.natAbs)=iw z:=by
 unfold iw
 refine c4k ?_
 rw[b8h h (by omega)]
 unfold sb
 rw[Nat.mod_eq_of_lt hm]
 congr 1
 omega
theorem b8i {z:Int} (h:0<=z) (hm:z.natAbs<M):wd z.natAbs=iw z:=by
 unfold iw
 rw[b8g h (by omega)]
 congr 1
 omega
theorem sg_pos {a b:Nat}:sg a b>0↔b<a:=by unfold sg;split<;>(try split)<;>omega
theorem sg_zero {a b:Nat}:sg a b=0↔a=b:=by unfold sg;split<;>(try split)<;>omega
theorem sg_nonneg {a b:Nat}:sg a b≥0↔b<=a:=by unfold sg;split<;>(try split)<;>omega
end Go.WD
/- Contracts of package wide: words. -/
namespace Go.Proofs.YtlmgkkjgdapnpaaGreatDoor
open Go.Proofs.Tryz
open Go.RowKit Go.RX Go.WD Go.IntWalk
theorem b8j (b:Bool) (n:Nat):Value.agg ((#[Value.bool b]++words n).extract 1 9)=wd n:=rfl
theorem a1z (b:Bool) (n:Nat):(#[Value.bool b]++words n).size=9:=rfl
theorem a3H (b:Bool) (n:Nat):a0p (#[Value.bool b]++words n):=by
 intro c hc
 simp only[Array.toList_append,List.mem_append]at hc
 rcases hc with h|h
 ·simp at h;subst h;rfl
 ·exact a0x n c h
theorem a8T:a0G prog 218=wd 0:=by
 have:a0G prog 218= .agg #[.int .u64 0,.int .u64 0,.int .u64 0,.int .u64 0,.int .u64 0,.int .u64 0,.int .u64 0,.int .u64 0]:=by kernel_rfl
 rw[this];simp[wd,words,wf,a5h]
theorem a3U:a0G prog 59=wd 0:=by
 have:a0G prog 59= .agg #[.int .u64 0,.int .u64 0,.int .u64 0,.int .u64 0,.int .u64 0,.int .u64 0,.int .u64 0,.int .u64 0]:=by kernel_rfl
 rw[this];simp[wd,words,wf,a5h]
theorem a5j (x y c:Nat) (hx:x<18446744073709551616) (hy:y<18446744073709551616) (hc:c<=1):Own prog 209 [.int .u64 x,.int .u64 y,.int .u64 c] (.tuple #[.int .u64 (((x+y+c)%18446744073709551616:Nat):Int),.int .u64 (((x+y+c)/18446744073709551616:Nat):Int)]):=fun w=>by
 show(callFunc _ #[_,_,_]).run _ w=_
 rw[run_callFunc_extern Tryz.func209 (by kernel_rfl) (by kernel_rfl) (by kernel_rfl) (e:=add64Entry) (by kernel_rfl),run_add64 x y c (by omega) (by omega) (by omega) (by omega)]
 simp only[Result.andThen]
 congr 5<;>omega
theorem b1o (x y b:Nat) (hb:b<=1):Own prog 210 [.int .u64 x,.int .u64 y,.int .u64 b] (.tuple #[.int .u64 (((x+18446744073709551616-y-b)%18446744073709551616:Nat):Int),.int .u64 ((if x<y+b then 1 else 0:Nat):Int)]):=fun w=>by
 show(callFunc _ #[_,_,_]).run _ w=_
 rw[run_callFunc_extern Tryz.func210 (by kernel_rfl) (by kernel_rfl) (by kernel_rfl) (e:=sub64Entry) (by kernel_rfl),run_sub64 x y b hb]
 rfl
theorem b4l (f g:Nat->Nat) (k i:Nat):(if i=k then f k else if i<k then f i else g i)=if i<k+1 then f i else g i:=by
 by_cases h1:i=k
 ·subst h1;rw[if_pos rfl,if_pos (by omega)]
 ·rw[if_neg h1]
  by_cases h2:i<k
  ·rw[if_pos h2,if_pos (by omega)]
  ·rw[if_neg h2,if_neg (by omega)]
theorem c4l (a b:Nat):Det prog 218 [wd a,wd b] (.tuple #[wd (a+b),.int .u64 (cr a b 8)]):=by
 refine a0H mixed c9f (by kernel_rfl) rfl ?_
 refine a0v ⟨a0r a,a0x a⟩ (a0v ⟨a0r b,a0x b⟩ ?_)
 refine⟨fun l=>∃k,k<=8/\l=[.int .u64 (cr a b k),.int .i64 (k:Nat),.agg (wf fun j=>if j<k then dig (a+b) j else dig a j)],fun l=>(8-intOf (l.getD 1 undef)).toNat,⟨0,by omega,?_⟩,?_⟩
 ·rw[c9m];rfl
 ·rintro vals-⟨k,hk,rfl⟩
  refine a0v ⟨_,rfl⟩ (a1I (b:=decide ((k:Int)<8)) rfl (fun h=> ?_) (fun h=> ?_))
  ·have hk:k<8:=by simp at h;omega
   refine a0v ⟨_,_,rfl⟩ (a0v ⟨?_,?_⟩ ?_)
   ·show(0:Int)<=(k:Int);omega
   ·show(k:Int)<8;omega
   ·refine c7A (a5j (dig a k) (dig b k) (cr a b k) (a6p _ _) (a6p _ _) (d6A _ _ _)) ?_ ?_
    ·simp only[rxs,a8R _ hk,a1v b hk,Nat.lt_irrefl,if_false]
    ·refine a0v ⟨_,rfl,Nat.zero_lt_succ _⟩ (a0v ⟨_,rfl,Nat.lt_succ_self _⟩ (a0v ⟨rfl,?_⟩ ?_))
     ·exact b3k _ _
     ·refine⟨⟨k+1,by omega,?_⟩,?_⟩
      ·have e:(k:Int)+1=((k+1:Nat):Int):=by omega
       simp only[rxs,<-c9n,<-b8f,e,i64_in _ (show -9223372036854775808<=((k+1:Nat):Int)/\((k+1:Nat):Int)<=9223372036854775807 from by omega)]
       rw[b1l _ hk,a2l (g:=fun j=>if j<k+1 then dig (a+b) j else dig a j) (fun i _=> ?_)]
       exact b4l _ _ k i
      ·simp only[rxs,i64_in _ (show -9223372036854775808<=(k:Int)+1/\(k:Int)+1<=9223372036854775807 from by omega)]
       omega
  ·have hk:k=8:=by simp at h;omega
   subst hk
   refine a0Z ?_ rfl
   simp only[rxs,a4w,a9S (n:=a+b) (f:=fun j=>if j<8 then dig (a+b) j else dig a j) (fun i hi=>by rw[if_pos hi])]
   rfl
theorem a3V (a b:Nat):Det prog 166 [wd a,wd b] (.tuple #[wd (sb a b),.int .u64 (bw a b 8)]):=by
 refine a0H mixed c4e (by kernel_rfl) rfl ?_
 refine a0v ⟨a0r a,a0x a⟩ (a0v ⟨a0r b,a0x b⟩ ?_)
 refine⟨fun l=>∃k,k<=8/\l=[.int .u64 (bw a b k),.int .i64 (k:Nat),.agg (wf fun j=>if j<k then dig (sb a b) j else dig a j)],fun l=>(8-intOf (l.getD 1 undef)).toNat,⟨0,by omega,?_⟩,?_⟩
 ·rw[c9o];rfl
 ·rintro vals-⟨k,hk,rfl⟩
  refine a0v ⟨_,rfl⟩ (a1I (b:=decide ((k:Int)<8)) rfl (fun h=> ?_) (fun h=> ?_))
  ·have hk:k<8:=by simp at h;omega
   refine a0v ⟨_,_,rfl⟩ (a0v ⟨?_,?_⟩ ?_)
   ·show(0:Int)<=(k:Int);omega
   ·show(k:Int)<8;omega
   ·refine c7A (b1o (dig a k) (dig b k) (bw a b k) (d3V _ _ _)) ?_ ?_
    ·simp only[rxs,a8R _ hk,a1v b hk,Nat.lt_irrefl,if_false]
    ·refine a0v ⟨_,rfl,Nat.zero_lt_succ _⟩ (a0v ⟨_,rfl,Nat.lt_succ_self _⟩ (a0v ⟨rfl,?_⟩ ?_))
     ·exact b3k _ _
     ·refine⟨⟨k+1,by omega,?_⟩,?_⟩
      ·have e:(k:Int)+1=((k+1:Nat):Int):=by omega
       simp only[rxs,<-c9p,<-d3W a b hk,e,i64_in _ (show -9223372036854775808<=((k+1:Nat):Int)/\((k+1:Nat):Int)<=9223372036854775807 from by omega)]
       rw[b1l _ hk,a2l (g:=fun j=>if j<k+1 then dig (sb a b) j else dig a j) (fun i _=> ?_)]
       exact b4l _ _ k i
      ·simp only[rxs,i64_in _ (show -9223372036854775808<=(k:Int)+1/\(k:Int)+1<=9223372036854775807 from by omega)]
       omega
  ·have hk:k=8:=by simp at h;omega
   subst hk
   refine a0Z ?_ rfl
   simp only[rxs,a4w,a9S (n:=sb a b) (f:=fun j=>if j<8 then dig (sb a b) j else dig a j) (fun i hi=>by rw[if_pos hi])]
   rfl
theorem b1p (a b:Nat):Det prog 167 [wd a,wd b] (.int .i64 (sg (a%M) (b%M))):=by
 refine a0H mixed c4f (by kernel_rfl) rfl ?_
 refine a0v ⟨a0r a,a0x a⟩ (a0v ⟨a0r b,a0x b⟩ ?_)
 refine⟨fun l=>∃k,k<=8/\(∀j,k<=j->j<8->dig a j=dig b j)/\l=[.int .i64 0,.int .i64 ((k:Int)-1)],fun l=>(intOf (l.getD 1 undef)+1).toNat,⟨8,by omega,fun j h1 h2=>by omega,rfl⟩,?_⟩
 rintro vals-⟨k,hk,hs,rfl⟩
 refine a0v ⟨_,rfl⟩ (a1I (b:=decide ((k:Int)-1≥0)) rfl (fun h=> ?_) (fun h=> ?_))
 ·have hk0:0<k:=by simp at h;omega
  obtain⟨m,rfl⟩:∃m,k=m+1:=⟨k-1,by omega⟩
  have hm:m<8:=by omega
  have em:((m+1:Nat):Int)-1=(m:Int):=by omega
  rw[em]
  refine a0v ⟨_,_,rfl⟩ (a0v ⟨?_,?_⟩ (a0v ⟨dig a m,?_⟩ (a0v ⟨dig b m,?_⟩ ?_)))
  ·show(0:Int)<=(m:Int);omega
  ·show(m:Int)<8;omega
  ·simp only[rxs,a1v a hm]
  ·simp only[rxs,a1v b hm]
  ·refine a1I (b:=decide (dig a m≠dig b m)) ?_ (fun h1=> ?_) (fun h1=> ?_)
   ·simp only[rxs,a1v a hm,a1v b hm]
    congr 1
    rw[Bool.eq_iff_iff];simp;omega
   ·have h1:dig a m≠dig b m:=by simpa using h1
    refine a1I (b:=decide (dig a m<dig b m)) ?_ (fun h2=> ?_) (fun h2=> ?_)
    ·simp only[rxs,a1v a hm,a1v b hm]
     congr 1
     rw[Bool.eq_iff_iff];simp
    ·have:=b1n hm (fun j h h'=>hs j (by omega) h') (by simpa using h2)
     exact a0Z rfl (by simp[D,a4w,sg,this])
    ·have:=b1n (a:=b) (b:=a) hm (fun j h h'=>(hs j (by omega) h').symm) (by simp at h2;omega)
     exact a0Z rfl (by simp only[rxs,a4w,sg];rw[if_neg (by omega),if_neg (by omega)])
   ·have h1:dig a m=dig b m:=by simpa using h1
    refine⟨⟨m,by omega,fun j h h'=> ?_,?_⟩,?_⟩
    ·rcases Nat.eq_or_lt_of_le h with rfl|h
     ·exact h1
     ·exact hs j (by omega) h'
    ·simp only[rxs,i64_in _ (show -9223372036854775808<=(m:Int)-1/\(m:Int)-1<=9223372036854775807 from by omega)]
    ·simp only[rxs,i64_in _ (show -9223372036854775808<=(m:Int)-1/\(m:Int)-1<=9223372036854775807 from by omega)]
     omega
 ·have hk0:k=0:=by simp at h;omega
  subst hk0
  refine a0Z rfl ?_
  have:a%M=b%M:=by rw[a3L];exact a5P fun i hi=>hs i (by omega) hi
  simp[D,a4w,sg,this]
open Go.RowKit Go.RX Go.WD Go.IntWalk
theorem b3n {P:Program} {e:TypeId} (hu:P.underlying e=some (.int .u64)) (d x y:Nat) (w:World):(Op.equalIn (d+1) e (.int .u64 x) (.int .u64 y)).run P w= .ok (decide (x=y)) w:=by
 simp only[Op.equalIn,Sem.run_bind,run_underlying hu,Result.andThen_ok,if_true,Sem.run_pure]
 congr 1
 rw[Bool.eq_iff_iff];simp;omega
theorem a6r {P:Program} {e:TypeId} (hT:a2h P e=true) (hc:P.cellsOf e=1) (hag:a0F P e=false) (hu:P.underlying e=some (.int .u64)) (d:Nat) (f g:Nat->Nat) (w:World):∀is:List Nat,(∀i∈is,i<8)->
  (Op.eqItems (d+1) e (P.cellsOf e) (wf f) (wf g) is).run P w= .ok (decide (∀i∈is,f i=g i)) w:=by
 intro is
 induction is with
 |nil=>intro _;simp[Op.eqItems]
 |cons i is ih=>
  intro h
  have hi:=h i (by simp)
  have hp:∀f:Nat->Nat,(part e (wf f) (i*P.cellsOf e)).run P w= .ok (.int .u64 (f i)) w:=fun f=>by
   rw[a2v hT (by rw[c9l,hc];omega) (by omega) w,hag,hc,Nat.mul_one]
   simp only[Bool.false_eq_true,if_false,a8R f hi]
  simp only[Op.eqItems,Sem.run_bind,hp,Result.andThen_ok,b3n hu]
  by_cases he:f i=g i
  ·simp only[he,decide_true,Bool.not_true,Bool.false_eq_true,if_false,ih (fun j hj=>h j (by simp[hj]))]
   congr 1
   rw[Bool.eq_iff_iff];simp[he]
  ·simp[he]
theorem a6s (a b:Nat):(∀i∈List.range 8,dig a i=dig b i)↔a%M=b%M:=
 ⟨fun h=>by rw[a3L];exact a5P fun i hi=>h i (List.mem_range.2 hi),fun h i hi=>by rw[a3L]at h;exact a7t h (List.mem_range.1 hi)⟩
theorem b8k {P:Program} {o:Oper} {t t' e:TypeId} {x y:Operand} {va vb:Value} {a b:Nat} (ho:o.op= .binOp .eql t x y t') (hva:va=wd a) (hvb:vb=wd b) (hx:a0k [x,y] [va,vb] x=va) (hy:a0k [x,y] [va,vb] y=vb)
  (hu:P.underlying t=some (.array 8 e)) (hg:P.eqGuardType P.depth t=false) (hT:a2h P e=true) (hc:P.cellsOf e=1) (hag:a0F P e=false) (hue:P.underlying e=some (.int .u64)):
  Yld P o [va,vb] (.bool (decide (a%M=b%M))):=fun w=>by
 have hos:o.op.operands.toList=[x,y]:=by simp[ho,Op.operands]
 obtain⟨i,hi⟩:∃i,P.info? e=some i:=by
  unfold a2h at hT;rw[Bool.and_eq_true,Option.isSome_iff_exists]at hT;exact hT.1
 subst hva;subst hvb
 have hr:(Op.equal t (wd a) (wd b)).run P w= .ok (decide (a%M=b%M)) w:=by
  show(Op.equalIn (9999+1) t (.agg (wf (dig a))) (.agg (wf (dig b)))).run P w=_
  rw[run_equalIn_array w 9999 _ _ hu hi,show(9999:Nat)=9998+1 from rfl,a6r hT hc hag hue 9998 (dig a) (dig b) w _ (fun i hi=>List.mem_range.1 hi)]
  congr 1
  rw[Bool.eq_iff_iff,decide_eq_true_iff,decide_eq_true_iff];exact a6s a b
 rw[hos]
 simp only[execOp,ho,hx,hy]
 simp only[wd]at hr⊢
 simp[eqGuard,binOp,hg,hr]
section
variable {o:Oper} {x y:Operand} {va vb:Value} {a b:Nat}
theorem c9r (ho:o.op= .binOp .eql 218 x y 218) (hva:va=wd a) (hvb:vb=wd b) (hx:a0k [x,y] [va,vb] x=va) (hy:a0k [x,y] [va,vb] y=vb):Yld prog o [va,vb] (.bool (decide (a%M=b%M))):=
 b8k (e:=57) ho hva hvb hx hy (by kernel_rfl) (by kernel_rfl) (by kernel_rfl) (by kernel_rfl) (by kernel_rfl) (by kernel_rfl)
theorem b8l (ho:o.op= .binOp .eql 59 x y 59) (hva:va=wd a) (hvb:vb=wd b) (hx:a0k [x,y] [va,vb] x=va) (hy:a0k [x,y] [va,vb] y=vb):Yld prog o [va,vb] (.bool (decide (a%M=b%M))):=
 b8k (e:=57) ho hva hvb hx hy (by kernel_rfl) (by kernel_rfl) (by kernel_rfl) (by kernel_rfl) (by kernel_rfl) (by kernel_rfl)
end
theorem c4m (a:Nat):Det prog 253 [wd a] (.bool (decide (a%M=0))):=by
 refine a0H mixed c9e (by kernel_rfl) rfl (a0v ⟨a0r a,a0x a⟩ ?_)
 refine b7X (c9r (a:=a) (b:=0) rfl rfl a8T rfl rfl) rfl (a0Z rfl ?_)
 show Value.bool (decide (a%M=0%M))=Value.bool (decide (a%M=0))
 congr 1
theorem b8m (b:Bool) (a:Nat):Det prog 219 [.bool b,wd a] (nb (b&& !decide (a%M=0)) a):=by
 refine a0H mixed d6y (by kernel_rfl) rfl (a0v ⟨a0r a,a0x a⟩ (a0v ⟨b,rfl⟩ (a1I (b:=b) rfl (fun h=> ?_) (fun h=> ?_))))
 ·subst h
  exact a1l (c4m a) rfl (a0v ⟨_,rfl⟩ (a0Z rfl rfl))
 ·subst h
  exact a0Z rfl rfl
end Go.Proofs.YtlmgkkjgdapnpaaGreatDoor
/- Digits to the base 2^32: plain. -/
namespace Go.WD
open Go.RX
@[irreducible] def BP (k:Nat):Nat:=2^(32*k)
theorem c9s:BP 0=1:=by unfold BP;rfl
theorem c9t (k:Nat):BP (k+1)=BP k*4294967296:=by unfold BP;rw[Nat.mul_succ,Nat.pow_add]
theorem d3Y (k:Nat):0<BP k:=by unfold BP;exact Nat.pow_pos (by omega)
theorem c9u {i j:Nat} (h:i<=j):BP i<=BP j:=by unfold BP;exact Nat.pow_le_pow_right (by omega) (by omega)
theorem BP_lt_iff {i j:Nat}:BP i<BP j↔i<j:=by
 constructor
 ·intro h;rcases Nat.lt_or_ge i j with h1|h1
  ·exact h1
  ·have:=c9u h1;omega
 ·intro h
  have h1:=c9u (show i+1<=j from h)
  have h2:=d3Y i
  rw[c9t]at h1;omega
theorem d3Z (k:Nat):BP (2*k)=PW k:=by unfold BP PW;rw[<-Nat.mul_assoc]
theorem d8b:BP 16=M:=by rw[a3L,<-d3Z]
theorem b8n {l:List Nat} {k:Nat} (h:k<l.length):l[k]? =some (l.getD k 0):=by
 rw[List.getD_eq_getElem?_getD,List.getElem?_eq_getElem h];rfl
theorem b6c {l:List Nat} {k:Nat} (h:k<l.length):l.take (k+1)=l.take k++[l.getD k 0]:=by
 rw[List.take_add_one,b8n h];rfl
theorem a9T {l:List Nat} {k:Nat} (h:k<l.length):l.drop k=l.getD k 0::l.drop (k+1):=by
 have:=List.drop_eq_getElem_cons h
 rw[this]
 congr 1
 rw[List.getD_eq_getElem?_getD,List.getElem?_eq_getElem h];rfl
theorem a7v {l:List Nat} {k x:Nat} (h:k<l.length):(l.set k x).getD k 0=x:=by
 rw[List.getD_eq_getElem?_getD,List.getElem?_set,if_pos rfl,if_pos h];rfl
theorem a1L {l:List Nat} {k j x:Nat} (h:j≠k):(l.set k x).getD j 0=l.getD j 0:=by
 rw[List.getD_eq_getElem?_getD,List.getD_eq_getElem?_getD,List.getElem?_set,if_neg (fun e=>h e.symm)]
theorem c4n {l:List Nat} {k j x:Nat} (h:k<j):(l.set k x).drop j=l.drop j:=by
 apply List.ext_getElem?
 intro i
 rw[List.getElem?_drop,List.getElem?_drop,List.getElem?_set,if_neg (by omega)]
theorem a5k (n k:Nat):(List.replicate n 0).getD k 0=0:=by
 rw[List.getD_eq_getElem?_getD,List.getElem?_replicate];split<;>rfl
theorem a8U {l:List Nat} {k:Nat} (h:l.length<=k):l.getD k 0=0:=by
 rw[List.getD_eq_getElem?_getD,List.getElem?_eq_none h];rfl
end Go.WD
/- Slices of digits in memory. -/
namespace Go.RX
open Go.RowKit
theorem Con.frame {P:Program} {f:FuncId} {args:List Value} {Hr H:PH} {V:Value->PH->Prop} (h:Con P f args Hr V) (hle:PH.le Hr H):
  Con P f args H fun u H'=>∃Hr',V u Hr'/\PH.le Hr' H'/\∀k ob,H k=some ob->Hr k=none->Hr' k=none/\H' k=some ob:=fun w hw=>by
 refine(h w (hle.In hw)).mono ?_
 rintro e w' ⟨v,Hr',he,hs,hV⟩
 have none_of:∀k ob,H k=some ob->Hr k=none->Hr' k=none:=fun k ob hk hr=>by
  cases e2:Hr' k with
  |none=>rfl
  |some o2=>
   have h2:=a0y (hw _ _ hk)
   rcases hs.dom k (by simp[e2])with h3|h3
   ·exact absurd hr h3
   ·omega
 refine⟨v,fun k=>match Hr' k with|some o=>some o|none=>if Hr k=none then H k else none,he,⟨hs.os,hs.tape,hs.output,hs.size,fun k hk hn=> ?_,fun k ob hk=> ?_,fun k hk=> ?_,hs.dr⟩,Hr',hV,fun k ob hk=> ?_,fun k ob hk hr=>⟨none_of k ob hk hr,?_⟩⟩
 ·refine hs.block k hk ?_
  cases e2:Hr k with
  |none=>rfl
  |some o2=>rw[hle _ _ e2]at hn;cases hn
 ·cases e2:Hr' k with
  |some o2=>simp only[e2]at hk;cases hk;exact hs.holds _ _ e2
  |none=>
   simp only[e2]at hk
   split at hk
   ·rename_i hr
    rw[hs.block k (a0y (hw _ _ hk)) hr]
    exact hw _ _ hk
   ·cases hk
 ·cases e2:Hr' k with
  |some o2=>
   rcases hs.dom k (by simp[e2])with h3|h3
   ·refine .inl fun hn=>h3 ?_
    cases e3:Hr k with
    |none=>rfl
    |some o3=>rw[hle _ _ e3]at hn;cases hn
   ·exact .inr h3
  |none=>
   simp only[e2]at hk
   split at hk
   ·exact .inl hk
   ·exact absurd rfl hk
 ·simp only[hk]
 ·simp only[none_of k ob hk hr,hr,if_true,hk]
theorem OwS.frame {Hr H Hr' H':PH} {e:TypeId} {sz n:Nat} {v:Value} {xs:List Value} (h:OwS Hr H e sz v n xs) (hk:∀k ob,H k=some ob->Hr k=none->Hr' k=none/\H' k=some ob):OwS Hr' H' e sz v n xs:=by
 obtain⟨h1,h2|⟨g,cap,cur,h2,h3,h4,h5⟩⟩:=h
 ·exact⟨h1,.inl h2⟩
 ·exact⟨h1,.inr ⟨g,cap,cur,h2,(hk _ _ h4 h3).1,(hk _ _ h4 h3).2,h5⟩⟩
end Go.RX
namespace Go.Proofs.YtlmgkkjgdapnpaaGreatDoor
open Go.Proofs.Tryz
open Go.RowKit Go.RX Go.WD
def iv (d:Nat):Value:= .int .i64 (d:Nat)
theorem d4a (f:Nat->Value):(Array.range (1*1)).map f= #[f 0]:=by
 apply Array.ext';simp
end Go.Proofs.YtlmgkkjgdapnpaaGreatDoor

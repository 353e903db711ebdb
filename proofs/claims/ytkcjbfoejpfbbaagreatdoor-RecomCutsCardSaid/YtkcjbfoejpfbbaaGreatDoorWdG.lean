/- Numbers of eight words. -/
import Derived.Test.YtkcjbfoejpfbbaaGreatDoorRxH
import Derived.Test.YtkcjbfoejpfbbaaGreatDoorWdT
import Derived.Laws.Externs
import Derived.Shelf.Spec.BitsCarry
import Derived.IntWalk
import Derived.ChangeKeysEq
namespace Go.WD
open Go.RX
theorem b7V (k:IntKind) (n:Int):a0u (Value.int k n).cells:=by intro c hc;simp[a9V]at hc;subst hc;rfl
@[irreducible] def PW (k:Nat):Nat:=2^(64*k)
theorem a2K:PW 0=1:=by unfold PW;rfl
theorem a0o (k:Nat):PW (k+1)=PW k*18446744073709551616:=by
 unfold PW;rw[Nat.mul_succ,Nat.pow_add]
theorem a1v (k:Nat):0<PW k:=by unfold PW;exact Nat.pow_pos (by omega)
theorem a7M (i j:Nat):PW (i+j)=PW i*PW j:=by unfold PW;rw[Nat.mul_add,Nat.pow_add]
theorem b2l {i j:Nat} (h:i<=j):PW i<=PW j:=by unfold PW;exact Nat.pow_le_pow_right (by omega) (by omega)
theorem d2m {i j:Nat} (h:i<=j):PW i ∣ PW j:=by
 obtain⟨d,rfl⟩:=Nat.exists_eq_add_of_le h
 rw[a7M];exact Nat.dvd_mul_right _ _
@[irreducible] def M:Nat:=PW 8
theorem a4n:M=PW 8:=by unfold M;rfl
theorem b0n:0<M:=by rw[a4n];exact a1v 8
def dig (n i:Nat):Nat:=n/PW i%18446744073709551616
theorem b0o (n i:Nat):dig n i<18446744073709551616:=Nat.mod_lt _ (by omega)
theorem a1X (n k:Nat):n%PW (k+1)=n%PW k+PW k*dig n k:=by rw[a0o,Nat.mod_mul];rfl
theorem a7N {a b:Nat}:∀{k:Nat},(∀i,i<k->dig a i=dig b i)->a%PW k=b%PW k:=by
 intro k
 induction k with
 |zero=>intro _;rw[a2K,Nat.mod_one,Nat.mod_one]
 |succ k ih=>intro h;rw[a1X,a1X,ih (fun i hi=>h i (by omega)),h k (by omega)]
theorem b7W (a:Nat) {i k:Nat} (h:i<k):dig (a%PW k) i=dig a i:=by
 obtain⟨d,rfl⟩:=Nat.exists_eq_add_of_lt h
 have e:PW (i+d+1)=PW i*PW (d+1):=by rw[Nat.add_assoc,a7M]
 unfold dig
 rw[e,Nat.mod_mul_right_div_self,a0o,Nat.mul_comm (PW d),Nat.mod_mul_right_mod]
theorem a6y {a b k i:Nat} (h:a%PW k=b%PW k) (hi:i<k):dig a i=dig b i:=by
 rw[<-b7W a hi,h,b7W b hi]
theorem a4o (i:Nat):dig 0 i=0:=by simp[dig]
def wf (f:Nat->Nat):Array Value:= #[.int .u64 (f 0),.int .u64 (f 1),.int .u64 (f 2),.int .u64 (f 3),.int .u64 (f 4),.int .u64 (f 5),.int .u64 (f 6),.int .u64 (f 7)]
theorem c8g (f:Nat->Nat):(wf f).size=8:=rfl
theorem d2n (f:Nat->Nat):a0u (wf f):=by
 intro c hc
 simp[wf]at hc
 rcases hc with h|h|h|h|h|h|h|h<;>subst h<;>rfl
theorem c6p {i:Nat} (h:i<8):i=0\/i=1\/i=2\/i=3\/i=4\/i=5\/i=6\/i=7:=by omega
theorem b7X (f:Nat->Nat) {i:Nat} (h:i<8):(wf f).getD i undef= .int .u64 (f i):=by
 rcases c6p h with h|h|h|h|h|h|h|h<;>subst h<;>rfl
theorem a2n {f g:Nat->Nat} (h:∀i,i<8->f i=g i):wf f=wf g:=by
 unfold wf
 rw[h 0 (by omega),h 1 (by omega),h 2 (by omega),h 3 (by omega),h 4 (by omega),h 5 (by omega),h 6 (by omega),h 7 (by omega)]
theorem d2o (f:Nat->Nat) {i:Nat} (h:i<8) (d:Nat):(wf f).setIfInBounds i (.int .u64 d)=wf (fun j=>if j=i then d else f j):=by
 rcases c6p h with h|h|h|h|h|h|h|h<;>subst h<;>rfl
theorem b3w (f:Nat->Nat) {i:Nat} (h:i<8) (d:Nat):spl (wf f) i [.int .u64 d]=wf (fun j=>if j=i then d else f j):=d2o f h d
def words (n:Nat):Array Value:=wf (dig n)
def wd (n:Nat):Value:= .agg (words n)
def nb (b:Bool) (n:Nat):Value:= .agg (#[.bool b]++words n)
theorem words_size (n:Nat):(words n).size=8:=rfl
theorem words_one (n:Nat):a0u (words n):=d2n _
theorem a1M (n:Nat) {i:Nat} (h:i<8):(words n).getD i undef= .int .u64 (dig n i):=b7X _ h
theorem a6z {a b:Nat} (h:a%M=b%M):words a=words b:=by rw[a4n]at h;exact a2n fun _ hi=>a6y h hi
theorem b3x {f:Nat->Nat} {n:Nat} (h:∀i,i<8->f i=dig n i):wf f=words n:=a2n h
theorem rxs:(∀(f:SV->Value) (a:SV) (l:List SV),List.map f (a::l)=f a::List.map f l)/\
  (∀f:SV->Value,List.map f []=[])/\
  (∀(a:Value) (l m:List Value),(a::l)++m=a::(l++m))/\
  (∀l:List Value,[]++l=l)/\
  (∀(a:Value) (l:List Value) (d:Value),(a::l).getD 0 d=a)/\
  (∀(a:Value) (l:List Value) (n:Nat) (d:Value),(a::l).getD (n+1) d=l.getD n d)/\
  (∀P ρ i,D P ρ (.v i)=ρ.getD i undef)/\
  (∀P ρ c,D P ρ (.k c)=c)/\
  (∀P ρ t,D P ρ (.z t)=a0G P t)/\
  (∀P ρ x,D P ρ (.ag x)= .agg (D P ρ x).cells)/\
  (∀P ρ x o s i,D P ρ (.cell x o s i)=(D P ρ x).cells.getD (o+s*a1w (D P ρ i)) undef)/\
  (∀P ρ x o n s i,D P ρ (.sub x o n s i)= .agg ((D P ρ x).cells.extract (o+s*a1w (D P ρ i)) (o+s*a1w (D P ρ i)+n)))/\
  (∀P ρ x o n y s i,D P ρ (.put x o n y s i)= .agg (spl (D P ρ x).cells (o+s*a1w (D P ρ i)) (D P ρ y).cells.toList))/\
  (∀P ρ x n y,D P ρ (.cat x n y)= .agg ((D P ρ x).cells++(D P ρ y).cells))/\
  (∀P ρ x i,D P ρ (.proj x i)=c3c i (D P ρ x))/\
  (∀P ρ o k x y,D P ρ (.op2 o k x y)=a1H o k (Go.RowKit.intOf (D P ρ x)) (Go.RowKit.intOf (D P ρ y)))/\
  (∀P ρ o k x,D P ρ (.op1 o k x)=unV o k (Go.RowKit.intOf (D P ρ x)))/\
  (∀P ρ x,D P ρ (.nt x)= .bool (!a1b (D P ρ x)))/\
  (∀P ρ k x,D P ρ (.cv k x)= .int k (k.wrap (Go.RowKit.intOf (D P ρ x))))/\
  (∀P ρ c x y,D P ρ (.ite c x y)=if a1b (D P ρ c)then D P ρ x else D P ρ y)/\
  (∀P ρ n x y,D P ρ (.eqb n x y)= .bool (n !=(a1b (D P ρ x)==a1b (D P ρ y))))/\
  (∀v,a1w v=(Go.RowKit.intOf v).toNat)/\
  (∀k n,Go.RowKit.intOf (.int k n)=n)/\
  (∀b,a1b (.bool b)=b)/\
  (∀(k:IntKind) (a b:Int),a1H .add k a b= .int k (k.wrap (a+b)))/\
  (∀(k:IntKind) (a b:Int),a1H .sub k a b= .int k (k.wrap (a-b)))/\
  (∀(k:IntKind) (a b:Int),a1H .mul k a b= .int k (k.wrap (a*b)))/\
  (∀(k:IntKind) (a b:Int),a1H .quo k a b= .int k (k.wrap (a.tdiv b)))/\
  (∀(k:IntKind) (a b:Int),a1H .rem k a b= .int k (a.tmod b))/\
  (∀(k:IntKind) (a b:Int),a1H .and k a b= .int k (k.wrap (BitVec.ofInt k.bits a&&&BitVec.ofInt k.bits b).toNat))/\
  (∀(k:IntKind) (a b:Int),a1H .or k a b= .int k (k.wrap (BitVec.ofInt k.bits a|||BitVec.ofInt k.bits b).toNat))/\
  (∀(k:IntKind) (a b:Int),a1H .xor k a b= .int k (k.wrap (BitVec.ofInt k.bits a^^^BitVec.ofInt k.bits b).toNat))/\
  (∀(k:IntKind) (a b:Int),a1H .andNot k a b= .int k (k.wrap (BitVec.ofInt k.bits a&&& ~~~BitVec.ofInt k.bits b).toNat))/\
  (∀(k:IntKind) (a b:Int),a1H .shl k a b= .int k (k.wrap (a*2^(min b.toNat k.bits))))/\
  (∀(k:IntKind) (a b:Int),a1H .shr k a b= .int k (a.fdiv (2^(min b.toNat k.bits))))/\
  (∀(k:IntKind) (a b:Int),a1H .eql k a b= .bool (a==b))/\
  (∀(k:IntKind) (a b:Int),a1H .neq k a b= .bool (a !=b))/\
  (∀(k:IntKind) (a b:Int),a1H .lss k a b= .bool (a<b))/\
  (∀(k:IntKind) (a b:Int),a1H .leq k a b= .bool (a<=b))/\
  (∀(k:IntKind) (a b:Int),a1H .gtr k a b= .bool (a>b))/\
  (∀(k:IntKind) (a b:Int),a1H .geq k a b= .bool (a≥b))/\
  (∀cs:Array Value,(Value.agg cs).cells=cs)/\
  (∀n,(wd n).cells=words n)/\
  (∀n:Nat,0+n=n)/\
  (∀n:Nat,1*n=n)/\
  (∀n:Nat,n+0=n)/\
  (∀n:Nat,0*n=0)/\
  (∀n:Nat,(n:Int).toNat=n)/\
  (∀a b:Value,c3c 0 (.tuple #[a,b])=a)/\
  (∀a b:Value,c3c 1 (.tuple #[a,b])=b)/\
  (∀a b c:Value,c3c 0 (.tuple #[a,b,c])=a)/\
  (∀a b c:Value,c3c 1 (.tuple #[a,b,c])=b)/\
  (∀a b c:Value,c3c 2 (.tuple #[a,b,c])=c)/\
  (∀(k:IntKind) (n:Int),(Value.int k n).cells.toList=[.int k n]):=by
 and_intros<;>intros<;>first|rfl|simp
def cr (a b k:Nat):Nat:=(a%PW k+b%PW k)/PW k
theorem b5X (a b k:Nat):(a+b)/PW k=a/PW k+b/PW k+cr a b k:=by
 unfold cr
 have h1:=Nat.div_add_mod a (PW k)
 have h2:=Nat.div_add_mod b (PW k)
 rw[show a+b=(a%PW k+b%PW k)+PW k*(a/PW k+b/PW k)from by rw[Nat.mul_add];omega,Nat.add_mul_div_left _ _ (a1v k)]
 omega
theorem c8h (a b k:Nat):dig (a+b) k=(dig a k+dig b k+cr a b k)%18446744073709551616:=by
 unfold dig;rw[b5X];omega
def bw (a b k:Nat):Nat:=if a%PW k<b%PW k then 1 else 0
theorem c8i (a b:Nat):bw a b 0=0:=by simp[bw,a2K,Nat.mod_one]
theorem d2p (a b k:Nat):bw a b k<=1:=by unfold bw;split<;>omega
theorem c6q {p x y A B:Nat} (hA:A<p) (hB:B<p):A+p*x<B+p*y↔x<y+(if A<B then 1 else 0):=by
 constructor
 ·intro h
  rcases Nat.lt_trichotomy x y with h1|h1|h1
  ·split<;>omega
  ·subst h1;rw[if_pos (by omega)];omega
  ·exfalso
   have:p*(y+1)<=p*x:=Nat.mul_le_mul_left _ h1
   rw[Nat.mul_succ]at this;omega
 ·intro h
  split at h
  ·rename_i hlt
   rcases Nat.lt_or_ge x y with h1|h1
   ·have:p*(x+1)<=p*y:=Nat.mul_le_mul_left _ h1
    rw[Nat.mul_succ]at this;omega
   ·have:x=y:=by omega
    subst this;omega
  ·have:p*(x+1)<=p*y:=Nat.mul_le_mul_left _ (by omega)
   rw[Nat.mul_succ]at this;omega
theorem c8j (a b k:Nat):bw a b (k+1)=if dig a k<dig b k+bw a b k then 1 else 0:=by
 unfold bw
 rw[a1X,a1X]
 simp only[c6q (Nat.mod_lt a (a1v k)) (Nat.mod_lt b (a1v k))]
theorem b0p {a b m:Nat} (hm:m<8) (hs:∀j,m<j->j<8->dig a j=dig b j) (h:dig a m<dig b m):a%M<b%M:=by
 have key:∀t,m+1+t<=8->a%PW (m+1+t)<b%PW (m+1+t):=by
  intro t
  induction t with
  |zero=>
   intro _
   rw[Nat.add_zero,a1X,a1X,c6q (Nat.mod_lt a (a1v m)) (Nat.mod_lt b (a1v m))]
   omega
  |succ t ih=>
   intro ht
   rw[<-Nat.add_assoc,a1X,a1X,hs (m+1+t) (by omega) (by omega)]
   have:=ih (by omega)
   omega
 have:=key (8-(m+1)) (by omega)
 rw[show m+1+(8-(m+1))=8 from by omega]at this
 rw[a4n];exact this
def sb (a b:Nat):Nat:=a+(M-b%M)
theorem d2q (a b:Nat) {k:Nat} (hk:k<8):dig (sb a b) k=(dig a k+18446744073709551616-dig b k-bw a b k)%18446744073709551616:=by
 have hs:(sb a b+b)%M=a%M:=by
  unfold sb
  have:=Nat.mod_lt b b0n
  have e:=Nat.div_add_mod b M
  rw[show a+(M-b%M)+b=a+M*(b/M+1)from by rw[Nat.mul_succ];omega,Nat.add_mul_mod_self_left]
 have hd:dig (sb a b+b) k=dig a k:=a6y (by rw[<-a4n];exact hs) hk
 have hc:cr (sb a b) b k=bw a b k:=by
  have hle:k<=8:=by omega
  have hdv:PW k ∣ M:=by rw[a4n];exact d2m hle
  have h1:(sb a b+b)%PW k=a%PW k:=by
   rw[<-Nat.mod_mod_of_dvd _ hdv,hs,Nat.mod_mod_of_dvd _ hdv]
  have h2:((sb a b)%PW k+b%PW k)%PW k=a%PW k:=by rw[<-Nat.add_mod];exact h1
  have hA:=Nat.mod_lt (sb a b) (a1v k)
  have hB:=Nat.mod_lt b (a1v k)
  unfold cr bw
  rcases Nat.lt_or_ge ((sb a b)%PW k+b%PW k) (PW k)with h|h
  ·rw[Nat.mod_eq_of_lt h]at h2
   rw[Nat.div_eq_of_lt h,if_neg (by omega)]
  ·have e:=Nat.mod_eq_sub_mod h
   rw[e,Nat.mod_eq_of_lt (by omega)]at h2
   rw[if_pos (by omega)]
   rw[Nat.div_eq_sub_div (a1v k) h,Nat.div_eq_of_lt (by omega)]
 rw[c8h,hc]at hd
 have h1:=b0o (sb a b) k
 have h2:=b0o b k
 have h3:=b0o a k
 have h4:=d2p a b k
 omega
open Go.RX
def sg (a b:Nat):Int:=if a<b then -1 else if a=b then 0 else 1
@[irreducible] def HM:Nat:=9223372036854775808*PW 7
theorem b7Y:HM=9223372036854775808*PW 7:=by unfold HM;rfl
theorem c3W:M=2*HM:=by rw[a4n,b7Y,show(8:Nat)=7+1 from rfl,a0o];omega
theorem c6r:0<HM:=by rw[b7Y];have:=a1v 7;omega
def rs (z:Int):Nat:=(z%(M:Int)).toNat
theorem d2r (z:Int):rs z<M:=by
 unfold rs
 have:=b0n
 have h:=Int.emod_lt_of_pos z (show(0:Int)<M by omega)
 have h':=Int.emod_nonneg z (show(M:Int)≠0 by omega)
 omega
def iw (z:Int):Value:=wd (rs z)
def nm (z:Int):Value:=nb (decide (z<0)) z.natAbs
def toI (a:Nat):Int:=if a%M<HM then(a%M:Nat)else(a%M:Nat)-(M:Int)
def c6s (z:Int):Prop:= -(HM:Int)<=z/\z<HM
theorem b3y (a:Nat):c6s (toI a):=by
 have h:=Nat.mod_lt a b0n
 have:=c3W
 unfold c6s toI;split<;>omega
theorem b3z {z:Int} (h0:0<=z) (h:z<M):rs z=z.toNat:=by
 unfold rs;rw[Int.emod_eq_of_lt h0 h]
theorem b3A {z:Int} (h0:z<0) (h: -(M:Int)<=z):rs z=(z+M).toNat:=by
 unfold rs
 have:=b0n
 rw[<-Int.add_emod_right,Int.emod_eq_of_lt (by omega) (by omega)]
theorem d2s (a:Nat):rs (toI a)=a%M:=by
 have h:=Nat.mod_lt a b0n
 have:=c3W
 unfold toI
 split
 ·rw[b3z (by omega) (by omega)];omega
 ·rw[b3A (by omega) (by omega)];omega
theorem toI_rs {z:Int} (h:c6s z):toI (rs z)=z:=by
 have hM:=c3W
 have hl:=d2r z
 obtain⟨h1,h2⟩:=h
 unfold toI
 rw[Nat.mod_eq_of_lt hl]
 by_cases h0:0<=z
 ·rw[b3z h0 (by omega)]
  split<;>omega
 ·rw[b3A (by omega) (by omega)]
  split<;>omega
theorem d2t (z:Int):rs z%M=rs z:=Nat.mod_eq_of_lt (d2r z)
theorem d2u {x y:Int} (hx:c6s x) (hy:c6s y):rs x=rs y↔x=y:=
 ⟨fun h=>by rw[<-toI_rs hx,<-toI_rs hy,h],fun h=>by rw[h]⟩
theorem c8k (a:Nat):dig a 7<9223372036854775808↔a%M<HM:=by
 have e:a%M=a%PW 7+PW 7*dig a 7:=by rw[a4n];exact a1X a 7
 have hlt:=Nat.mod_lt a (a1v 7)
 rw[e,b7Y]
 constructor
 ·intro h
  have:=Nat.mul_le_mul_left (PW 7) (show dig a 7+1<=9223372036854775808 by omega)
  rw[Nat.mul_succ]at this
  rw[Nat.mul_comm 9223372036854775808];omega
 ·intro h
  rcases Nat.lt_or_ge (dig a 7) 9223372036854775808 with h1|h1
  ·exact h1
  ·have:=Nat.mul_le_mul_left (PW 7) h1
   rw[Nat.mul_comm 9223372036854775808]at h;omega
theorem b3B {b b':Bool} {m n:Nat} (h:b=b') (hm:m%M=n%M):nb b m=nb b' n:=by unfold nb;rw[h,a6z hm]
theorem c3X {m n:Nat} (hm:m%M=n%M):wd m=wd n:=by unfold wd;rw[a6z hm]
theorem d2v {i:Nat} (h:i<8):dig HM i=if i=7 then 9223372036854775808 else 0:=by
 unfold dig
 rw[b7Y]
 split
 ·rename_i e;subst e
  rw[Nat.mul_div_cancel _ (a1v 7)]
 ·obtain⟨d,hd⟩:∃d,7=(d+1)+i:=⟨7-i-1,by omega⟩
  rw[hd,a7M,<-Nat.mul_assoc,Nat.mul_div_cancel _ (a1v i),a0o,<-Nat.mul_assoc,Nat.mul_mod_left]
theorem d5q:HM<M:=by have:=c3W;have:=c6r;omega
theorem b2m:spl (words 0) 7 [.int .u64 9223372036854775808]=words HM:=by
 have:=b3w (dig 0) (show 7<8 by omega) 9223372036854775808
 refine Eq.trans this (b3x fun i hi=> ?_)
 rw[d2v hi,a4o]
theorem a5q {z:Int} (h:z<0) (hm:z.natAbs<M):wd (sb 0 z.natAbs)=iw z:=by
 unfold iw
 refine c3X ?_
 rw[b3A h (by omega)]
 unfold sb
 rw[Nat.mod_eq_of_lt hm]
 congr 1
 omega
theorem b7Z {z:Int} (h:0<=z) (hm:z.natAbs<M):wd z.natAbs=iw z:=by
 unfold iw
 rw[b3z h (by omega)]
 congr 1
 omega
theorem sg_pos {a b:Nat}:sg a b>0↔b<a:=by unfold sg;split<;>(try split)<;>omega
theorem sg_zero {a b:Nat}:sg a b=0↔a=b:=by unfold sg;split<;>(try split)<;>omega
end Go.WD
/- Contracts of package wide: words. -/
namespace Go.Proofs.YtkcjbfoejpfbbaaGreatDoor
open Go.Proofs.Tryz
open Go.RowKit Go.RX Go.WD Go.IntWalk
theorem b8a (b:Bool) (n:Nat):Value.agg ((#[Value.bool b]++words n).extract 1 9)=wd n:=rfl
theorem a4P (b:Bool) (n:Nat):(#[Value.bool b]++words n).size=9:=rfl
theorem b8b (b:Bool) (n:Nat):a0u (#[Value.bool b]++words n):=by
 intro c hc
 simp only[Array.toList_append,List.mem_append]at hc
 rcases hc with h|h
 ·simp at h;subst h;rfl
 ·exact words_one n c h
theorem b0q:a0G prog 230=wd 0:=by
 have:a0G prog 230= .agg #[.int .u64 0,.int .u64 0,.int .u64 0,.int .u64 0,.int .u64 0,.int .u64 0,.int .u64 0,.int .u64 0]:=by kernel_rfl
 rw[this];simp[wd,words,wf,a4o]
theorem b0r:a0G prog 53=wd 0:=by
 have:a0G prog 53= .agg #[.int .u64 0,.int .u64 0,.int .u64 0,.int .u64 0,.int .u64 0,.int .u64 0,.int .u64 0,.int .u64 0]:=by kernel_rfl
 rw[this];simp[wd,words,wf,a4o]
theorem a4p (x y c:Nat) (hx:x<18446744073709551616) (hy:y<18446744073709551616) (hc:c<=1):Own prog 242 [.int .u64 x,.int .u64 y,.int .u64 c] (.tuple #[.int .u64 (((x+y+c)%18446744073709551616:Nat):Int),.int .u64 (((x+y+c)/18446744073709551616:Nat):Int)]):=fun w=>by
 show(callFunc _ #[_,_,_]).run _ w=_
 rw[run_callFunc_extern Tryz.func242 (by kernel_rfl) (by kernel_rfl) (by kernel_rfl) (e:=add64Entry) (by kernel_rfl),run_add64 x y c (by omega) (by omega) (by omega) (by omega)]
 simp only[Result.andThen]
 congr 5<;>omega
theorem a6A (x y b:Nat) (hb:b<=1):Own prog 243 [.int .u64 x,.int .u64 y,.int .u64 b] (.tuple #[.int .u64 (((x+18446744073709551616-y-b)%18446744073709551616:Nat):Int),.int .u64 ((if x<y+b then 1 else 0:Nat):Int)]):=fun w=>by
 show(callFunc _ #[_,_,_]).run _ w=_
 rw[run_callFunc_extern Tryz.func243 (by kernel_rfl) (by kernel_rfl) (by kernel_rfl) (e:=sub64Entry) (by kernel_rfl),run_sub64 x y b hb]
 rfl
theorem c3Y (f g:Nat->Nat) (k i:Nat):(if i=k then f k else if i<k then f i else g i)=if i<k+1 then f i else g i:=by
 by_cases h1:i=k
 ·subst h1;rw[if_pos rfl,if_pos (by omega)]
 ·rw[if_neg h1]
  by_cases h2:i<k
  ·rw[if_pos h2,if_pos (by omega)]
  ·rw[if_neg h2,if_neg (by omega)]
theorem a6B (a b:Nat):Det prog 219 [wd a,wd b] (.tuple #[wd (sb a b),.int .u64 (bw a b 8)]):=by
 refine a0z a0r b3t (by kernel_rfl) rfl ?_
 refine a0m ⟨words_size a,words_one a⟩ (a0m ⟨words_size b,words_one b⟩ ?_)
 refine⟨fun l=>∃k,k<=8/\l=[.int .u64 (bw a b k),.int .i64 (k:Nat),.agg (wf fun j=>if j<k then dig (sb a b) j else dig a j)],fun l=>(8-intOf (l.getD 1 undef)).toNat,⟨0,by omega,?_⟩,?_⟩
 ·rw[c8i];rfl
 ·rintro vals-⟨k,hk,rfl⟩
  refine a0m ⟨_,rfl⟩ (a1R (b:=decide ((k:Int)<8)) rfl (fun h=> ?_) (fun h=> ?_))
  ·have hk:k<8:=by simp at h;omega
   refine a0m ⟨_,_,rfl⟩ (a0m ⟨?_,?_⟩ ?_)
   ·show(0:Int)<=(k:Int);omega
   ·show(k:Int)<8;omega
   ·refine d1W (a6A (dig a k) (dig b k) (bw a b k) (d2p _ _ _)) ?_ ?_
    ·simp only[rxs,b7X _ hk,a1M b hk,Nat.lt_irrefl,if_false]
    ·refine a0m ⟨_,rfl,Nat.zero_lt_succ _⟩ (a0m ⟨_,rfl,Nat.lt_succ_self _⟩ (a0m ⟨rfl,?_⟩ ?_))
     ·exact b7V _ _
     ·refine⟨⟨k+1,by omega,?_⟩,?_⟩
      ·have e:(k:Int)+1=((k+1:Nat):Int):=by omega
       simp only[rxs,<-c8j,<-d2q a b hk,e,i64_in _ (show -9223372036854775808<=((k+1:Nat):Int)/\((k+1:Nat):Int)<=9223372036854775807 from by omega)]
       rw[b3w _ hk,a2n (g:=fun j=>if j<k+1 then dig (sb a b) j else dig a j) (fun i _=> ?_)]
       exact c3Y _ _ k i
      ·simp only[rxs,i64_in _ (show -9223372036854775808<=(k:Int)+1/\(k:Int)+1<=9223372036854775807 from by omega)]
       omega
  ·have hk:k=8:=by simp at h;omega
   subst hk
   refine a0X ?_ rfl
   simp only[rxs,a2S,b3x (n:=sb a b) (f:=fun j=>if j<8 then dig (sb a b) j else dig a j) (fun i hi=>by rw[if_pos hi])]
   rfl
theorem b8c (a b:Nat):Det prog 218 [wd a,wd b] (.int .i64 (sg (a%M) (b%M))):=by
 refine a0z a0r b3v (by kernel_rfl) rfl ?_
 refine a0m ⟨words_size a,words_one a⟩ (a0m ⟨words_size b,words_one b⟩ ?_)
 refine⟨fun l=>∃k,k<=8/\(∀j,k<=j->j<8->dig a j=dig b j)/\l=[.int .i64 0,.int .i64 ((k:Int)-1)],fun l=>(intOf (l.getD 1 undef)+1).toNat,⟨8,by omega,fun j h1 h2=>by omega,rfl⟩,?_⟩
 rintro vals-⟨k,hk,hs,rfl⟩
 refine a0m ⟨_,rfl⟩ (a1R (b:=decide ((k:Int)-1≥0)) rfl (fun h=> ?_) (fun h=> ?_))
 ·have hk0:0<k:=by simp at h;omega
  obtain⟨m,rfl⟩:∃m,k=m+1:=⟨k-1,by omega⟩
  have hm:m<8:=by omega
  have em:((m+1:Nat):Int)-1=(m:Int):=by omega
  rw[em]
  refine a0m ⟨_,_,rfl⟩ (a0m ⟨?_,?_⟩ (a0m ⟨dig a m,?_⟩ (a0m ⟨dig b m,?_⟩ ?_)))
  ·show(0:Int)<=(m:Int);omega
  ·show(m:Int)<8;omega
  ·simp only[rxs,a1M a hm]
  ·simp only[rxs,a1M b hm]
  ·refine a1R (b:=decide (dig a m≠dig b m)) ?_ (fun h1=> ?_) (fun h1=> ?_)
   ·simp only[rxs,a1M a hm,a1M b hm]
    congr 1
    rw[Bool.eq_iff_iff];simp;omega
   ·have h1:dig a m≠dig b m:=by simpa using h1
    refine a1R (b:=decide (dig a m<dig b m)) ?_ (fun h2=> ?_) (fun h2=> ?_)
    ·simp only[rxs,a1M a hm,a1M b hm]
     congr 1
     rw[Bool.eq_iff_iff];simp
    ·have:=b0p hm (fun j h h'=>hs j (by omega) h') (by simpa using h2)
     exact a0X rfl (by simp[D,a2S,sg,this])
    ·have:=b0p (a:=b) (b:=a) hm (fun j h h'=>(hs j (by omega) h').symm) (by simp at h2;omega)
     exact a0X rfl (by simp only[rxs,a2S,sg];rw[if_neg (by omega),if_neg (by omega)])
   ·have h1:dig a m=dig b m:=by simpa using h1
    refine⟨⟨m,by omega,fun j h h'=> ?_,?_⟩,?_⟩
    ·rcases Nat.eq_or_lt_of_le h with rfl|h
     ·exact h1
     ·exact hs j (by omega) h'
    ·simp only[rxs,i64_in _ (show -9223372036854775808<=(m:Int)-1/\(m:Int)-1<=9223372036854775807 from by omega)]
    ·simp only[rxs,i64_in _ (show -9223372036854775808<=(m:Int)-1/\(m:Int)-1<=9223372036854775807 from by omega)]
     omega
 ·have hk0:k=0:=by simp at h;omega
  subst hk0
  refine a0X rfl ?_
  have:a%M=b%M:=by rw[a4n];exact a7N fun i hi=>hs i (by omega) hi
  simp[D,a2S,sg,this]
open Go.RowKit Go.RX Go.WD Go.IntWalk
theorem b2n {P:Program} {e:TypeId} (hu:P.underlying e=some (.int .u64)) (d x y:Nat) (w:World):(Op.equalIn (d+1) e (.int .u64 x) (.int .u64 y)).run P w= .ok (decide (x=y)) w:=by
 simp only[Op.equalIn,Sem.run_bind,run_underlying hu,Result.andThen_ok,if_true,Sem.run_pure]
 congr 1
 rw[Bool.eq_iff_iff];simp;omega
theorem b0s {P:Program} {e:TypeId} (hT:a1V P e=true) (hc:P.cellsOf e=1) (hag:a0I P e=false) (hu:P.underlying e=some (.int .u64)) (d:Nat) (f g:Nat->Nat) (w:World):∀is:List Nat,(∀i∈is,i<8)->
  (Op.eqItems (d+1) e (P.cellsOf e) (wf f) (wf g) is).run P w= .ok (decide (∀i∈is,f i=g i)) w:=by
 intro is
 induction is with
 |nil=>intro _;simp[Op.eqItems]
 |cons i is ih=>
  intro h
  have hi:=h i (by simp)
  have hp:∀f:Nat->Nat,(part e (wf f) (i*P.cellsOf e)).run P w= .ok (.int .u64 (f i)) w:=fun f=>by
   rw[a6f hT (by rw[c8g,hc];omega) (by omega) w,hag,hc,Nat.mul_one]
   simp only[Bool.false_eq_true,if_false,b7X f hi]
  simp only[Op.eqItems,Sem.run_bind,hp,Result.andThen_ok,b2n hu]
  by_cases he:f i=g i
  ·simp only[he,decide_true,Bool.not_true,Bool.false_eq_true,if_false,ih (fun j hj=>h j (by simp[hj]))]
   congr 1
   rw[Bool.eq_iff_iff];simp[he]
  ·simp[he]
theorem b0t (a b:Nat):(∀i∈List.range 8,dig a i=dig b i)↔a%M=b%M:=
 ⟨fun h=>by rw[a4n];exact a7N fun i hi=>h i (List.mem_range.2 hi),fun h i hi=>by rw[a4n]at h;exact a6y h (List.mem_range.1 hi)⟩
theorem c8l {P:Program} {o:Oper} {t t' e:TypeId} {x y:Operand} {va vb:Value} {a b:Nat} (ho:o.op= .binOp .neq t x y t') (hva:va=wd a) (hvb:vb=wd b) (hx:a0g [x,y] [va,vb] x=va) (hy:a0g [x,y] [va,vb] y=vb)
  (hu:P.underlying t=some (.array 8 e)) (hg:P.eqGuardType P.depth t=false) (hT:a1V P e=true) (hc:P.cellsOf e=1) (hag:a0I P e=false) (hue:P.underlying e=some (.int .u64)):
  Yld P o [va,vb] (.bool (!decide (a%M=b%M))):=fun w=>by
 have hos:o.op.operands.toList=[x,y]:=by simp[ho,Op.operands]
 obtain⟨i,hi⟩:∃i,P.info? e=some i:=by
  unfold a1V at hT;rw[Bool.and_eq_true,Option.isSome_iff_exists]at hT;exact hT.1
 subst hva;subst hvb
 have hr:(Op.equal t (wd a) (wd b)).run P w= .ok (decide (a%M=b%M)) w:=by
  show(Op.equalIn (9999+1) t (.agg (wf (dig a))) (.agg (wf (dig b)))).run P w=_
  rw[run_equalIn_array w 9999 _ _ hu hi,show(9999:Nat)=9998+1 from rfl,b0s hT hc hag hue 9998 (dig a) (dig b) w _ (fun i hi=>List.mem_range.1 hi)]
  congr 1
  rw[Bool.eq_iff_iff,decide_eq_true_iff,decide_eq_true_iff];exact b0t a b
 rw[hos]
 simp only[execOp,ho,hx,hy]
 simp only[wd]at hr⊢
 simp[eqGuard,binOp,hg,hr]
section
variable {o:Oper} {x y:Operand} {va vb:Value} {a b:Nat}
theorem c8m (ho:o.op= .binOp .neq 53 x y 53) (hva:va=wd a) (hvb:vb=wd b) (hx:a0g [x,y] [va,vb] x=va) (hy:a0g [x,y] [va,vb] y=vb):Yld prog o [va,vb] (.bool (!decide (a%M=b%M))):=
 c8l (e:=34) ho hva hvb hx hy (by kernel_rfl) (by kernel_rfl) (by kernel_rfl) (by kernel_rfl) (by kernel_rfl) (by kernel_rfl)
end
end Go.Proofs.YtkcjbfoejpfbbaaGreatDoor
/- Contracts of package wide: numbers. -/
namespace Go.Proofs.YtkcjbfoejpfbbaaGreatDoor
open Go.Proofs.Tryz
open Go.RowKit Go.RX Go.WD Go.IntWalk
theorem d5r (d:Nat) (h:d<18446744073709551616):((d:Int).fdiv (2^(min ((63:Int).toNat) (IntKind.bits .u64)))==1)=decide (¬d<9223372036854775808):=by
 have e:(2:Int)^(min ((63:Int).toNat) (IntKind.bits .u64))=9223372036854775808:=by decide
 rw[e,Int.fdiv_eq_ediv_of_nonneg _ (by omega),Bool.eq_iff_iff]
 simp
 omega
theorem b2o {a:Nat} (h:¬a%M<HM):sb 0 a%M=(toI a).natAbs%M:=by
 have hl:=Nat.mod_lt a b0n
 have:=c3W
 unfold sb toI
 rw[if_neg h]
 congr 1
 omega
theorem b5Y (a:Nat):(toI a).natAbs<M:=by
 obtain⟨h1,h2⟩:=b3y a
 have:=c3W
 omega
theorem c3Z (a:Nat):Det prog 166 [wd a] (nm (toI a)):=by
 have hl:=Nat.mod_lt a b0n
 have hM:=c3W
 have htop:=c8k a
 have hc:∀ρ:List Value,D prog (wd a::ρ) (.op2 .eql .u64 (.op2 .shr .u64 (.cell (.v 0) 7 0 noI) (.k (.int .u64 (63)))) (.k (.int .u64 (1))))= .bool (decide (¬a%M<HM)):=fun ρ=>by
  simp only[rxs,a1M a (show 7<8 by omega)]
  rw[d5r _ (b0o a 7)]
  congr 1
  rw[Bool.eq_iff_iff,decide_eq_true_iff,decide_eq_true_iff,htop]
 refine a0z a0r b7Q (by kernel_rfl) rfl (a0m ⟨words_size a,words_one a⟩ (a0m ⟨dig a 7,?_⟩ (a1R (hc []) (fun h=> ?_) (fun h=> ?_))))
 ·simp only[rxs,a1M a (show 7<8 by omega)]
 ·have h:¬a%M<HM:=by simpa using h
  refine a2r (a6B 0 a) (by simp only[rxs,b0q];rfl) ?_
  refine a0m ⟨_,rfl,Nat.zero_lt_succ _⟩ (a0m ⟨_,rfl,Nat.lt_succ_self _⟩ (a0m ⟨words_size _,words_one _⟩ (a0X rfl ?_)))
  simp only[List.map_cons,List.map_nil,a2S]
  rw[D,List.cons_append,List.nil_append,hc]
  simp only[rxs]
  show nb _ (sb 0 a)=nm (toI a)
  exact b3B (by rw[Bool.eq_iff_iff];simp[toI,if_neg h];omega) (b2o h)
 ·have h:a%M<HM:=by simpa using h
  refine a0X rfl ?_
  simp only[List.map_cons,List.map_nil,a2S]
  rw[D,hc]
  simp only[rxs]
  show nb _ a=nm (toI a)
  refine b3B (by rw[Bool.eq_iff_iff];simp[toI,if_pos h];omega) ?_
  unfold toI;rw[if_pos h,Int.natAbs_natCast,Nat.mod_mod]
theorem a8W (b:Bool) (n:Nat):(nb b n).cells= #[.bool b]++words n:=rfl
def b0u (z:Int):Value:=if -(HM:Int)<=z/\z<HM then .tuple #[iw z,.int .i64 0]else .tuple #[wd 0,.int .i64 6]
theorem c4a (z:Int) (hz:z.natAbs<M):Det prog 165 [nm z] (b0u z):=by
 have hH:=d5q
 refine a0z a0r b7S (by kernel_rfl) rfl (a0m ⟨a4P _ _,b8b _ _⟩ (a2r (b8c z.natAbs HM) ?_ (a0m ⟨_,rfl⟩ ?_)))
 ·simp only[rxs,nm,a8W,b8a,b0q,b2m]
  rfl
 ·rw[Nat.mod_eq_of_lt hz,Nat.mod_eq_of_lt hH]
  refine a1R (b:=decide (sg z.natAbs HM>0)) rfl (fun h=> ?_) (fun h=> ?_)
  ·have h:=sg_pos.1 (of_decide_eq_true h)
   refine a0X rfl ?_
   simp only[rxs,a2S,b0r,b0u]
   rw[if_neg (by omega)]
  ·have h:¬HM<z.natAbs:=fun e=>of_decide_eq_false h (sg_pos.2 e)
   refine a1R (b:=sg z.natAbs HM==0) rfl (fun h1=> ?_) (fun h1=> ?_)
   ·have h1:=sg_zero.1 (by simpa using h1)
    refine a0m ⟨_,rfl⟩ (a1R (b:= !decide (z<0)) rfl (fun h2=> ?_) (fun h2=> ?_))
    ·have h2:¬z<0:=by simpa using h2
     refine a0X rfl ?_
     simp only[rxs,a2S,b0r,b0u]
     rw[if_neg (by omega)]
    ·have h2:z<0:=by simpa using h2
     refine a2r (a6B 0 z.natAbs) ?_ (a0m ⟨_,rfl,Nat.zero_lt_succ _⟩ (a0m ⟨_,rfl,Nat.lt_succ_self _⟩ (a0m ⟨words_size _,words_one _⟩ (a0X rfl ?_))))
     ·simp only[rxs,nm,a8W,b8a,b0q];rfl
     ·simp only[rxs,a2S,b0u]
      rw[if_pos (by omega),<-a5q h2 hz];rfl
   ·have h1:z.natAbs≠HM:=fun e=>by simp[sg_zero.2 e]at h1
    refine a0m ⟨_,rfl⟩ (a1R (b:=decide (z<0)) rfl (fun h2=> ?_) (fun h2=> ?_))
    ·have h2:z<0:=by simpa using h2
     refine a2r (a6B 0 z.natAbs) ?_ (a0m ⟨_,rfl,Nat.zero_lt_succ _⟩ (a0m ⟨_,rfl,Nat.lt_succ_self _⟩ (a0m ⟨words_size _,words_one _⟩ (a0X rfl ?_))))
     ·simp only[rxs,nm,a8W,b8a,b0q];rfl
     ·simp only[rxs,a2S,b0u]
      rw[if_pos (by omega),<-a5q h2 hz];rfl
    ·have h2:¬z<0:=by simpa using h2
     refine a0X rfl ?_
     simp only[b0u]
     rw[if_pos (by omega),<-b7Z (by omega) hz]
     rfl
open Go.RowKit Go.RX Go.WD Go.IntWalk
theorem b8d (z:Int):∃a b,b0u z= .tuple #[wd a,b]:=by
 unfold b0u;split
 ·exact⟨_,_,rfl⟩
 ·exact⟨_,_,rfl⟩
end Go.Proofs.YtkcjbfoejpfbbaaGreatDoor

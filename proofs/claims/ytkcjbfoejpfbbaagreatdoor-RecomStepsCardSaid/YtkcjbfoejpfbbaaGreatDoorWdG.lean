/- Numbers of eight words. -/
import Derived.Test.YtkcjbfoejpfbbaaGreatDoorRxH
import Derived.Test.YtkcjbfoejpfbbaaGreatDoorWdT
import Derived.Laws.Externs
import Derived.Shelf.Spec.BitsCarry
import Derived.IntWalk
import Derived.ChangeKeysEq
namespace Go.WD
open Go.RX
theorem d0i (k:IntKind) (n:Int):a0J (Value.int k n).cells:=by intro c hc;simp[a6F]at hc;subst hc;rfl
@[irreducible] def PW (k:Nat):Nat:=2^(64*k)
theorem a9w:PW 0=1:=by unfold PW;rfl
theorem a6Q (k:Nat):PW (k+1)=PW k*18446744073709551616:=by
 unfold PW;rw[Nat.mul_succ,Nat.pow_add]
theorem c8D (k:Nat):0<PW k:=by unfold PW;exact Nat.pow_pos (by omega)
theorem d3h {i j:Nat} (h:i<=j):PW i<=PW j:=by unfold PW;exact Nat.pow_le_pow_right (by omega) (by omega)
@[irreducible] def M:Nat:=PW 8
theorem b6k:M=PW 8:=by unfold M;rfl
theorem d6r:0<M:=by rw[b6k];exact c8D 8
def dig (n i:Nat):Nat:=n/PW i%18446744073709551616
theorem d3i (n i:Nat):dig n i<18446744073709551616:=Nat.mod_lt _ (by omega)
theorem b3W (n k:Nat):n%PW (k+1)=n%PW k+PW k*dig n k:=by rw[a6Q,Nat.mod_mul];rfl
def wf (f:Nat->Nat):Array Value:= #[.int .u64 (f 0),.int .u64 (f 1),.int .u64 (f 2),.int .u64 (f 3),.int .u64 (f 4),.int .u64 (f 5),.int .u64 (f 6),.int .u64 (f 7)]
theorem d3j (f:Nat->Nat):a0J (wf f):=by
 intro c hc
 simp[wf]at hc
 rcases hc with h|h|h|h|h|h|h|h<;>subst h<;>rfl
theorem d3k {i:Nat} (h:i<8):i=0\/i=1\/i=2\/i=3\/i=4\/i=5\/i=6\/i=7:=by omega
theorem d3l (f:Nat->Nat) {i:Nat} (h:i<8):(wf f).getD i undef= .int .u64 (f i):=by
 rcases d3k h with h|h|h|h|h|h|h|h<;>subst h<;>rfl
def words (n:Nat):Array Value:=wf (dig n)
def wd (n:Nat):Value:= .agg (words n)
theorem a8j (n:Nat):(words n).size=8:=rfl
theorem b1e (n:Nat):a0J (words n):=d3j _
theorem b1f (n:Nat) {i:Nat} (h:i<8):(words n).getD i undef= .int .u64 (dig n i):=d3l _ h
theorem rxs:(∀(f:SV->Value) (a:SV) (l:List SV),List.map f (a::l)=f a::List.map f l)/\
  (∀f:SV->Value,List.map f []=[])/\
  (∀(a:Value) (l m:List Value),(a::l)++m=a::(l++m))/\
  (∀l:List Value,[]++l=l)/\
  (∀(a:Value) (l:List Value) (d:Value),(a::l).getD 0 d=a)/\
  (∀(a:Value) (l:List Value) (n:Nat) (d:Value),(a::l).getD (n+1) d=l.getD n d)/\
  (∀P ρ i,D P ρ (.v i)=ρ.getD i undef)/\
  (∀P ρ c,D P ρ (.k c)=c)/\
  (∀P ρ t,D P ρ (.z t)=a0O P t)/\
  (∀P ρ x,D P ρ (.ag x)= .agg (D P ρ x).cells)/\
  (∀P ρ x o s i,D P ρ (.cell x o s i)=(D P ρ x).cells.getD (o+s*a1R (D P ρ i)) undef)/\
  (∀P ρ x o n s i,D P ρ (.sub x o n s i)= .agg ((D P ρ x).cells.extract (o+s*a1R (D P ρ i)) (o+s*a1R (D P ρ i)+n)))/\
  (∀P ρ x o n y s i,D P ρ (.put x o n y s i)= .agg (spl (D P ρ x).cells (o+s*a1R (D P ρ i)) (D P ρ y).cells.toList))/\
  (∀P ρ x n y,D P ρ (.cat x n y)= .agg ((D P ρ x).cells++(D P ρ y).cells))/\
  (∀P ρ x i,D P ρ (.proj x i)=c5i i (D P ρ x))/\
  (∀P ρ o k x y,D P ρ (.op2 o k x y)=a1y o k (Go.RowKit.intOf (D P ρ x)) (Go.RowKit.intOf (D P ρ y)))/\
  (∀P ρ o k x,D P ρ (.op1 o k x)=unV o k (Go.RowKit.intOf (D P ρ x)))/\
  (∀P ρ x,D P ρ (.nt x)= .bool (!a1r (D P ρ x)))/\
  (∀P ρ k x,D P ρ (.cv k x)= .int k (k.wrap (Go.RowKit.intOf (D P ρ x))))/\
  (∀P ρ c x y,D P ρ (.ite c x y)=if a1r (D P ρ c)then D P ρ x else D P ρ y)/\
  (∀P ρ n x y,D P ρ (.eqb n x y)= .bool (n !=(a1r (D P ρ x)==a1r (D P ρ y))))/\
  (∀v,a1R v=(Go.RowKit.intOf v).toNat)/\
  (∀k n,Go.RowKit.intOf (.int k n)=n)/\
  (∀b,a1r (.bool b)=b)/\
  (∀(k:IntKind) (a b:Int),a1y .add k a b= .int k (k.wrap (a+b)))/\
  (∀(k:IntKind) (a b:Int),a1y .sub k a b= .int k (k.wrap (a-b)))/\
  (∀(k:IntKind) (a b:Int),a1y .mul k a b= .int k (k.wrap (a*b)))/\
  (∀(k:IntKind) (a b:Int),a1y .quo k a b= .int k (k.wrap (a.tdiv b)))/\
  (∀(k:IntKind) (a b:Int),a1y .rem k a b= .int k (a.tmod b))/\
  (∀(k:IntKind) (a b:Int),a1y .and k a b= .int k (k.wrap (BitVec.ofInt k.bits a&&&BitVec.ofInt k.bits b).toNat))/\
  (∀(k:IntKind) (a b:Int),a1y .or k a b= .int k (k.wrap (BitVec.ofInt k.bits a|||BitVec.ofInt k.bits b).toNat))/\
  (∀(k:IntKind) (a b:Int),a1y .xor k a b= .int k (k.wrap (BitVec.ofInt k.bits a^^^BitVec.ofInt k.bits b).toNat))/\
  (∀(k:IntKind) (a b:Int),a1y .andNot k a b= .int k (k.wrap (BitVec.ofInt k.bits a&&& ~~~BitVec.ofInt k.bits b).toNat))/\
  (∀(k:IntKind) (a b:Int),a1y .shl k a b= .int k (k.wrap (a*2^(min b.toNat k.bits))))/\
  (∀(k:IntKind) (a b:Int),a1y .shr k a b= .int k (a.fdiv (2^(min b.toNat k.bits))))/\
  (∀(k:IntKind) (a b:Int),a1y .eql k a b= .bool (a==b))/\
  (∀(k:IntKind) (a b:Int),a1y .neq k a b= .bool (a !=b))/\
  (∀(k:IntKind) (a b:Int),a1y .lss k a b= .bool (a<b))/\
  (∀(k:IntKind) (a b:Int),a1y .leq k a b= .bool (a<=b))/\
  (∀(k:IntKind) (a b:Int),a1y .gtr k a b= .bool (a>b))/\
  (∀(k:IntKind) (a b:Int),a1y .geq k a b= .bool (a≥b))/\
  (∀cs:Array Value,(Value.agg cs).cells=cs)/\
  (∀n,(wd n).cells=words n)/\
  (∀n:Nat,0+n=n)/\
  (∀n:Nat,1*n=n)/\
  (∀n:Nat,n+0=n)/\
  (∀n:Nat,0*n=0)/\
  (∀n:Nat,(n:Int).toNat=n)/\
  (∀a b:Value,c5i 0 (.tuple #[a,b])=a)/\
  (∀a b:Value,c5i 1 (.tuple #[a,b])=b)/\
  (∀a b c:Value,c5i 0 (.tuple #[a,b,c])=a)/\
  (∀a b c:Value,c5i 1 (.tuple #[a,b,c])=b)/\
  (∀a b c:Value,c5i 2 (.tuple #[a,b,c])=c)/\
  (∀(k:IntKind) (n:Int),(Value.int k n).cells.toList=[.int k n]):=by
 and_intros<;>intros<;>first|rfl|simp
open Go.RX
@[irreducible] def HM:Nat:=9223372036854775808*PW 7
theorem d3m:HM=9223372036854775808*PW 7:=by unfold HM;rfl
theorem d8s:M=2*HM:=by rw[b6k,d3m,show(8:Nat)=7+1 from rfl,a6Q];omega
def toI (a:Nat):Int:=if a%M<HM then(a%M:Nat)else(a%M:Nat)-(M:Int)
theorem b8R (a:Nat):dig a 7<9223372036854775808↔a%M<HM:=by
 have e:a%M=a%PW 7+PW 7*dig a 7:=by rw[b6k];exact b3W a 7
 have hlt:=Nat.mod_lt a (c8D 7)
 rw[e,d3m]
 constructor
 ·intro h
  have:=Nat.mul_le_mul_left (PW 7) (show dig a 7+1<=9223372036854775808 by omega)
  rw[Nat.mul_succ]at this
  rw[Nat.mul_comm 9223372036854775808];omega
 ·intro h
  rcases Nat.lt_or_ge (dig a 7) 9223372036854775808 with h1|h1
  ·exact h1
  ·have:=Nat.mul_le_mul_left (PW 7) h1
   rw[Nat.mul_comm 9223372036854775808]at h;omega
end Go.WD
/- Contracts of package wide: words. -/
namespace Go.Proofs.YtkcjbfoejpfbbaaGreatDoor
open Go.Proofs.Tryz
open Go.RowKit Go.RX Go.WD Go.IntWalk
theorem b8S (x y c:Nat) (hx:x<18446744073709551616) (hy:y<18446744073709551616) (hc:c<=1):Own prog 242 [.int .u64 x,.int .u64 y,.int .u64 c] (.tuple #[.int .u64 (((x+y+c)%18446744073709551616:Nat):Int),.int .u64 (((x+y+c)/18446744073709551616:Nat):Int)]):=fun w=>by
 show(callFunc _ #[_,_,_]).run _ w=_
 rw[run_callFunc_extern Tryz.func242 (by kernel_rfl) (by kernel_rfl) (by kernel_rfl) (e:=add64Entry) (by kernel_rfl),run_add64 x y c (by omega) (by omega) (by omega) (by omega)]
 simp only[Result.andThen]
 congr 5<;>omega
theorem b8T (x y b:Nat) (hb:b<=1):Own prog 243 [.int .u64 x,.int .u64 y,.int .u64 b] (.tuple #[.int .u64 (((x+18446744073709551616-y-b)%18446744073709551616:Nat):Int),.int .u64 ((if x<y+b then 1 else 0:Nat):Int)]):=fun w=>by
 show(callFunc _ #[_,_,_]).run _ w=_
 rw[run_callFunc_extern Tryz.func243 (by kernel_rfl) (by kernel_rfl) (by kernel_rfl) (e:=sub64Entry) (by kernel_rfl),run_sub64 x y b hb]
 rfl
end Go.Proofs.YtkcjbfoejpfbbaaGreatDoor

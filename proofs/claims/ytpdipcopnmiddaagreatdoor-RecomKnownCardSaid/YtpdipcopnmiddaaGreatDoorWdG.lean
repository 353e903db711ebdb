/- Numbers of eight words. -/
import Derived.Test.YtpdipcopnmiddaaGreatDoorRxH
import Derived.Test.YtpdipcopnmiddaaGreatDoorWdT
import Derived.Laws.Externs
import Derived.Shelf.Spec.BitsCarry
import Derived.IntWalk
import Derived.ChangeKeysEq
namespace Go.WD
open Go.RX

@[irreducible] def PW (k : Nat) : Nat := 2 ^ (64 * k)
def dig (n i : Nat) : Nat := n / PW i % 18446744073709551616
def wf (f : Nat -> Nat) : Array Value := #[.int .u64 (f 0),.int .u64 (f 1),.int .u64 (f 2),.int .u64 (f 3),.int .u64 (f 4),.int .u64 (f 5),.int .u64 (f 6),.int .u64 (f 7)]
def words (n : Nat) : Array Value := wf (dig n)
def wd (n : Nat) : Value := .agg (words n)
theorem rxs : (∀ (f : SV -> Value) (a : SV) (l : List SV),List.map f (a :: l) = f a :: List.map f l) /\
  (∀ f : SV -> Value,List.map f [] = []) /\
  (∀ (a : Value) (l m : List Value),(a :: l) ++ m = a :: (l ++ m)) /\
  (∀ l : List Value,[] ++ l = l) /\
  (∀ (a : Value) (l : List Value) (d : Value),(a :: l).getD 0 d = a) /\
  (∀ (a : Value) (l : List Value) (n : Nat) (d : Value),(a :: l).getD (n + 1) d = l.getD n d) /\
  (∀ P ρ i,D P ρ (.v i) = ρ.getD i undef) /\
  (∀ P ρ c,D P ρ (.k c) = c) /\
  (∀ P ρ t,D P ρ (.z t) = zeroV P t) /\
  (∀ P ρ x,D P ρ (.ag x) = .agg (D P ρ x).cells) /\
  (∀ P ρ x o s i,D P ρ (.cell x o s i) = (D P ρ x).cells.getD (o + s * ixOf (D P ρ i)) undef) /\
  (∀ P ρ x o n s i,D P ρ (.sub x o n s i) = .agg ((D P ρ x).cells.extract (o + s * ixOf (D P ρ i)) (o + s * ixOf (D P ρ i) + n))) /\
  (∀ P ρ x o n y s i,D P ρ (.put x o n y s i) = .agg (spl (D P ρ x).cells (o + s * ixOf (D P ρ i)) (D P ρ y).cells.toList)) /\
  (∀ P ρ x n y,D P ρ (.cat x n y) = .agg ((D P ρ x).cells ++ (D P ρ y).cells)) /\
  (∀ P ρ x i,D P ρ (.proj x i) = tupV i (D P ρ x)) /\
  (∀ P ρ o k x y,D P ρ (.op2 o k x y) = binV o k (Go.RowKit.intOf (D P ρ x)) (Go.RowKit.intOf (D P ρ y))) /\
  (∀ P ρ o k x,D P ρ (.op1 o k x) = unV o k (Go.RowKit.intOf (D P ρ x))) /\
  (∀ P ρ x,D P ρ (.nt x) = .bool (!boolOf (D P ρ x))) /\
  (∀ P ρ k x,D P ρ (.cv k x) = .int k (k.wrap (Go.RowKit.intOf (D P ρ x)))) /\
  (∀ P ρ c x y,D P ρ (.ite c x y) = if boolOf (D P ρ c) then D P ρ x else D P ρ y) /\
  (∀ P ρ n x y,D P ρ (.eqb n x y) = .bool (n != (boolOf (D P ρ x) == boolOf (D P ρ y)))) /\
  (∀ v,ixOf v = (Go.RowKit.intOf v).toNat) /\
  (∀ k n,Go.RowKit.intOf (.int k n) = n) /\
  (∀ b,boolOf (.bool b) = b) /\
  (∀ (k : IntKind) (a b : Int),binV .add k a b = .int k (k.wrap (a + b))) /\
  (∀ (k : IntKind) (a b : Int),binV .sub k a b = .int k (k.wrap (a - b))) /\
  (∀ (k : IntKind) (a b : Int),binV .mul k a b = .int k (k.wrap (a * b))) /\
  (∀ (k : IntKind) (a b : Int),binV .quo k a b = .int k (k.wrap (a.tdiv b))) /\
  (∀ (k : IntKind) (a b : Int),binV .rem k a b = .int k (a.tmod b)) /\
  (∀ (k : IntKind) (a b : Int),binV .and k a b = .int k (k.wrap (BitVec.ofInt k.bits a &&& BitVec.ofInt k.bits b).toNat)) /\
  (∀ (k : IntKind) (a b : Int),binV .or k a b = .int k (k.wrap (BitVec.ofInt k.bits a ||| BitVec.ofInt k.bits b).toNat)) /\
  (∀ (k : IntKind) (a b : Int),binV .xor k a b = .int k (k.wrap (BitVec.ofInt k.bits a ^^^ BitVec.ofInt k.bits b).toNat)) /\
  (∀ (k : IntKind) (a b : Int),binV .andNot k a b = .int k (k.wrap (BitVec.ofInt k.bits a &&& ~~~ BitVec.ofInt k.bits b).toNat)) /\
  (∀ (k : IntKind) (a b : Int),binV .shl k a b = .int k (k.wrap (a * 2 ^ (min b.toNat k.bits)))) /\
  (∀ (k : IntKind) (a b : Int),binV .shr k a b = .int k (a.fdiv (2 ^ (min b.toNat k.bits)))) /\
  (∀ (k : IntKind) (a b : Int),binV .eql k a b = .bool (a == b)) /\
  (∀ (k : IntKind) (a b : Int),binV .neq k a b = .bool (a != b)) /\
  (∀ (k : IntKind) (a b : Int),binV .lss k a b = .bool (a < b)) /\
  (∀ (k : IntKind) (a b : Int),binV .leq k a b = .bool (a <= b)) /\
  (∀ (k : IntKind) (a b : Int),binV .gtr k a b = .bool (a > b)) /\
  (∀ (k : IntKind) (a b : Int),binV .geq k a b = .bool (a ≥ b)) /\
  (∀ cs : Array Value,(Value.agg cs).cells = cs) /\
  (∀ n,(wd n).cells = words n) /\
  (∀ n : Nat,0 + n = n) /\
  (∀ n : Nat,1 * n = n) /\
  (∀ n : Nat,n + 0 = n) /\
  (∀ n : Nat,0 * n = 0) /\
  (∀ n : Nat,(n : Int).toNat = n) /\
  (∀ a b : Value,tupV 0 (.tuple #[a,b]) = a) /\
  (∀ a b : Value,tupV 1 (.tuple #[a,b]) = b) /\
  (∀ a b c : Value,tupV 0 (.tuple #[a,b,c]) = a) /\
  (∀ a b c : Value,tupV 1 (.tuple #[a,b,c]) = b) /\
  (∀ a b c : Value,tupV 2 (.tuple #[a,b,c]) = c) /\
  (∀ (k : IntKind) (n : Int),(Value.int k n).cells.toList = [.int k n]) := by
 and_intros <;> intros <;> first | rfl | simp
end Go.WD
namespace Go.WD
open Go.RX

end Go.WD

/- Contracts of package wide: words. -/
namespace Go.Proofs.YtpdipcopnmiddaaGreatDoor
open Go.RowKit Go.RX Go.WD Go.IntWalk

theorem own_add64 (x y c : Nat) (hx : x < 18446744073709551616) (hy : y < 18446744073709551616) (hc : c <= 1) : Own Tryz.prog 165 [.int .u64 x,.int .u64 y,.int .u64 c] (.tuple #[.int .u64 (((x + y + c) % 18446744073709551616 : Nat) : Int),.int .u64 (((x + y + c) / 18446744073709551616 : Nat) : Int)]) := fun w => by
 show (callFunc _ #[_,_,_]).run _ w = _
 rw [run_callFunc_extern Tryz.func165 (by kernel_rfl) (by kernel_rfl) (by kernel_rfl) (e := add64Entry) (by kernel_rfl),run_add64 x y c (by omega) (by omega) (by omega) (by omega)]
 simp only [Result.andThen]
 congr 5 <;> omega
theorem own_sub64 (x y b : Nat) (hb : b <= 1) : Own Tryz.prog 155 [.int .u64 x,.int .u64 y,.int .u64 b] (.tuple #[.int .u64 (((x + 18446744073709551616 - y - b) % 18446744073709551616 : Nat) : Int),.int .u64 ((if x < y + b then 1 else 0 : Nat) : Int)]) := fun w => by
 show (callFunc _ #[_,_,_]).run _ w = _
 rw [run_callFunc_extern Tryz.func155 (by kernel_rfl) (by kernel_rfl) (by kernel_rfl) (e := sub64Entry) (by kernel_rfl),run_sub64 x y b hb]
 rfl

end Go.Proofs.YtpdipcopnmiddaaGreatDoor
namespace Go.Proofs.YtpdipcopnmiddaaGreatDoor
open Go.RowKit Go.RX Go.WD Go.IntWalk

section
variable {o : Oper} {x y : Operand} {va vb : Value} {a b : Nat}
end

end Go.Proofs.YtpdipcopnmiddaaGreatDoor


/- Numbers of eight words. -/
import Derived.Test.YtkcjbfoejpfbbaaGreatDoorRxH
import Derived.Test.YtkcjbfoejpfbbaaGreatDoorWdT
import Derived.Laws.Externs
import Derived.Shelf.Spec.BitsCarry
import Derived.IntWalk
import Derived.ChangeKeysEq
namespace Go.WD
open Go.RX

theorem one_int (k : IntKind) (n : Int) : oneAll (Value.int k n).cells := by intro c hc; simp [cells_int] at hc; subst hc; rfl

@[irreducible] def PW (k : Nat) : Nat := 2 ^ (64 * k)
theorem PW_zero : PW 0 = 1 := by unfold PW; rfl
theorem PW_succ (k : Nat) : PW (k + 1) = PW k * 18446744073709551616 := by
 unfold PW; rw [Nat.mul_succ,Nat.pow_add]
theorem PW_pos (k : Nat) : 0 < PW k := by unfold PW; exact Nat.pow_pos (by omega)
theorem PW_add (i j : Nat) : PW (i + j) = PW i * PW j := by unfold PW; rw [Nat.mul_add,Nat.pow_add]
theorem PW_le {i j : Nat} (h : i <= j) : PW i <= PW j := by unfold PW; exact Nat.pow_le_pow_right (by omega) (by omega)
@[irreducible] def M : Nat := PW 8
theorem M_def : M = PW 8 := by unfold M; rfl
theorem M_pos : 0 < M := by rw [M_def]; exact PW_pos 8

def dig (n i : Nat) : Nat := n / PW i % 18446744073709551616
theorem dig_lt (n i : Nat) : dig n i < 18446744073709551616 := Nat.mod_lt _ (by omega)
theorem mod_succ (n k : Nat) : n % PW (k + 1) = n % PW k + PW k * dig n k := by rw [PW_succ,Nat.mod_mul]; rfl
theorem dig_zero (i : Nat) : dig 0 i = 0 := by simp [dig]

def wf (f : Nat -> Nat) : Array Value := #[.int .u64 (f 0),.int .u64 (f 1),.int .u64 (f 2),.int .u64 (f 3),.int .u64 (f 4),.int .u64 (f 5),.int .u64 (f 6),.int .u64 (f 7)]
theorem wf_one (f : Nat -> Nat) : oneAll (wf f) := by
 intro c hc
 simp [wf] at hc
 rcases hc with h | h | h | h | h | h | h | h <;> subst h <;> rfl
theorem cases8 {i : Nat} (h : i < 8) : i = 0 \/ i = 1 \/ i = 2 \/ i = 3 \/ i = 4 \/ i = 5 \/ i = 6 \/ i = 7 := by omega
theorem wf_get (f : Nat -> Nat) {i : Nat} (h : i < 8) : (wf f).getD i undef = .int .u64 (f i) := by
 rcases cases8 h with h | h | h | h | h | h | h | h <;> subst h <;> rfl
theorem wf_congr {f g : Nat -> Nat} (h : ∀ i,i < 8 -> f i = g i) : wf f = wf g := by
 unfold wf
 rw [h 0 (by omega),h 1 (by omega),h 2 (by omega),h 3 (by omega),h 4 (by omega),h 5 (by omega),h 6 (by omega),h 7 (by omega)]
theorem wf_set (f : Nat -> Nat) {i : Nat} (h : i < 8) (d : Nat) : (wf f).setIfInBounds i (.int .u64 d) = wf (fun j => if j = i then d else f j) := by
 rcases cases8 h with h | h | h | h | h | h | h | h <;> subst h <;> rfl
theorem wf_spl (f : Nat -> Nat) {i : Nat} (h : i < 8) (d : Nat) : spl (wf f) i [.int .u64 d] = wf (fun j => if j = i then d else f j) := wf_set f h d

def words (n : Nat) : Array Value := wf (dig n)
def wd (n : Nat) : Value := .agg (words n)
theorem words_size (n : Nat) : (words n).size = 8 := rfl
theorem words_one (n : Nat) : oneAll (words n) := wf_one _
theorem words_get (n : Nat) {i : Nat} (h : i < 8) : (words n).getD i undef = .int .u64 (dig n i) := wf_get _ h
theorem wf_words {f : Nat -> Nat} {n : Nat} (h : ∀ i,i < 8 -> f i = dig n i) : wf f = words n := wf_congr h
theorem rxs : (∀ (f : SV -> Value) (a : SV) (l : List SV),List.map f (a :: l) = f a :: List.map f l) /\
  (∀ f : SV -> Value,List.map f [] = []) /\
  (∀ (a : Value) (l m : List Value),(a :: l) ++ m = a :: (l ++ m)) /\
  (∀ l : List Value,[] ++ l = l) /\
  (∀ (a : Value) (l : List Value) (d : Value),(a :: l).getD 0 d = a) /\
  (∀ (a : Value) (l : List Value) (n : Nat) (d : Value),(a :: l).getD (n + 1) d = l.getD n d) /\
  (∀ P ρ i,D P ρ (.v i) = ρ.getD i undef) /\
  (∀ P ρ c,D P ρ (.k c) = c) /\
  (∀ P ρ t,D P ρ (.z t) = zeroV P t) /\
  (∀ P ρ x,D P ρ (.ag x) = .agg (D P ρ x).cells) /\
  (∀ P ρ x o s i,D P ρ (.cell x o s i) = (D P ρ x).cells.getD (o + s * ixOf (D P ρ i)) undef) /\
  (∀ P ρ x o n s i,D P ρ (.sub x o n s i) = .agg ((D P ρ x).cells.extract (o + s * ixOf (D P ρ i)) (o + s * ixOf (D P ρ i) + n))) /\
  (∀ P ρ x o n y s i,D P ρ (.put x o n y s i) = .agg (spl (D P ρ x).cells (o + s * ixOf (D P ρ i)) (D P ρ y).cells.toList)) /\
  (∀ P ρ x n y,D P ρ (.cat x n y) = .agg ((D P ρ x).cells ++ (D P ρ y).cells)) /\
  (∀ P ρ x i,D P ρ (.proj x i) = tupV i (D P ρ x)) /\
  (∀ P ρ o k x y,D P ρ (.op2 o k x y) = binV o k (Go.RowKit.intOf (D P ρ x)) (Go.RowKit.intOf (D P ρ y))) /\
  (∀ P ρ o k x,D P ρ (.op1 o k x) = unV o k (Go.RowKit.intOf (D P ρ x))) /\
  (∀ P ρ x,D P ρ (.nt x) = .bool (!boolOf (D P ρ x))) /\
  (∀ P ρ k x,D P ρ (.cv k x) = .int k (k.wrap (Go.RowKit.intOf (D P ρ x)))) /\
  (∀ P ρ c x y,D P ρ (.ite c x y) = if boolOf (D P ρ c) then D P ρ x else D P ρ y) /\
  (∀ P ρ n x y,D P ρ (.eqb n x y) = .bool (n != (boolOf (D P ρ x) == boolOf (D P ρ y)))) /\
  (∀ v,ixOf v = (Go.RowKit.intOf v).toNat) /\
  (∀ k n,Go.RowKit.intOf (.int k n) = n) /\
  (∀ b,boolOf (.bool b) = b) /\
  (∀ (k : IntKind) (a b : Int),binV .add k a b = .int k (k.wrap (a + b))) /\
  (∀ (k : IntKind) (a b : Int),binV .sub k a b = .int k (k.wrap (a - b))) /\
  (∀ (k : IntKind) (a b : Int),binV .mul k a b = .int k (k.wrap (a * b))) /\
  (∀ (k : IntKind) (a b : Int),binV .quo k a b = .int k (k.wrap (a.tdiv b))) /\
  (∀ (k : IntKind) (a b : Int),binV .rem k a b = .int k (a.tmod b)) /\
  (∀ (k : IntKind) (a b : Int),binV .and k a b = .int k (k.wrap (BitVec.ofInt k.bits a &&& BitVec.ofInt k.bits b).toNat)) /\
  (∀ (k : IntKind) (a b : Int),binV .or k a b = .int k (k.wrap (BitVec.ofInt k.bits a ||| BitVec.ofInt k.bits b).toNat)) /\
  (∀ (k : IntKind) (a b : Int),binV .xor k a b = .int k (k.wrap (BitVec.ofInt k.bits a ^^^ BitVec.ofInt k.bits b).toNat)) /\
  (∀ (k : IntKind) (a b : Int),binV .andNot k a b = .int k (k.wrap (BitVec.ofInt k.bits a &&& ~~~ BitVec.ofInt k.bits b).toNat)) /\
  (∀ (k : IntKind) (a b : Int),binV .shl k a b = .int k (k.wrap (a * 2 ^ (min b.toNat k.bits)))) /\
  (∀ (k : IntKind) (a b : Int),binV .shr k a b = .int k (a.fdiv (2 ^ (min b.toNat k.bits)))) /\
  (∀ (k : IntKind) (a b : Int),binV .eql k a b = .bool (a == b)) /\
  (∀ (k : IntKind) (a b : Int),binV .neq k a b = .bool (a != b)) /\
  (∀ (k : IntKind) (a b : Int),binV .lss k a b = .bool (a < b)) /\
  (∀ (k : IntKind) (a b : Int),binV .leq k a b = .bool (a <= b)) /\
  (∀ (k : IntKind) (a b : Int),binV .gtr k a b = .bool (a > b)) /\
  (∀ (k : IntKind) (a b : Int),binV .geq k a b = .bool (a ≥ b)) /\
  (∀ cs : Array Value,(Value.agg cs).cells = cs) /\
  (∀ n,(wd n).cells = words n) /\
  (∀ n : Nat,0 + n = n) /\
  (∀ n : Nat,1 * n = n) /\
  (∀ n : Nat,n + 0 = n) /\
  (∀ n : Nat,0 * n = 0) /\
  (∀ n : Nat,(n : Int).toNat = n) /\
  (∀ a b : Value,tupV 0 (.tuple #[a,b]) = a) /\
  (∀ a b : Value,tupV 1 (.tuple #[a,b]) = b) /\
  (∀ a b c : Value,tupV 0 (.tuple #[a,b,c]) = a) /\
  (∀ a b c : Value,tupV 1 (.tuple #[a,b,c]) = b) /\
  (∀ a b c : Value,tupV 2 (.tuple #[a,b,c]) = c) /\
  (∀ (k : IntKind) (n : Int),(Value.int k n).cells.toList = [.int k n]) := by
 and_intros <;> intros <;> first | rfl | simp
end Go.WD
namespace Go.WD
open Go.RX

@[irreducible] def HM : Nat := 9223372036854775808 * PW 7
theorem HM_PW : HM = 9223372036854775808 * PW 7 := by unfold HM; rfl
theorem M_HM : M = 2 * HM := by rw [M_def,HM_PW,show (8 : Nat) = 7 + 1 from rfl,PW_succ]; omega
theorem HM_pos : 0 < HM := by rw [HM_PW]; have := PW_pos 7; omega
def rs (z : Int) : Nat := (z % (M : Int)).toNat
def iw (z : Int) : Value := wd (rs z)
def toI (a : Nat) : Int := if a % M < HM then (a % M : Nat) else (a % M : Nat) - (M : Int)
def Fits (z : Int) : Prop := -(HM : Int) <= z /\ z < HM
theorem toI_fits (a : Nat) : Fits (toI a) := by
 have h := Nat.mod_lt a M_pos
 have := M_HM
 unfold Fits toI; split <;> omega
theorem rs_pos {z : Int} (h0 : 0 <= z) (h : z < M) : rs z = z.toNat := by
 unfold rs; rw [Int.emod_eq_of_lt h0 h]
theorem rs_neg {z : Int} (h0 : z < 0) (h : -(M : Int) <= z) : rs z = (z + M).toNat := by
 unfold rs
 have := M_pos
 rw [<- Int.add_emod_right,Int.emod_eq_of_lt (by omega) (by omega)]
theorem top_bit (a : Nat) : dig a 7 < 9223372036854775808 ↔ a % M < HM := by
 have e : a % M = a % PW 7 + PW 7 * dig a 7 := by rw [M_def]; exact mod_succ a 7
 have hlt := Nat.mod_lt a (PW_pos 7)
 rw [e,HM_PW]
 constructor
 ·intro h
  have := Nat.mul_le_mul_left (PW 7) (show dig a 7 + 1 <= 9223372036854775808 by omega)
  rw [Nat.mul_succ] at this
  rw [Nat.mul_comm 9223372036854775808]; omega
 ·intro h
  rcases Nat.lt_or_ge (dig a 7) 9223372036854775808 with h1 | h1
  ·exact h1
  ·have := Nat.mul_le_mul_left (PW 7) h1
   rw [Nat.mul_comm 9223372036854775808] at h; omega
end Go.WD

/- Contracts of package wide: words. -/
namespace Go.Proofs.YtkcjbfoejpfbbaaGreatDoor
open Go.RowKit Go.RX Go.WD Go.IntWalk

theorem z_wide : zeroV Tryz.prog 53 = wd 0 := by
 have : zeroV Tryz.prog 53 = .agg #[.int .u64 0,.int .u64 0,.int .u64 0,.int .u64 0,.int .u64 0,.int .u64 0,.int .u64 0,.int .u64 0] := by kernel_rfl
 rw [this]; simp [wd,words,wf,dig_zero]

theorem own_add64 (x y c : Nat) (hx : x < 18446744073709551616) (hy : y < 18446744073709551616) (hc : c <= 1) : Own Tryz.prog 242 [.int .u64 x,.int .u64 y,.int .u64 c] (.tuple #[.int .u64 (((x + y + c) % 18446744073709551616 : Nat) : Int),.int .u64 (((x + y + c) / 18446744073709551616 : Nat) : Int)]) := fun w => by
 show (callFunc _ #[_,_,_]).run _ w = _
 rw [run_callFunc_extern Tryz.func242 (by kernel_rfl) (by kernel_rfl) (by kernel_rfl) (e := add64Entry) (by kernel_rfl),run_add64 x y c (by omega) (by omega) (by omega) (by omega)]
 simp only [Result.andThen]
 congr 5 <;> omega
theorem own_sub64 (x y b : Nat) (hb : b <= 1) : Own Tryz.prog 243 [.int .u64 x,.int .u64 y,.int .u64 b] (.tuple #[.int .u64 (((x + 18446744073709551616 - y - b) % 18446744073709551616 : Nat) : Int),.int .u64 ((if x < y + b then 1 else 0 : Nat) : Int)]) := fun w => by
 show (callFunc _ #[_,_,_]).run _ w = _
 rw [run_callFunc_extern Tryz.func243 (by kernel_rfl) (by kernel_rfl) (by kernel_rfl) (e := sub64Entry) (by kernel_rfl),run_sub64 x y b hb]
 rfl

end Go.Proofs.YtkcjbfoejpfbbaaGreatDoor
namespace Go.Proofs.YtkcjbfoejpfbbaaGreatDoor
open Go.RowKit Go.RX Go.WD Go.IntWalk

section
variable {o : Oper} {x y : Operand} {va vb : Value} {a b : Nat}
end

end Go.Proofs.YtkcjbfoejpfbbaaGreatDoor

/- Contracts of package wide: numbers. -/
namespace Go.Proofs.YtkcjbfoejpfbbaaGreatDoor
open Go.RowKit Go.RX Go.WD Go.IntWalk

theorem toI_abs_lt (a : Nat) : (toI a).natAbs < M := by
 obtain ⟨h1,h2⟩ := toI_fits a
 have := M_HM
 omega

def told (z : Int) : Value := if -(HM : Int) <= z /\ z < HM then .tuple #[iw z,.int .i64 0] else .tuple #[wd 0,.int .i64 6]
end Go.Proofs.YtkcjbfoejpfbbaaGreatDoor
namespace Go.Proofs.YtkcjbfoejpfbbaaGreatDoor
open Go.RowKit Go.RX Go.WD Go.IntWalk

end Go.Proofs.YtkcjbfoejpfbbaaGreatDoor


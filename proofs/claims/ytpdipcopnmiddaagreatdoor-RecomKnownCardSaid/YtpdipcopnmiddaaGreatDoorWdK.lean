/- Products of words: plain. -/
import Derived.Test.YtpdipcopnmiddaaGreatDoorWdG
import Derived.Lib.Mul64
import Derived.Test.YtpdipcopnmiddaaGreatDoorRxT
namespace Go.WD
open Go.RX

section
variable {N p c : Nat}
end

theorem or_u64 (a b : Nat) (ha : a < 18446744073709551616) (hb : b < 18446744073709551616) : IntKind.u64.wrap ((BitVec.ofInt (IntKind.bits .u64) (a : Int) ||| BitVec.ofInt (IntKind.bits .u64) (b : Int)).toNat : Int) = ((a ||| b : Nat) : Int) := by
 have h := Nat.or_lt_two_pow (n := 64) ha hb
 have e : (BitVec.ofInt 64 (a : Int) ||| BitVec.ofInt 64 (b : Int)).toNat = a ||| b := by
  rw [BitVec.toNat_or,BitVec.toNat_ofInt,BitVec.toNat_ofInt]
  congr 1 <;> omega
 show IntKind.u64.wrap ((BitVec.ofInt 64 (a : Int) ||| BitVec.ofInt 64 (b : Int)).toNat : Int) = _
 rw [e,IntKind.wrap_u64]
 omega
theorem mask32 (a : Nat) (ha : a < 18446744073709551616) : IntKind.u64.wrap ((BitVec.ofInt (IntKind.bits .u64) (a : Int) &&& BitVec.ofInt (IntKind.bits .u64) 4294967295).toNat : Int) = ((a % 4294967296 : Nat) : Int) := by
 have e : (BitVec.ofInt 64 (a : Int) &&& BitVec.ofInt 64 4294967295).toNat = a % 4294967296 := by
  rw [BitVec.toNat_and,BitVec.toNat_ofInt,BitVec.toNat_ofInt,show ((4294967295 : Int) % (2 ^ 64 : Nat)).toNat = 2 ^ 32 - 1 from by decide,Nat.and_two_pow_sub_one_eq_mod]
  omega
 show IntKind.u64.wrap ((BitVec.ofInt 64 (a : Int) &&& BitVec.ofInt 64 4294967295).toNat : Int) = _
 rw [e,IntKind.wrap_u64]
 omega
theorem shr_u64 (a k : Nat) (hk : k <= 64) : (a : Int).fdiv (2 ^ min k (IntKind.bits .u64)) = ((a / 2 ^ k : Nat) : Int) := by
 rw [show min k (IntKind.bits .u64) = k from Nat.min_eq_left hk,show (2 : Int) ^ k = ((2 ^ k : Nat) : Int) from by simp,Int.fdiv_eq_ediv_of_nonneg _ (Int.natCast_nonneg _)]
 exact (Int.natCast_ediv a (2 ^ k)).symm
end Go.WD
namespace Go.WD
open Go.RX

end Go.WD
namespace Go.WD
open Go.RX

def blen (x : Nat) : Nat := if x = 0 then 0 else x.log2 + 1
theorem blen_lt (x : Nat) : x < 2 ^ blen x := by
 unfold blen
 split
 ·rename_i h; subst h; decide
 ·exact Nat.lt_log2_self
theorem blen_pos {x : Nat} (h : x ≠ 0) : 0 < blen x /\ 2 ^ (blen x - 1) <= x := by
 unfold blen
 rw [if_neg h]
 exact ⟨by omega,by simpa using Nat.log2_self_le h⟩
theorem blen_eq {x k : Nat} (h0 : 0 < k) (h1 : 2 ^ (k - 1) <= x) (h2 : x < 2 ^ k) : blen x = k := by
 have hx : x ≠ 0 := fun e => by subst e; have := Nat.pow_pos (n := k - 1) (show 0 < 2 by omega); omega
 obtain ⟨p1,p2⟩ := blen_pos hx
 have p3 := blen_lt x
 have a1 : k - 1 < blen x := (Nat.pow_lt_pow_iff_right (show 1 < 2 by omega)).1 (Nat.lt_of_le_of_lt h1 p3)
 have a2 : blen x - 1 < k := (Nat.pow_lt_pow_iff_right (show 1 < 2 by omega)).1 (Nat.lt_of_le_of_lt p2 h2)
 omega
theorem blen_shift {x k : Nat} (h : 2 ^ k <= x) : blen x = k + blen (x / 2 ^ k) := by
 have hp : 0 < 2 ^ k := Nat.pow_pos (by omega)
 have hq : x / 2 ^ k ≠ 0 := by
  have := (Nat.le_div_iff_mul_le hp).2 (show 1 * 2 ^ k <= x by omega)
  omega
 obtain ⟨p1,p2⟩ := blen_pos hq
 have p3 := blen_lt (x / 2 ^ k)
 refine blen_eq (by omega) ?_ ?_
 ·rw [show k + blen (x / 2 ^ k) - 1 = (blen (x / 2 ^ k) - 1) + k from by omega,Nat.pow_add]
  exact (Nat.le_div_iff_mul_le hp).1 p2
 ·rw [Nat.pow_add,Nat.mul_comm]
  exact (Nat.div_lt_iff_lt_mul hp).1 p3
theorem blen_le {x k : Nat} (h : x < 2 ^ k) : blen x <= k := by
 by_cases hx : x = 0
 ·subst hx; simp [blen]
 ·obtain ⟨p1,p2⟩ := blen_pos hx
  have := (Nat.pow_lt_pow_iff_right (show 1 < 2 by omega)).1 (Nat.lt_of_le_of_lt p2 h)
  omega
theorem W_pow : (18446744073709551616 : Nat) = 2 ^ 64 := rfl
section
variable {y1 y0 u n q r : Nat}
theorem dq_over (hu : u = q * y1 + r) (ho : 4294967296 * r + n < q * y0) : (u * 4294967296 + n) / (y1 * 4294967296 + y0) < q := by
 have hp : 0 < y1 * 4294967296 + y0 := by
  rcases Nat.eq_zero_or_pos y0 with h | h
  ·subst h; omega
  ·omega
 refine (Nat.div_lt_iff_lt_mul hp).2 ?_
 rw [Nat.mul_add,<- Nat.mul_assoc,hu,Nat.add_mul]
 omega
theorem dq_under (hu : u = q * y1 + r) (hp : 0 < y1) (ho : q * y0 <= 4294967296 * r + n) : q <= (u * 4294967296 + n) / (y1 * 4294967296 + y0) := by
 refine (Nat.le_div_iff_mul_le (by omega)).2 ?_
 rw [Nat.mul_add,<- Nat.mul_assoc,hu,Nat.add_mul]
 omega
theorem dq_start (hn : n < 4294967296) (hp : 0 < y1) : (u * 4294967296 + n) / (y1 * 4294967296 + y0) <= u / y1 := by
 have h1 : (u * 4294967296 + n) / (y1 * 4294967296 + y0) <= (u * 4294967296 + n) / (4294967296 * y1) := Nat.div_le_div_left (by omega) (by omega)
 rw [<- Nat.div_div_eq_div_mul,show (u * 4294967296 + n) / 4294967296 = u from by omega] at h1
 exact h1
theorem dq_top (h1 : 2147483648 <= y1) (hu : u < y1 * 4294967296 + y0) (h0 : y0 < 4294967296) : u / y1 <= 4294967297 := by
 have : u / y1 < 4294967298 := (Nat.div_lt_iff_lt_mul (by omega)).2 (by omega)
 omega
theorem dq_lt (hn : n < 4294967296) (hu : u < y1 * 4294967296 + y0) : (u * 4294967296 + n) / (y1 * 4294967296 + y0) < 4294967296 := by
 refine (Nat.div_lt_iff_lt_mul (by omega)).2 ?_
 have : (u + 1) * 4294967296 <= (y1 * 4294967296 + y0) * 4294967296 := Nat.mul_le_mul_right _ hu
 rw [Nat.mul_comm 4294967296]; omega
end
theorem two_steps {U Y X n q1 r1 q0 r0 : Nat} (hX : X = q1 * Y + r1) (hU : U = X * 4294967296 + n) (h0 : r1 * 4294967296 + n = q0 * Y + r0) (hr : r0 < Y) : U / Y = q1 * 4294967296 + q0 /\ U % Y = r0 := by
 have e : U = r0 + Y * (q1 * 4294967296 + q0) := by
  rw [hU,hX,Nat.add_mul,Nat.add_assoc,h0,Nat.mul_add,Nat.mul_comm Y q0,Nat.mul_comm Y,Nat.mul_right_comm]
  omega
 rw [e]
 exact ⟨by rw [Nat.add_mul_div_left _ _ (by omega),Nat.div_eq_of_lt hr,Nat.zero_add],by rw [Nat.add_mul_mod_self_left,Nat.mod_eq_of_lt hr]⟩

theorem or_add {a b i : Nat} (hb : b < 2 ^ i) : (a * 2 ^ i) ||| b = a * 2 ^ i + b := by
 rw [Nat.mul_comm,Nat.two_pow_add_eq_or_of_lt hb]
theorem two_pow_split {r : Nat} (h : r <= 64) : (18446744073709551616 : Nat) = 2 ^ (64 - r) * 2 ^ r := by
 rw [<- Nat.pow_add,show 64 - r + r = 64 from by omega]
theorem shr_lt {d : Nat} (hd : d < 18446744073709551616) {r : Nat} (h : r <= 64) : d / 2 ^ (64 - r) < 2 ^ r := by
 refine (Nat.div_lt_iff_lt_mul (Nat.pow_pos (by omega))).2 ?_
 rw [Nat.mul_comm,<- two_pow_split h]; exact hd
end Go.WD

/- Contracts of package wide: products. -/
namespace Go.Proofs.YtpdipcopnmiddaaGreatDoor
open Go.RowKit Go.RX Go.WD Go.IntWalk

theorem wrapN (a : Nat) (ha : a < 18446744073709551616) : IntKind.u64.wrap (a : Int) = (a : Int) := by rw [IntKind.wrap_u64]; omega
theorem wrapM (a : Nat) : IntKind.u64.wrap (a : Int) = ((a % 18446744073709551616 : Nat) : Int) := by rw [IntKind.wrap_u64]; omega
theorem mulN (a b : Nat) : (a : Int) * (b : Int) = ((a * b : Nat) : Int) := (Int.natCast_mul a b).symm
theorem addN (a b : Nat) : (a : Int) + (b : Int) = ((a + b : Nat) : Int) := (Int.natCast_add a b).symm
theorem shr32 (a : Nat) : (a : Int).fdiv (2 ^ min (Int.toNat 32) (IntKind.bits .u64)) = ((a / 4294967296 : Nat) : Int) := shr_u64 a 32 (by omega)

theorem det_mul64 (x y : Nat) (hx : x < 18446744073709551616) (hy : y < 18446744073709551616) : Det Tryz.prog 164 [.int .u64 x,.int .u64 y] (.tuple #[.int .u64 ((x * y / 18446744073709551616 : Nat) : Int),.int .u64 ((x * y % 18446744073709551616 : Nat) : Int)]) := by
 obtain ⟨bd,bt,bw,hhi⟩ := Lib.mul64_hi x y hx hy
 have ba := Lib.half_mul_le (a := x / 4294967296) (b := y / 4294967296) (by omega) (by omega)
 have bb := Lib.half_mul_le (a := x / 4294967296) (b := y % 4294967296) (by omega) (by omega)
 have bc := Lib.half_mul_le (a := x % 4294967296) (b := y / 4294967296) (by omega) (by omega)
 have ba' : x / 4294967296 * (y / 4294967296) < 18446744073709551616 := by omega
 have bb' : x / 4294967296 * (y % 4294967296) < 18446744073709551616 := by omega
 have bc' : x % 4294967296 * (y / 4294967296) < 18446744073709551616 := by omega
 have bh1 : x / 4294967296 * (y / 4294967296) + (x / 4294967296 * (y % 4294967296) + x % 4294967296 * (y % 4294967296) / 4294967296) / 4294967296 < 18446744073709551616 := by omega
 have bh : x / 4294967296 * (y / 4294967296) + (x / 4294967296 * (y % 4294967296) + x % 4294967296 * (y % 4294967296) / 4294967296) / 4294967296 + ((x / 4294967296 * (y % 4294967296) + x % 4294967296 * (y % 4294967296) / 4294967296) % 4294967296 + x % 4294967296 * (y / 4294967296)) / 4294967296 < 18446744073709551616 := by
  have := (Nat.div_lt_iff_lt_mul (show 0 < 18446744073709551616 by omega)).2 (Nat.mul_lt_mul'' hx hy)
  omega
 refine det_of_tree mixed tr_mul64 np_mul64 rfl (pd_rq ⟨_,rfl⟩ (pd_rq ⟨_,rfl⟩ (pd_ret ?_ rfl)))
 simp only [rxs,retV,shr32,mask32 x hx,mask32 y hy,mulN,addN,wrapN _ bd,wrapN _ bb',wrapN _ bt,mask32 _ bt,wrapN _ bc',wrapN _ bw,wrapN _ ba',wrapN _ bh1,wrapN _ bh,wrapM (x * y)]
 rw [hhi]

section
variable {o : Oper} {x y : Operand} {H : PH} {b q n T : Nat} {f : Nat -> Nat} {vs : List Value}
end
theorem i64n (k : Nat) (h : k <= 9223372036854775807) : IntKind.i64.wrap (k : Int) = (k : Int) := i64_in _ ⟨by omega,by omega⟩
theorem addI (k : Nat) (j : Nat) : (k : Int) + (j : Int) = ((k + j : Nat) : Int) := by omega

end Go.Proofs.YtpdipcopnmiddaaGreatDoor

/- Contracts: lengths, division by words. -/
namespace Go.Proofs.YtpdipcopnmiddaaGreatDoor
open Go.RowKit Go.RX Go.WD Go.IntWalk

theorem shr16 (a : Nat) : (a : Int).fdiv (2 ^ min (Int.toNat 16) (IntKind.bits .u64)) = ((a / 65536 : Nat) : Int) := shr_u64 a 16 (by omega)
theorem shr8 (a : Nat) : (a : Int).fdiv (2 ^ min (Int.toNat 8) (IntKind.bits .u64)) = ((a / 256 : Nat) : Int) := shr_u64 a 8 (by omega)
def len8 : ByteArray := ⟨#[0,1,2,2,3,3,3,3,4,4,4,4,4,4,4,4,5,5,5,5,5,5,5,5,5,5,5,5,5,5,5,5,6,6,6,6,6,6,6,6,6,6,6,6,6,6,6,6,6,6,6,6,6,6,6,6,6,6,6,6,6,6,6,6,7,7,7,7,7,7,7,7,7,7,7,7,7,7,7,7,7,7,7,7,7,7,7,7,7,7,7,7,7,7,7,7,7,7,7,7,7,7,7,7,7,7,7,7,7,7,7,7,7,7,7,7,7,7,7,7,7,7,7,7,7,7,7,7,8,8,8,8,8,8,8,8,8,8,8,8,8,8,8,8,8,8,8,8,8,8,8,8,8,8,8,8,8,8,8,8,8,8,8,8,8,8,8,8,8,8,8,8,8,8,8,8,8,8,8,8,8,8,8,8,8,8,8,8,8,8,8,8,8,8,8,8,8,8,8,8,8,8,8,8,8,8,8,8,8,8,8,8,8,8,8,8,8,8,8,8,8,8,8,8,8,8,8,8,8,8,8,8,8,8,8,8,8,8,8,8,8,8,8,8,8,8,8,8,8,8,8,8,8,8,8,8]⟩
theorem len8_size : len8.size = 256 := by kernel_rfl
theorem len8_all : (List.range 256).all (fun b => (len8.data.getD b 0).toNat == blen b) = true := by kernel_rfl
theorem len8_get {b : Nat} (h : b < 256) : (len8.data.getD b 0).toNat = blen b := by
 have := List.all_eq_true.1 len8_all b (List.mem_range.2 h)
 simpa using this
set_option maxRecDepth 100000 in
theorem det_len64 (x : Nat) (hx : x < 18446744073709551616) : Det Tryz.prog 75 [.int .u64 x] (.int .i64 (blen x)) := by
 refine det_of_tree mixed tr_len64 np_len64 rfl (pd_rq ⟨_,rfl⟩ ⟨fun l => ∃ y n,l = [.int .u64 (y : Nat),.int .i64 (n : Nat)] /\ y < 4294967296 /\ n <= 32 /\ n + blen y = blen x,?_,?_⟩)
 ·refine pd_br (b := decide ((x : Int) ≥ 4294967296)) rfl (fun h => ?_) (fun h => ?_)
  ·have h := of_decide_eq_true h
   exact ⟨x / 4294967296,32,by simp only [rxs,shr32]; rfl,by omega,by omega,(blen_shift (k := 32) (by omega)).symm⟩
  ·have h := of_decide_eq_false h
   exact ⟨x,0,rfl,by omega,by omega,by omega⟩
 rintro vals - ⟨y,n,rfl,hy,hn,hb⟩
 refine pd_rq ⟨_,rfl⟩ ⟨fun l => ∃ y n,l = [.int .u64 (y : Nat),.int .i64 (n : Nat)] /\ y < 65536 /\ n <= 48 /\ n + blen y = blen x,?_,?_⟩
 ·refine pd_br (b := decide ((y : Int) ≥ 65536)) rfl (fun h => ?_) (fun h => ?_)
  ·have h := of_decide_eq_true h
   have e := blen_shift (x := y) (k := 16) (by omega)
   refine pd_rq ⟨_,rfl⟩ ⟨y / 65536,n + 16,?_,by omega,by omega,?_⟩
   ·have e3 : IntKind.i64.wrap ((n : Int) + 16) = ((n + 16 : Nat) : Int) := i64n (n + 16) (by omega)
    simp only [rxs,shr16,e3]
   ·rw [show (2 : Nat) ^ 16 = 65536 from rfl] at e
    omega
  ·have h := of_decide_eq_false h
   exact ⟨y,n,rfl,by omega,by omega,hb⟩
 rintro vals - ⟨y,n,rfl,hy,hn,hb⟩
 refine pd_rq ⟨_,rfl⟩ ⟨fun l => ∃ y n,l = [.int .u64 (y : Nat),.int .i64 (n : Nat)] /\ y < 256 /\ n <= 56 /\ n + blen y = blen x,?_,?_⟩
 ·refine pd_br (b := decide ((y : Int) ≥ 256)) rfl (fun h => ?_) (fun h => ?_)
  ·have h := of_decide_eq_true h
   have e := blen_shift (x := y) (k := 8) (by omega)
   refine pd_rq ⟨_,rfl⟩ ⟨y / 256,n + 8,?_,by omega,by omega,?_⟩
   ·have e3 : IntKind.i64.wrap ((n : Int) + 8) = ((n + 8 : Nat) : Int) := i64n (n + 8) (by omega)
    simp only [rxs,shr8,e3]
   ·rw [show (2 : Nat) ^ 8 = 256 from rfl] at e
    omega
  ·have h := of_decide_eq_false h
   exact ⟨y,n,rfl,by omega,by omega,hb⟩
 rintro vals - ⟨y,n,rfl,hy,hn,hb⟩
 have hu8 : IntKind.u8.wrap (y : Int) = (y : Int) := by rw [IntKind.wrap_u8]; omega
 have hyl : blen y <= 8 := blen_le hy
 refine pd_rq ⟨_,rfl⟩ (pd_prim (yld_indexStr (s := len8) (k := .u8) (m := y) (vs := [.string len8,.int .u8 y]) op_len64_10_3 rfl rfl (by kernel_rfl) (by rw [len8_size]; exact hy)) ?_ ?_)
 ·simp only [rxs,hu8]; rfl
 ·rw [len8_get hy]
  refine pd_rq ⟨_,rfl⟩ (pd_rq ⟨_,rfl⟩ (pd_ret ?_ rfl))
  simp only [rxs,retV]
  rw [i64n (blen y) (by omega),addI,i64n (n + blen y) (by omega),hb]
theorem det_lz64 (x : Nat) (hx : x < 18446744073709551616) : Det Tryz.prog 172 [.int .u64 x] (.int .i64 ((64 - blen x : Nat) : Int)) := by
 have hl : blen x <= 64 := blen_le hx
 refine det_of_tree mixed tr_lz64 np_lz64 rfl (pd_call (det_len64 x hx) rfl (pd_rq ⟨_,rfl⟩ (pd_ret ?_ rfl)))
 simp only [rxs,retV]
 rw [show (64 : Int) - (blen x : Int) = ((64 - blen x : Nat) : Int) from by omega,i64n _ (by omega)]
end Go.Proofs.YtpdipcopnmiddaaGreatDoor


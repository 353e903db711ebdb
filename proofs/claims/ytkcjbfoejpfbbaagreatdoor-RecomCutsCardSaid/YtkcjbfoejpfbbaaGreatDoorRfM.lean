/- The reference of chapter 01: numbers with a sign. -/
import Derived.Test.YtkcjbfoejpfbbaaGreatDoorRfF
import Derived.Test.YtkcjbfoejpfbbaaGreatDoorWdR
namespace Go.Proofs.YtkcjbfoejpfbbaaGreatDoor
open Go.Proofs.Tryz
open Go.RowKit Go.RX Go.WD
def Lm (z:Int):Prop:=z.natAbs<BP 10000
theorem d3z (z:Int):sn (!decide (z<0)) z.natAbs= -z:=by
 unfold sn;by_cases h:z<0<;>simp[h]<;>omega
theorem c9S (z:Int):sn (decide (z<0)) z.natAbs=z:=by
 unfold sn;by_cases h:z<0<;>simp[h]<;>omega
section
variable {H:PH} {v x y:Value} {z p q:Int}
theorem c4W (h:(decide (p<0)==decide (q<0))=true):sn (decide (p<0)) (p.natAbs+q.natAbs)=p+q:=by
 unfold sn
 by_cases h1:p<0<;>by_cases h2:q<0<;>simp[h1,h2]at h⊢<;>omega
theorem b4s (h:(decide (p<0)==decide (q<0))=false) (hl:q.natAbs<=p.natAbs):sn (decide (p<0)) (p.natAbs-q.natAbs)=p+q:=by
 unfold sn
 by_cases h1:p<0<;>by_cases h2:q<0<;>simp[h1,h2]at h⊢<;>omega
theorem d3A:sn (true !=(decide (p<0)==decide (q<0))) (p.natAbs*q.natAbs)=p*q:=by
 obtain⟨a,ha⟩:=Int.eq_nat_or_neg p
 obtain⟨b,hb⟩:=Int.eq_nat_or_neg q
 have hab:(((a*b:Nat):Int))=(a:Int)*b:=Int.natCast_mul a b
 have hz:a=0\/b=0->(a:Int)*b=0:=by rintro(h|h)<;>rw[h]<;>simp
 unfold sn
 rcases ha with ha|ha<;>rcases hb with hb|hb<;>subst ha<;>subst hb
 ·simp[show ¬(a:Int)<0 by omega,show ¬(b:Int)<0 by omega]
 ·rw[Int.natAbs_neg,Int.natAbs_natCast,Int.natAbs_natCast,hab,Int.mul_neg]
  by_cases h:b=0
  ·rw[hz (.inr h)];simp
  ·rw[decide_eq_false (show ¬(a:Int)<0 by omega),decide_eq_true (show -(b:Int)<0 by omega)];rfl
 ·rw[Int.natAbs_neg,Int.natAbs_natCast,Int.natAbs_natCast,hab,Int.neg_mul]
  by_cases h:a=0
  ·rw[hz (.inl h)];simp
  ·rw[decide_eq_false (show ¬(b:Int)<0 by omega),decide_eq_true (show -(a:Int)<0 by omega)];rfl
 ·rw[Int.natAbs_neg,Int.natAbs_natCast,Int.natAbs_neg,Int.natAbs_natCast,hab,Int.neg_mul_neg]
  by_cases h:a=0\/b=0
  ·rw[hz h];simp
  ·rw[decide_eq_true (show -(a:Int)<0 by omega),decide_eq_true (show -(b:Int)<0 by omega)];rfl
end
end Go.Proofs.YtkcjbfoejpfbbaaGreatDoor
/- The reference of chapter 01: Parts, Divisor, and what the chapter says. -/
namespace Go.Proofs.YtkcjbfoejpfbbaaGreatDoor
open Go.Proofs.Tryz
open Go.RowKit Go.RX Go.WD
theorem d3B:a0G prog 4= .bool false:=by kernel_rfl
open Classical in
section
variable {H:PH} {v x y:Value} {z p q:Int}
theorem Lm.nat {n:Nat} (h:n<BP 10000):Lm (n:Int):=by unfold Lm;rw[Int.natAbs_natCast];exact h
theorem c6V:Lm 1:=by
 unfold Lm
 have:=BP_lt_iff.2 (show 0<10000 by omega)
 rw[BP_zero]at this
 exact this
end
end Go.Proofs.YtkcjbfoejpfbbaaGreatDoor

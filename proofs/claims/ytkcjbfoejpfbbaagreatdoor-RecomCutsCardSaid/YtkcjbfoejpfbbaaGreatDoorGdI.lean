/- Chapter 32: chance.Below. -/
import Derived.Test.YtkcjbfoejpfbbaaGreatDoorGwT
import Derived.Test.YtkcjbfoejpfbbaaGreatDoorGaD
import Derived.Test.YtkcjbfoejpfbbaaGreatDoorRzL
import Derived.Test.YtkcjbfoejpfbbaaGreatDoorGxT
import Derived.Test.YtkcjbfoejpfbbaaGreatDoorGqT
import Derived.Test.YtkcjbfoejpfbbaaGreatDoorGsC
import Derived.Test.YtkcjbfoejpfbbaaGreatDoorRzD
import Derived.Test.YtkcjbfoejpfbbaaGreatDoorRzM
import Derived.Test.YtkcjbfoejpfbbaaGreatDoorRxZ
import Derived.Test.YtkcjbfoejpfbbaaGreatDoorGdG
namespace Go.Proofs.YtkcjbfoejpfbbaaGreatDoor
open Go.Proofs.Tryz
open Go.RowKit Go.RX Go.GS
def a5Q (H:PH) (b:Nat):PH:=fun k=>if k=b then none else H k
end Go.Proofs.YtkcjbfoejpfbbaaGreatDoor
/- Chapter 32: sorting, and where an edge stands. -/
namespace Go.GS
open Go.RowKit Go.RX
theorem c7p {P:Program} {ρ:List Value} {a:SV} {k:Nat} (ha:D P ρ a=ii ((k+1:Nat):Int)) (h:k<9223372036854775807):D P ρ (.op2 .sub .i64 a (.k (.int .i64 1)))=ii (k:Nat):=by
 have:=b0g (P:=P) (ρ:=ρ) (a:=a) (b:= .k (.int .i64 1)) ha (y:=1) rfl (by omega) (by omega)
 rw[this]
 show ii _=ii _
 congr 1;omega
end Go.GS
namespace Go.Proofs.YtkcjbfoejpfbbaaGreatDoor
open Go.Proofs.Tryz
open Go.RowKit Go.RX Go.GS Go.RZ
theorem d1h (x y:Int):Det prog 99 [ii x,ii y] (.bool (decide (x<y))):=by
 refine a0z a0r c1u (by kernel_rfl) rfl (a2r (a9j x) rfl ?_)
 exact a0m ⟨_,rfl⟩ (a8I rfl (a0m ⟨_,rfl⟩ (a0m ⟨_,rfl⟩ (a0X rfl rfl))))
end Go.Proofs.YtkcjbfoejpfbbaaGreatDoor
/- Chapter 32: the neighbours of a node in a set. -/
namespace Go.Proofs.YtkcjbfoejpfbbaaGreatDoor
open Go.Proofs.Tryz
open Go.RowKit Go.RX Go.GS
section
variable {H:PH} {w:Value} {n x c set left bw:Nat} {es:List (Nat×Nat)}
theorem bEn (a b:Nat):Value.bool (((a:Nat):Int)==((b:Nat):Int))= .bool (decide (a=b)):=by
 rw[bE];congr 1;apply decide_eq_decide.2;omega
end
end Go.Proofs.YtkcjbfoejpfbbaaGreatDoor
/- Chapter 32: walks at random. -/
namespace Go.RX
open Go.RowKit
section
variable {P:Program} {o:Oper}
theorem c2v {fn:Fn} {t:Nat} {v:Value} (ho:o.op= .makeFunc fn #[.tmp t] #[]):Run P o [v] (.func fn #[v] #[]):=fun w=>by
 have hos:o.op.operands.toList=[.tmp t]:=by rw[ho];rfl
 unfold Stp
 rw[hos]
 simp only[execOp,ho,Sem.run_bind,Instr.makeFunc,Sem.run_pure,Result.andThen_ok]
 exact⟨by simp[a0g,a5v],Ext.refl _⟩
variable {G:Value->PH->Prop} {nx:List (List Value->PH->Prop)} {ρ:List Value} {H:PH} {t:Tree} {id i b q:Nat} {x y:Operand} {T T':TypeId} {cs:Array Value} {args:List SV} {pf:Bool}
end
end Go.RX
namespace Go.Proofs.YtkcjbfoejpfbbaaGreatDoor
open Go.Proofs.Tryz
open Go.RowKit Go.RX Go.GS
theorem c2w (H:PH) (b:Nat):PH.le (a5Q H b) H:=fun k o hk=>by
 unfold a5Q at hk
 by_cases e:k=b
 ·rw[if_pos e]at hk;cases hk
 ·rw[if_neg e]at hk;exact hk
end Go.Proofs.YtkcjbfoejpfbbaaGreatDoor
/- Chapter 32: walks without loops, and random spanning trees. -/
namespace Go.Proofs.YtkcjbfoejpfbbaaGreatDoor
open Go.Proofs.Tryz
open Go.RowKit Go.RX Go.GS
theorem a5d:prog.underlying 201=some (.map 3 3):=by kernel_rfl
theorem a2P:prog.underlying 3=some (.int .i64):=by kernel_rfl
theorem c7q:∀w,(zeroValue 3).run prog w= .ok (.int .i64 0) w:=fun w=>by
 have h:(prog.info? 3).bind (·.zero)=some (.int .i64 0):=by kernel_rfl
 cases hi:prog.info? 3 with
 |none=>rw[hi]at h;cases h
 |some i=>
  rw[hi]at h
  simp only[Option.bind_some]at h
  simp[zeroValue,typeInfo,hi,h]
end Go.Proofs.YtkcjbfoejpfbbaaGreatDoor
/- Chapter 32: the checks, on both sides. -/
namespace Go.Proofs.YtkcjbfoejpfbbaaGreatDoor
open Go.Proofs.Tryz
open Go.RowKit Go.RX Go.GS
open Go.WD (wd toI iw rs)
theorem d6t {ρ:List Value} {x y:SV} {b:Bool} (hx:D prog ρ x= .bool b) (hy:D prog ρ y= .bool b):D prog ρ (.eqb true x y)= .bool false:=by
 show Value.bool (true !=(a1b (D prog ρ x)==a1b (D prog ρ y)))=_
 rw[hx,hy];simp
end Go.Proofs.YtkcjbfoejpfbbaaGreatDoor

/- The reference of chapter 01: cut, made, order. -/
import Derived.Test.YtkcjbfoejpfbbaaGreatDoorRfB
import Derived.Test.YtkcjbfoejpfbbaaGreatDoorWdK
namespace Go.Proofs.YtkcjbfoejpfbbaaGreatDoor
open Go.RowKit Go.RX Go.WD
theorem d3x {a b:Nat} (h:a+b<9223372036854775808):IntKind.i64.wrap ((a:Int)+(b:Int))=((a+b:Nat):Int):=by rw[IntKind.wrap_i64];omega
theorem b0Y {a:Nat} (h:a+1<9223372036854775808):IntKind.i64.wrap ((a:Int)+1)=((a+1:Nat):Int):=by rw[IntKind.wrap_i64];omega
theorem d3y {a:Nat} (h:a<9223372036854775808) (hb:1<=a):IntKind.i64.wrap ((a:Int)-1)=((a-1:Nat):Int):=by rw[IntKind.wrap_i64];omega
theorem c4V {z:Int} (h: -9223372036854775808<=z) (h2:z<9223372036854775808):IntKind.i64.wrap z=z:=by rw[IntKind.wrap_i64];omega
section
variable {H:PH} {v:Value} {l:List Nat}
def sn (b:Bool) (n:Nat):Int:=if b then -(n:Int)else n
end
open Go.RowKit Go.RX Go.WD
theorem wu {a:Nat} (h:a<18446744073709551616):IntKind.u64.wrap (a:Int)=(a:Int):=by rw[IntKind.wrap_u64];omega
end Go.Proofs.YtkcjbfoejpfbbaaGreatDoor

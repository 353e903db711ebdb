/- MADE BY rxgen.py: the trees of laws of chapter 01 with pairs. -/
import Derived.Test.YtimnofpofbnjbaaWdT
namespace Go.Proofs.Ytimnofpofbnjbaa
open Go.RowKit Go.RX
theorem tr_pairs : tree Try.prog [] [] [] [⟨1, [0, 1, 3, 7, 0, 16, 63, 127, 255, 0, 1023], [1, 1, 2, 2, 1, 1, 2, 2, 0, 3, 4], [0, 0, 0, 0, 0, 0, 0, 0, 0, 0, 0], [0, 1, 4, 5, 2, 3, 6, 7, 8, 9], [10]⟩, ⟨2, [0, 1, 0, 4, 15, 0, 32, 96, 0, 256, 992, 2016, 0, 4096, 14304, 0, 32768, 128992, 260064, 0, 524288, 0, 2097152, 6551520, 16512992, 0, 33554432, 115603424, 0, 268435456, 1055127520, 0, 4294967295, 8589934591], [1, 1, 1, 1, 0, 1, 1, 2, 1, 1, 2, 0, 1, 1, 2, 1, 1, 2, 0, 1, 1, 1, 1, 2, 0, 1, 1, 2, 1, 1, 0, 5, 2, 0], [0, 0, 0, 0, 0, 0, 0, 0, 0, 0, 0, 0, 0, 0, 0, 0, 0, 0, 0, 0, 0, 0, 0, 0, 0, 0, 0, 0, 0, 0, 0, 1, 0, 0], [0, 1, 2, 3, 4, 5, 6, 8, 9, 12, 13, 15, 16, 19, 20, 21, 22, 25, 26, 28, 29, 31, 7, 10, 11, 14, 17, 18, 23, 24, 27, 30, 32, 33], []⟩] 5 = some (.rq (.cells 22 (.v 0))
(.call true 28 [(.sub (.v 0) 16 3 0 noI)]
(.call true 27 [(.v 1)]
(.call true 28 [(.sub (.v 0) 19 3 0 noI)]
(.call true 27 [(.v 3)]
(.rq (.cells 8 (.v 2))
(.rq (.cells 8 (.v 4))
(.call true 29 [(.sub (.v 0) 16 3 0 noI)]
(.call true 29 [(.sub (.v 0) 19 3 0 noI)]
(.rq (.cells 8 (.v 5))
(.rq (.cells 8 (.v 6))
(.call true 30 [(.sub (.v 0) 16 3 0 noI), (.k (.int .i64 (256)))]
(.call true 30 [(.sub (.v 0) 19 3 0 noI), (.k (.int .i64 (256)))]
(.rq (.cells 8 (.v 7))
(.rq (.cells 8 (.v 8))
(.call true 30 [(.sub (.v 0) 19 3 0 noI), (.k (.int .i64 (130)))]
(.rq (.cells 8 (.v 9))
(.call true 29 [(.sub (.v 0) 16 3 0 noI)]
(.rq (.cells 8 (.v 10))
(.rq (.cells 8 (.sub (.put (.put (.z 34) 0 8 (.v 2) 0 noI) 8 8 (.v 4) 0 noI) 8 8 0 noI))
(.eff true 2 32 (opr Try.f5 2 32) [(.put (.put (.z 34) 0 8 (.sub (.v 0) 0 8 0 noI) 0 noI) 8 8 (.sub (.v 0) 8 8 0 noI) 0 noI), (.put (.put (.z 34) 0 8 (.v 5) 0 noI) 8 8 (.v 6) 0 noI), (.put (.put (.z 34) 0 8 (.v 7) 0 noI) 8 8 (.v 8) 0 noI), (.put (.put (.z 34) 0 8 (.sub (.v 0) 0 8 0 noI) 0 noI) 8 8 (.v 9) 0 noI), (.put (.put (.z 34) 0 8 (.v 10) 0 noI) 8 8 (.sub (.put (.put (.z 34) 0 8 (.v 2) 0 noI) 8 8 (.v 4) 0 noI) 8 8 0 noI) 0 noI), (.put (.put (.z 34) 0 8 (.v 2) 0 noI) 8 8 (.v 4) 0 noI)]
(.ret [(.v 11)])))))))))))))))))))))) := by kernel_rfl
theorem np_pairs : (Try.prog.funcs[5]?).map (fun fn => fn.params.size + fn.nfree) = some 1 := by kernel_rfl
theorem op_pairs_2_32 : (opr Try.f5 2 32).op = .buildSlice 32 6 #[(0, (.tmp 17)), (1, (.tmp 24)), (2, (.tmp 31)), (3, (.tmp 37)), (4, (.tmp 43)), (5, (.tmp 44))] := by kernel_rfl
end Go.Proofs.Ytimnofpofbnjbaa

/- MADE BY rxgen.py (mkGT.py): trees of chapter 32. -/
import Derived.Test.YtkcjbfoejpfbbaaGreatDoorProg
import Derived.Test.YtkcjbfoejpfbbaaGreatDoorRxY
namespace Go.Proofs.YtkcjbfoejpfbbaaGreatDoor
open Go.Proofs.Tryz
open Go.RowKit Go.RX
set_option maxRecDepth 100000
theorem d5T:tree prog [] [] [] [] 101=some (.ru V0
(.br (.uo .eql V0 (.k (.int .u64 (0))))
(.ret [(.ki 64)])
(.pm f101 3 6 [(.k (.pointer (some ⟨0,0,none⟩))),(.uo .shr (.uo .mul (.uo .and V0 (.op1 .neg .u64 V0)) (.k (.int .u64 (285870213051353865)))) (.k (.int .u64 (58))))]
(.pm f101 3 7 [V1]
(.rq (.int .u8 V2)
(.ret [(.cv .i64 V2)])))))):=by kernel_rfl
theorem b8L:(opr f101 3 7).op= .load 5 (.tmp 11):=by kernel_rfl
theorem c9l:tree prog [] [] [] [] 128=some (.ru V0
(.ret [(.io .and (.cv .i64 (.uo .add (.uo .add (.uo .add (.uo .and (.uo .add (.uo .shr (.uo .add (.uo .and (.uo .shr (.uo .add (.uo .and (.uo .shr V0 (.k (.int .u64 (1)))) (.k (.int .u64 (6148914691236517205)))) (.uo .and V0 (.k (.int .u64 (6148914691236517205))))) (.k (.int .u64 (2)))) (.k (.int .u64 (3689348814741910323)))) (.uo .and (.uo .add (.uo .and (.uo .shr V0 (.k (.int .u64 (1)))) (.k (.int .u64 (6148914691236517205)))) (.uo .and V0 (.k (.int .u64 (6148914691236517205))))) (.k (.int .u64 (3689348814741910323))))) (.k (.int .u64 (4)))) (.uo .add (.uo .and (.uo .shr (.uo .add (.uo .and (.uo .shr V0 (.k (.int .u64 (1)))) (.k (.int .u64 (6148914691236517205)))) (.uo .and V0 (.k (.int .u64 (6148914691236517205))))) (.k (.int .u64 (2)))) (.k (.int .u64 (3689348814741910323)))) (.uo .and (.uo .add (.uo .and (.uo .shr V0 (.k (.int .u64 (1)))) (.k (.int .u64 (6148914691236517205)))) (.uo .and V0 (.k (.int .u64 (6148914691236517205))))) (.k (.int .u64 (3689348814741910323)))))) (.k (.int .u64 (1085102592571150095)))) (.uo .shr (.uo .and (.uo .add (.uo .shr (.uo .add (.uo .and (.uo .shr (.uo .add (.uo .and (.uo .shr V0 (.k (.int .u64 (1)))) (.k (.int .u64 (6148914691236517205)))) (.uo .and V0 (.k (.int .u64 (6148914691236517205))))) (.k (.int .u64 (2)))) (.k (.int .u64 (3689348814741910323)))) (.uo .and (.uo .add (.uo .and (.uo .shr V0 (.k (.int .u64 (1)))) (.k (.int .u64 (6148914691236517205)))) (.uo .and V0 (.k (.int .u64 (6148914691236517205))))) (.k (.int .u64 (3689348814741910323))))) (.k (.int .u64 (4)))) (.uo .add (.uo .and (.uo .shr (.uo .add (.uo .and (.uo .shr V0 (.k (.int .u64 (1)))) (.k (.int .u64 (6148914691236517205)))) (.uo .and V0 (.k (.int .u64 (6148914691236517205))))) (.k (.int .u64 (2)))) (.k (.int .u64 (3689348814741910323)))) (.uo .and (.uo .add (.uo .and (.uo .shr V0 (.k (.int .u64 (1)))) (.k (.int .u64 (6148914691236517205)))) (.uo .and V0 (.k (.int .u64 (6148914691236517205))))) (.k (.int .u64 (3689348814741910323)))))) (.k (.int .u64 (1085102592571150095)))) (.k (.int .u64 (8))))) (.uo .shr (.uo .add (.uo .and (.uo .add (.uo .shr (.uo .add (.uo .and (.uo .shr (.uo .add (.uo .and (.uo .shr V0 (.k (.int .u64 (1)))) (.k (.int .u64 (6148914691236517205)))) (.uo .and V0 (.k (.int .u64 (6148914691236517205))))) (.k (.int .u64 (2)))) (.k (.int .u64 (3689348814741910323)))) (.uo .and (.uo .add (.uo .and (.uo .shr V0 (.k (.int .u64 (1)))) (.k (.int .u64 (6148914691236517205)))) (.uo .and V0 (.k (.int .u64 (6148914691236517205))))) (.k (.int .u64 (3689348814741910323))))) (.k (.int .u64 (4)))) (.uo .add (.uo .and (.uo .shr (.uo .add (.uo .and (.uo .shr V0 (.k (.int .u64 (1)))) (.k (.int .u64 (6148914691236517205)))) (.uo .and V0 (.k (.int .u64 (6148914691236517205))))) (.k (.int .u64 (2)))) (.k (.int .u64 (3689348814741910323)))) (.uo .and (.uo .add (.uo .and (.uo .shr V0 (.k (.int .u64 (1)))) (.k (.int .u64 (6148914691236517205)))) (.uo .and V0 (.k (.int .u64 (6148914691236517205))))) (.k (.int .u64 (3689348814741910323)))))) (.k (.int .u64 (1085102592571150095)))) (.uo .shr (.uo .and (.uo .add (.uo .shr (.uo .add (.uo .and (.uo .shr (.uo .add (.uo .and (.uo .shr V0 (.k (.int .u64 (1)))) (.k (.int .u64 (6148914691236517205)))) (.uo .and V0 (.k (.int .u64 (6148914691236517205))))) (.k (.int .u64 (2)))) (.k (.int .u64 (3689348814741910323)))) (.uo .and (.uo .add (.uo .and (.uo .shr V0 (.k (.int .u64 (1)))) (.k (.int .u64 (6148914691236517205)))) (.uo .and V0 (.k (.int .u64 (6148914691236517205))))) (.k (.int .u64 (3689348814741910323))))) (.k (.int .u64 (4)))) (.uo .add (.uo .and (.uo .shr (.uo .add (.uo .and (.uo .shr V0 (.k (.int .u64 (1)))) (.k (.int .u64 (6148914691236517205)))) (.uo .and V0 (.k (.int .u64 (6148914691236517205))))) (.k (.int .u64 (2)))) (.k (.int .u64 (3689348814741910323)))) (.uo .and (.uo .add (.uo .and (.uo .shr V0 (.k (.int .u64 (1)))) (.k (.int .u64 (6148914691236517205)))) (.uo .and V0 (.k (.int .u64 (6148914691236517205))))) (.k (.int .u64 (3689348814741910323)))))) (.k (.int .u64 (1085102592571150095)))) (.k (.int .u64 (8))))) (.k (.int .u64 (16))))) (.uo .shr (.uo .add (.uo .add (.uo .and (.uo .add (.uo .shr (.uo .add (.uo .and (.uo .shr (.uo .add (.uo .and (.uo .shr V0 (.k (.int .u64 (1)))) (.k (.int .u64 (6148914691236517205)))) (.uo .and V0 (.k (.int .u64 (6148914691236517205))))) (.k (.int .u64 (2)))) (.k (.int .u64 (3689348814741910323)))) (.uo .and (.uo .add (.uo .and (.uo .shr V0 (.k (.int .u64 (1)))) (.k (.int .u64 (6148914691236517205)))) (.uo .and V0 (.k (.int .u64 (6148914691236517205))))) (.k (.int .u64 (3689348814741910323))))) (.k (.int .u64 (4)))) (.uo .add (.uo .and (.uo .shr (.uo .add (.uo .and (.uo .shr V0 (.k (.int .u64 (1)))) (.k (.int .u64 (6148914691236517205)))) (.uo .and V0 (.k (.int .u64 (6148914691236517205))))) (.k (.int .u64 (2)))) (.k (.int .u64 (3689348814741910323)))) (.uo .and (.uo .add (.uo .and (.uo .shr V0 (.k (.int .u64 (1)))) (.k (.int .u64 (6148914691236517205)))) (.uo .and V0 (.k (.int .u64 (6148914691236517205))))) (.k (.int .u64 (3689348814741910323)))))) (.k (.int .u64 (1085102592571150095)))) (.uo .shr (.uo .and (.uo .add (.uo .shr (.uo .add (.uo .and (.uo .shr (.uo .add (.uo .and (.uo .shr V0 (.k (.int .u64 (1)))) (.k (.int .u64 (6148914691236517205)))) (.uo .and V0 (.k (.int .u64 (6148914691236517205))))) (.k (.int .u64 (2)))) (.k (.int .u64 (3689348814741910323)))) (.uo .and (.uo .add (.uo .and (.uo .shr V0 (.k (.int .u64 (1)))) (.k (.int .u64 (6148914691236517205)))) (.uo .and V0 (.k (.int .u64 (6148914691236517205))))) (.k (.int .u64 (3689348814741910323))))) (.k (.int .u64 (4)))) (.uo .add (.uo .and (.uo .shr (.uo .add (.uo .and (.uo .shr V0 (.k (.int .u64 (1)))) (.k (.int .u64 (6148914691236517205)))) (.uo .and V0 (.k (.int .u64 (6148914691236517205))))) (.k (.int .u64 (2)))) (.k (.int .u64 (3689348814741910323)))) (.uo .and (.uo .add (.uo .and (.uo .shr V0 (.k (.int .u64 (1)))) (.k (.int .u64 (6148914691236517205)))) (.uo .and V0 (.k (.int .u64 (6148914691236517205))))) (.k (.int .u64 (3689348814741910323)))))) (.k (.int .u64 (1085102592571150095)))) (.k (.int .u64 (8))))) (.uo .shr (.uo .add (.uo .and (.uo .add (.uo .shr (.uo .add (.uo .and (.uo .shr (.uo .add (.uo .and (.uo .shr V0 (.k (.int .u64 (1)))) (.k (.int .u64 (6148914691236517205)))) (.uo .and V0 (.k (.int .u64 (6148914691236517205))))) (.k (.int .u64 (2)))) (.k (.int .u64 (3689348814741910323)))) (.uo .and (.uo .add (.uo .and (.uo .shr V0 (.k (.int .u64 (1)))) (.k (.int .u64 (6148914691236517205)))) (.uo .and V0 (.k (.int .u64 (6148914691236517205))))) (.k (.int .u64 (3689348814741910323))))) (.k (.int .u64 (4)))) (.uo .add (.uo .and (.uo .shr (.uo .add (.uo .and (.uo .shr V0 (.k (.int .u64 (1)))) (.k (.int .u64 (6148914691236517205)))) (.uo .and V0 (.k (.int .u64 (6148914691236517205))))) (.k (.int .u64 (2)))) (.k (.int .u64 (3689348814741910323)))) (.uo .and (.uo .add (.uo .and (.uo .shr V0 (.k (.int .u64 (1)))) (.k (.int .u64 (6148914691236517205)))) (.uo .and V0 (.k (.int .u64 (6148914691236517205))))) (.k (.int .u64 (3689348814741910323)))))) (.k (.int .u64 (1085102592571150095)))) (.uo .shr (.uo .and (.uo .add (.uo .shr (.uo .add (.uo .and (.uo .shr (.uo .add (.uo .and (.uo .shr V0 (.k (.int .u64 (1)))) (.k (.int .u64 (6148914691236517205)))) (.uo .and V0 (.k (.int .u64 (6148914691236517205))))) (.k (.int .u64 (2)))) (.k (.int .u64 (3689348814741910323)))) (.uo .and (.uo .add (.uo .and (.uo .shr V0 (.k (.int .u64 (1)))) (.k (.int .u64 (6148914691236517205)))) (.uo .and V0 (.k (.int .u64 (6148914691236517205))))) (.k (.int .u64 (3689348814741910323))))) (.k (.int .u64 (4)))) (.uo .add (.uo .and (.uo .shr (.uo .add (.uo .and (.uo .shr V0 (.k (.int .u64 (1)))) (.k (.int .u64 (6148914691236517205)))) (.uo .and V0 (.k (.int .u64 (6148914691236517205))))) (.k (.int .u64 (2)))) (.k (.int .u64 (3689348814741910323)))) (.uo .and (.uo .add (.uo .and (.uo .shr V0 (.k (.int .u64 (1)))) (.k (.int .u64 (6148914691236517205)))) (.uo .and V0 (.k (.int .u64 (6148914691236517205))))) (.k (.int .u64 (3689348814741910323)))))) (.k (.int .u64 (1085102592571150095)))) (.k (.int .u64 (8))))) (.k (.int .u64 (16))))) (.k (.int .u64 (32)))))) (.ki 127))])):=by kernel_rfl
noncomputable def b8M:Tree:=(.pm f108 1 1 [V0]
(.loop [(.ki 0),(.ki 0)]
(.ri V4
(.ri V2
(.br (.io .lss V4 V2)
(.pm f108 3 1 [V0,V4]
(.pm f108 3 2 [V5]
(.pm f108 4 2 [V1]
(.ri V7
(.br (.io .geq V4 V7)
(.ret [(.ki 1)])
(.pm f108 6 2 [V1,V4]
(.pm f108 6 3 [V8]
(.call false 155 [V6,V9]
(.ri V10
(.br (.io .neq V10 (.ki 0))
(.ret [V10])
(.next 0 [V3,(.io .add V4 (.ki 1))])))))))))))
(.pm f108 11 1 [V0]
(.pm f108 11 3 [V1]
(.ri V5
(.ri V6
(.br (.io .lss V5 V6)
(.ret [(.k (.int .i64 (-1)))])
(.ret [(.ki 0)])))))))))))
theorem b8N:tree prog [] [] [⟨0,2,[],[]⟩] [] 108=some b8M:=by kernel_rfl
noncomputable def b8O:Tree:=(.call false 170 [V0]
(.call false 170 [V1]
(.rq (.bool V2)
(.br V2
(.rq (.bool V3)
(.br V3
(.ret [(.ki 0)])
(.ret [(.k (.int .i64 (-1)))])))
(.rq (.bool V3)
(.br V3
(.ret [(.ki 1)])
(.ri V0
(.ri V1
(.br (.io .lss V0 V1)
(.ret [(.k (.int .i64 (-1)))])
(.br (.io .gtr V0 V1)
(.ret [(.ki 1)])
(.ret [(.ki 0)])))))))))))
theorem b8P:tree prog [] [] [] [] 155=some b8O:=by kernel_rfl
noncomputable def b8Q:Tree:=(.ri V0
(.ret [(.io .neq V0 V0)]))
theorem b8R:tree prog [] [] [] [] 170=some b8Q:=by kernel_rfl
noncomputable def b8S:Tree:=(.pm f21 1 1 [V0]
(.pm f21 1 3 [V1]
(.ri V2
(.ri V3
(.br (.io .neq V2 V3)
(.ret [(.k (.bool false))])
(.pm f21 3 1 [V0]
(.loop [(.k (.bool false)),(.ki 0)]
(.ri V6
(.ri V4
(.br (.io .lss V6 V4)
(.pm f21 6 2 [V0,V6]
(.pm f21 6 3 [V7]
(.pm f21 6 6 [V1,V6]
(.pm f21 6 7 [V9]
(.ri V8
(.ri V10
(.br (.io .neq V8 V10)
(.ret [(.k (.bool false))])
(.next 0 [V5,(.io .add V6 (.ki 1))]))))))))
(.ret [(.k (.bool true))])))))))))))
theorem c9m:tree prog [] [] [⟨0,4,[],[]⟩] [⟨6,[0,0,3,7,0,0,48,112,255],[0,0,1,1,0,0,1,1,0],[0,0,0,0,0,0,0,0,0],[0,1,2,3,4,5,6,7,8],[]⟩] 21=some b8S:=by kernel_rfl
noncomputable def b8T:Tree:=(.pm f24 1 1 [V0]
(.pm f24 1 3 [V1]
(.ri V2
(.ri V3
(.br (.io .neq V2 V3)
(.ret [(.k (.bool false))])
(.pm f24 3 1 [V0]
(.loop [(.k (.bool false)),(.ki 0)]
(.ri V6
(.ri V4
(.br (.io .lss V6 V4)
(.pm f24 6 2 [V0,V6]
(.pm f24 6 3 [V7]
(.pm f24 6 6 [V1,V6]
(.pm f24 6 7 [V9]
(.ri V8
(.ri V10
(.br (.io .neq V8 V10)
(.ret [(.k (.bool false))])
(.next 0 [V5,(.io .add V6 (.ki 1))]))))))))
(.ret [(.k (.bool true))])))))))))))
theorem c9n:tree prog [] [] [⟨0,4,[],[]⟩] [⟨6,[0,0,3,7,0,0,48,112,255],[0,0,1,1,0,0,1,1,0],[0,0,0,0,0,0,0,0,0],[0,1,2,3,4,5,6,7,8],[]⟩] 24=some b8T:=by kernel_rfl
noncomputable def b8U:Tree:=(.call false 109 [V0,V1]
(.ri V2
(.ret [(.io .geq V2 (.ki 0))])))
theorem b8V:tree prog [] [] [] [] 53=some b8U:=by kernel_rfl
noncomputable def b8W:Tree:=(.call false 178 [V0,V1]
(.ri V2
(.ret [(.io .geq V2 (.ki 0))])))
theorem c9o:tree prog [] [] [] [] 112=some b8W:=by kernel_rfl
noncomputable def b8X:Tree:=(.call false 193 [V0,V1]
(.ri V2
(.ret [(.io .geq V2 (.ki 0))])))
theorem c9p:tree prog [] [] [] [] 149=some b8X:=by kernel_rfl
noncomputable def b8Y:Tree:=(.pm f109 1 1 [V0]
(.loop [(.ki 0),(.ki 0)]
(.ri V4
(.ri V2
(.br (.io .lss V4 V2)
(.pm f109 4 3 [V0,V4]
(.pm f109 4 4 [V5]
(.ef false f109 4 5 [V1,V6]
(.rq (.bool V7)
(.br V7
(.ret [V4])
(.next 0 [V3,(.io .add V4 (.ki 1))]))))))
(.ret [(.k (.int .i64 (-1)))]))))))
theorem b8Z:tree prog [] [] [⟨0,2,[],[]⟩] [] 109=some b8Y:=by kernel_rfl
noncomputable def b9a:Tree:=(.pm f178 1 1 [V0]
(.loop [(.ki 0),(.ki 0)]
(.ri V4
(.ri V2
(.br (.io .lss V4 V2)
(.pm f178 4 3 [V0,V4]
(.pm f178 4 4 [V5]
(.ef false f178 4 5 [V1,V6]
(.rq (.bool V7)
(.br V7
(.ret [V4])
(.next 0 [V3,(.io .add V4 (.ki 1))]))))))
(.ret [(.k (.int .i64 (-1)))]))))))
theorem c9q:tree prog [] [] [⟨0,2,[],[]⟩] [] 178=some b9a:=by kernel_rfl
noncomputable def b9b:Tree:=(.pm f193 1 1 [V0]
(.loop [(.ki 0),(.ki 0)]
(.ri V4
(.ri V2
(.br (.io .lss V4 V2)
(.pm f193 4 3 [V0,V4]
(.pm f193 4 4 [V5]
(.ef false f193 4 5 [V1,V6]
(.rq (.bool V7)
(.br V7
(.ret [V4])
(.next 0 [V3,(.io .add V4 (.ki 1))]))))))
(.ret [(.k (.int .i64 (-1)))]))))))
theorem c9r:tree prog [] [] [⟨0,2,[],[]⟩] [] 193=some b9b:=by kernel_rfl
noncomputable def b9c:Tree:=(.pm f104 1 1 [V0]
(.loop [(.ki 0),(.ki 0)]
(.ri V4
(.ri V2
(.br (.io .lss V4 V2)
(.pm f104 4 3 [V0,V4]
(.pm f104 4 4 [V5]
(.ri V1
(.ri V6
(.br (.io .eql V1 V6)
(.ret [V4])
(.next 0 [V3,(.io .add V4 (.ki 1))]))))))
(.ret [(.k (.int .i64 (-1)))]))))))
theorem b9d:tree prog [] [] [⟨0,2,[],[]⟩] [] 104=some b9c:=by kernel_rfl
noncomputable def c6N:Tree:=(.call false 104 [V0,V1]
(.ri V2
(.ret [(.io .geq V2 (.ki 0))])))
theorem c6O:tree prog [] [] [] [] 40=some c6N:=by kernel_rfl
noncomputable def b9e:Tree:=(.pm f50 1 1 [V0,(.k (.slice none 0 0))]
(.rq (.bool V1)
(.br V1
(.ret [(.k (.slice none 0 0))])
(.ef false f50 3 0 []
(.ef false f50 3 2 [V2,V0]
(.ret [V3]))))))
theorem c9s:tree prog [] [] [] [] 50=some b9e:=by kernel_rfl
noncomputable def b9f:Tree:=(.pm f51 1 1 [V0,(.k (.slice none 0 0))]
(.rq (.bool V1)
(.br V1
(.ret [(.k (.slice none 0 0))])
(.ef false f51 3 0 []
(.ef false f51 3 2 [V2,V0]
(.ret [V3]))))))
theorem c9t:tree prog [] [] [] [] 51=some b9f:=by kernel_rfl
noncomputable def b9g:Tree:=(.rq (.cells 2 V0)
(.rq (.int .i64 (.cell V0 0 0 noI))
(.br (.io .lss (.cell V0 0 0 noI) (.ki 1))
(.ret [(.ki 180)])
(.br (.io .gtr (.cell V0 0 0 noI) (.ki 64))
(.ret [(.ki 180)])
(.pm f52 1 11 [(.cell V0 1 0 noI)]
(.ri V1
(.br (.io .gtr V1 (.ki 200))
(.ret [(.ki 180)])
(.pub 100 (.z 100)
(.ef false f52 3 2 [V2,(.put (.put (.z 100) 0 1 (.k (.int .i64 (-1))) 0 noI) 1 1 (.k (.int .i64 (-1))) 0 noI)]
(.pm f52 4 2 [(.cell V0 1 0 noI)]
(.loop [(.ki 0),(.ki 0)]
(.ri V6
(.ri V4
(.br (.io .lss V6 V4)
(.pm f52 6 0 [(.cell V0 1 0 noI),V6]
(.pm f52 6 1 [V7]
(.pub 100 (.z 100)
(.ef false f52 6 3 [V9,V8]
(.pm f52 7 0 [V9,(.ki 0)]
(.pm f52 7 1 [V11]
(.ri V12
(.br (.io .lss V12 (.ki 0))
(.ret [(.ki 180)])
(.pm f52 7 4 [V9,(.ki 0)]
(.pm f52 7 5 [V13]
(.pm f52 7 6 [V9,(.ki 1)]
(.pm f52 7 7 [V15]
(.ri V14
(.ri V16
(.br (.io .geq V14 V16)
(.ret [(.ki 180)])
(.pm f52 7 11 [V9,(.ki 1)]
(.pm f52 7 12 [V17]
(.ri V18
(.br (.io .geq V18 (.cell V0 0 0 noI))
(.ret [(.ki 180)])
(.pm f52 7 18 [V2]
(.pm f52 7 19 [V9]
(.call true 108 [V19,V20]
(.ri V21
(.br (.io .geq V21 (.ki 0))
(.ret [(.ki 180)])
(.pm f52 9 0 [V9]
(.ef false f52 9 1 [V2,V22]
(.next 0 [V5,(.io .add V6 (.ki 1))])))))))))))))))))))))))))))
(.ret [(.ki 0)])))))))))))))))
theorem b9h:tree prog [3,5] [] [⟨0,5,[],[]⟩] [⟨7,[0,1,3,7,15,31,15,79,255,511,1023,2047,4095,2047,10239,32767,65535,131071,262143,262143,1048575,2097151,4194303],[1,1,0,0,1,1,1,1,0,0,0,1,1,0,5,0,0,0,1,1,2,0,0],[0,0,0,0,0,0,0,0,0,0,0,0,0,0,0,0,0,0,0,0,0,0,0],[0,1,2,3,4,5,6,7,8,9,10,11,12,13,14,15,16,17,18,19,20,21,22],[]⟩] 52=some b9g:=by kernel_rfl
noncomputable def c6P:Tree:=(.rq (.cells 2 V0)
(.call false 52 [(.ag V0)]
(.ri V2
(.br (.io .neq V2 (.ki 0))
(.ret [V2])
(.call true 160 [V1]
(.ri V3
(.rq (.int .i64 (.cell V0 0 0 noI))
(.br (.io .gtr V3 (.cell V0 0 0 noI))
(.ret [(.ki 2)])
(.ret [(.ki 0)])))))))))
theorem c6Q:tree prog [] [] [] [⟨4,[0,1,0,4,15],[0,2,0,5,0],[0,0,0,0,0],[0,2,3,1,4],[]⟩] 102=some c6P:=by kernel_rfl
noncomputable def b9i:Tree:=(.rq (.cells 2 V0)
(.call false 102 [(.ag V0),V1]
(.ri V2
(.br (.io .neq V2 (.ki 0))
(.ret [(.k (.bool false)),V2])
(.call false 103 [(.ag V0),V1]
(.pm f39 4 3 [V3]
(.ri V4
(.ret [(.io .eql V4 (.ki 1)),(.ki 0)]))))))))
theorem b9j:tree prog [] [] [] [] 39=some b9i:=by kernel_rfl
noncomputable def c6R:Tree:=(.rq (.cells 2 V0)
(.ef false f171 1 2 [(.cell V0 0 0 noI),(.cell V0 0 0 noI)]
(.pm f171 2 2 [(.cell V0 1 0 noI)]
(.loop [(.ki 0)]
(.ri V3
(.ri V2
(.br (.io .lss V3 V2)
(.pm f171 4 0 [(.cell V0 1 0 noI),V3]
(.pm f171 4 1 [V4]
(.rq (.cells 2 V5)
(.pm f171 5 3 [V1,(.cell V5 0 0 noI)]
(.pm f171 5 4 [V6]
(.rq (.num (.cell V5 1 0 noI))
(.rq (.nn (.cell V5 1 0 noI))
(.ru V7
(.pm f171 5 9 [V1,(.cell V5 0 0 noI)]
(.ef false f171 5 10 [V8,(.uo .or V7 (.uo .shl (.k (.int .u64 (1))) (.cell V5 1 0 noI)))]
(.pm f171 6 3 [V1,(.cell V5 1 0 noI)]
(.pm f171 6 4 [V10]
(.rq (.num (.cell V5 0 0 noI))
(.rq (.nn (.cell V5 0 0 noI))
(.ru V11
(.pm f171 6 9 [V1,(.cell V5 1 0 noI)]
(.ef false f171 6 10 [V12,(.uo .or V11 (.uo .shl (.k (.int .u64 (1))) (.cell V5 0 0 noI)))]
(.next 0 [(.io .add V3 (.ki 1))]))))))))))))))))))
(.ret [V1]))))))))
theorem c6S:tree prog [] [] [⟨0,3,[],[]⟩] [⟨5,[0,0,2,7,15,0,32,96,255,511,1023],[0,0,5,1,1,0,5,0,0,1,8],[0,0,1,0,0,0,1,0,0,0,0],[0,1,2,3,4,5,6,7,8,9],[10]⟩,⟨6,[0,0,2,7,15,0,32,96,255,511,1023],[0,0,5,1,1,0,5,0,0,1,8],[0,0,1,0,0,0,1,0,0,0,0],[0,1,2,3,4,5,6,7,8,9],[10]⟩] 171=some c6R:=by kernel_rfl
noncomputable def b4c:Tree:=(.rq (.cells 2 V0)
(.rq (.cells 1 V1)
(.call false 171 [(.ag V0)]
(.rq (.cells 1 V2)
(.loop [(.k (.slice none 0 0)),(.cell V1 0 0 noI),V0,V1,V2]
(.ru V4
(.br (.uo .neq V4 (.k (.int .u64 (0))))
(.loop [(.uo .and V4 (.op1 .neg .u64 V4)),V5,V6,V7]
(.rq (.cells 1 V8)
(.call false 172 [V8]
(.rf V12 1 [V8]
(.pm f103 9 3 [(.cell V11 0 0 noI),V13]
(.pm f103 9 4 [V15]
(.ru V16
(.rq (.int .u64 (.cell V10 0 0 noI))
(.rq (.int .u64 (.cell V14 0 0 noI))
(.next 2 [(.uo .or (.cell V14 0 0 noI) (.uo .and V16 (.cell V10 0 0 noI)))]))))))
(.rq (.int .u64 (.cell V13 0 0 noI))
(.ru V8
(.br (.uo .eql (.cell V13 0 0 noI) V8)
(.ef false f103 12 2 [V8]
(.ef false f103 12 3 [V3,V14]
(.next 0 [V15,(.uo .andNot V4 V8),V9,V10,V11])))
(.next 1 [(.cell V13 0 0 noI),V9,V10,V11]))))
(.dead 818)))))
(.ret [V3]))))))))
theorem b4d:tree prog [] [] [⟨0,4,[],[0,1,2]⟩,⟨0,6,[],[0,1,2]⟩,⟨4,9,[],[3]⟩] [⟨9,[0,0,0,6,14,0,62,127,255],[5,5,0,1,1,5,0,0,6],[3,2,0,0,0,1,0,0,3],[0,1,2,3,4,5,6,7],[8]⟩] 103=some b4c:=by kernel_rfl
noncomputable def b9k:Tree:=(.rq (.cells 1 V0)
(.pub 34 V0
(.ef false f172 1 0 [V1]
(.ret [V2]))))
theorem b9l:tree prog [1] [] [] [] 172=some b9k:=by kernel_rfl
noncomputable def b4e:Tree:=(.loop []
(.pm f220 0 0 [V1]
(.ru V2
(.br (.uo .neq V2 (.k (.int .u64 (0))))
(.pm f220 2 1 [V1]
(.call false 101 [V3]
(.ef false f220 2 3 [V0,V4]
(.rq (.bool V5)
(.br (.nt V5)
(.ret [])
(.pm f220 1 0 [V1]
(.pm f220 1 1 [V1]
(.ru V7
(.ru V6
(.ef false f220 1 4 [V1,(.uo .and V6 (.uo .sub V7 (.k (.int .u64 (1)))))]
(.next 0 [])))))))))))
(.ret [])))))
theorem b4f:tree prog [] [] [⟨0,0,[],[]⟩] [] 220=some b4e:=by kernel_rfl
noncomputable def b9m:Tree:=(.pm f130 1 1 [V0]
(.loop [(.k (.bool false)),(.ki 0)]
(.ri V4
(.ri V2
(.br (.io .lss V4 V2)
(.pm f130 3 0 [V0,V4]
(.pm f130 3 1 [V5]
(.ri V6
(.br (.io .lss V6 (.ki 0))
(.ret [(.k (.bool false))])
(.ri V1
(.br (.io .geq V6 V1)
(.ret [(.k (.bool false))])
(.next 0 [V3,(.io .add V4 (.ki 1))])))))))
(.pm f130 7 1 [V0]
(.ri V5
(.br (.io .gtr V5 (.ki 0))
(.pm f130 7 5 [V0]
(.ri V6
(.ret [(.io .leq V6 (.ki 64))])))
(.ret [(.k (.bool false))])))))))))
theorem c9u:tree prog [] [] [⟨0,2,[],[]⟩] [] 130=some b9m:=by kernel_rfl
noncomputable def b9n:Tree:=(.ef false f177 1 1 [V1,V1]
(.pm f177 2 1 [V0]
(.loop [(.ki 0)]
(.ri V4
(.ri V3
(.br (.io .lss V4 V3)
(.pm f177 4 1 [V0,V4]
(.pm f177 4 2 [V5]
(.pm f177 5 2 [V2,V6]
(.pm f177 5 3 [V7]
(.rq (.num V4)
(.rq (.nn V4)
(.ru V8
(.pm f177 5 7 [V2,V6]
(.ef false f177 5 8 [V9,(.uo .or V8 (.uo .shl (.k (.int .u64 (1))) V4))]
(.next 0 [(.io .add V4 (.ki 1))]))))))))))
(.loop [(.k (.slice none 0 0)),(.k (.bool false)),(.ki 0)]
(.ri V7
(.ri V1
(.br (.io .lss V7 V1)
(.pm f177 10 2 [V2,V7]
(.pm f177 10 3 [V8]
(.ru V9
(.br (.uo .eql V9 (.k (.int .u64 (0))))
(.ret [(.k (.slice none 0 0)),(.k (.bool false))])
(.next 1 [V5,V6,(.io .add V7 (.ki 1))])))))
(.ret [V2,(.k (.bool true))])))))))))))
theorem c9v:tree prog [] [] [⟨0,3,[],[]⟩,⟨0,8,[],[]⟩] [⟨5,[0,0,3,7,0,16,63,127,255],[0,0,1,1,0,0,0,1,8],[0,0,0,0,0,0,0,0,0],[0,1,2,3,4,5,6,7],[8]⟩] 177=some b9n:=by kernel_rfl
noncomputable def b9o:Tree:=(.rq (.cells 2 V0)
(.call false 52 [(.ag V0)]
(.ri V3
(.br (.io .neq V3 (.ki 0))
(.ret [(.k (.pointer none)),V3])
(.ri V2
(.br (.io .lss V2 (.ki 1))
(.ret [(.k (.pointer none)),(.ki 2)])
(.br (.io .gtr V2 (.ki 8))
(.ret [(.k (.pointer none)),(.ki 2)])
(.pm f176 6 1 [V1]
(.ri V4
(.rq (.int .i64 (.cell V0 0 0 noI))
(.br (.io .neq V4 (.cell V0 0 0 noI))
(.ret [(.k (.pointer none)),(.ki 210)])
(.call false 130 [V1,V2]
(.rq (.bool V5)
(.br (.nt V5)
(.ret [(.k (.pointer none)),(.ki 210)])
(.call false 177 [V1,V2]
(.rq (.tup 0 V6)
(.rq (.tup 1 V6)
(.rq (.bool (.proj V6 1))
(.br (.nt (.proj V6 1))
(.ret [(.k (.pointer none)),(.ki 210)])
(.rq (.cells 1 V1)
(.rq (.cells 1 (.proj V6 0))
(.pub 291 (.cat (.ag V0) 2 (.put (.cat V1 1 (.z 145)) 1 1 (.proj V6 0) 0 noI))
(.ret [V7,(.ki 0)])))))))))))))))))))))))
theorem c9w:tree prog [45] [] [] [] 176=some b9o:=by kernel_rfl
noncomputable def b9p:Tree:=(.rq (.cells 2 V0)
(.call false 176 [(.ag V0),V1,V2]
(.rq (.tup 0 V3)
(.rq (.tup 1 V3)
(.ret [(.proj V3 1)])))))
theorem c9x:tree prog [] [] [] [] 110=some b9p:=by kernel_rfl
noncomputable def b9q:Tree:=(.call false 130 [V0,(.ki 8)]
(.rq (.bool V1)
(.br (.nt V1)
(.ret [(.k (.slice none 0 0)),(.ki 210)])
(.ef false f68 3 0 []
(.pm f68 4 1 [V0]
(.ef false f68 4 2 [V3,V3]
(.pm f68 5 1 [V0]
(.loop [(.ki 0)]
(.ri V6
(.ri V5
(.br (.io .lss V6 V5)
(.pm f68 7 1 [V0,V6]
(.pm f68 7 2 [V7]
(.pm f68 8 2 [V2,V8]
(.rq (.tup 0 V9)
(.rq (.tup 1 V9)
(.rq (.bool (.proj V9 1))
(.br (.nt (.proj V9 1))
(.pm f68 10 1 [V2]
(.ef false f68 11 3 [V2,V8,V10]
(.pm f68 12 3 [V4,V6]
(.ef false f68 12 4 [V12,V10]
(.next 0 [(.io .add V6 (.ki 1))])))))
(.pm f68 12 3 [V4,V6]
(.ef false f68 12 4 [V10,(.proj V9 0)]
(.next 0 [(.io .add V6 (.ki 1))]))))))))))
(.ret [V4,(.ki 0)]))))))))))))
theorem c9y:tree prog [] [] [⟨0,6,[],[]⟩] [] 68=some b9q:=by kernel_rfl
noncomputable def b9r:Tree:=(.ri V1
(.br (.io .lss V1 (.ki 1))
(.ret [(.k (.slice none 0 0)),(.ki 2)])
(.br (.io .gtr V1 (.ki 8))
(.ret [(.k (.slice none 0 0)),(.ki 2)])
(.call false 130 [V0,V1]
(.rq (.bool V2)
(.br (.nt V2)
(.ret [(.k (.slice none 0 0)),(.ki 210)])
(.call false 177 [V0,V1]
(.rq (.tup 0 V3)
(.rq (.tup 1 V3)
(.rq (.bool (.proj V3 1))
(.br (.nt (.proj V3 1))
(.ret [(.k (.slice none 0 0)),(.ki 210)])
(.ret [(.proj V3 0),(.ki 0)]))))))))))))
theorem c9z:tree prog [] [] [] [] 111=some b9r:=by kernel_rfl
end Go.Proofs.YtkcjbfoejpfbbaaGreatDoor

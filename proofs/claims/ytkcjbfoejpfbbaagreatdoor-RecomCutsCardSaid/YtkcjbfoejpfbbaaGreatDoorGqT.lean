/- MADE BY rxgen.py (mkGT.py): trees of chapter 32. -/
import Derived.Test.YtkcjbfoejpfbbaaGreatDoorProg
import Derived.Test.YtkcjbfoejpfbbaaGreatDoorRxY
namespace Go.Proofs.YtkcjbfoejpfbbaaGreatDoor
open Go.Proofs.Tryz
open Go.RowKit Go.RX
set_option maxRecDepth 100000
noncomputable def b4B:Tree:=(.pm f83 1 1 [V0]
(.loop [(.ki 0),(.ki 0)]
(.ri V4
(.ri V2
(.br (.io .lss V4 V2)
(.pm f83 3 1 [V0,V4]
(.pm f83 3 2 [V5]
(.pm f83 4 2 [V1]
(.ri V7
(.br (.io .geq V4 V7)
(.ret [(.ki 1)])
(.pm f83 6 2 [V1,V4]
(.pm f83 6 3 [V8]
(.call false 155 [V6,V9]
(.ri V10
(.br (.io .neq V10 (.ki 0))
(.ret [V10])
(.next 0 [V3,(.io .add V4 (.ki 1))])))))))))))
(.pm f83 11 1 [V0]
(.pm f83 11 3 [V1]
(.ri V5
(.ri V6
(.br (.io .lss V5 V6)
(.ret [(.k (.int .i64 (-1)))])
(.ret [(.ki 0)])))))))))))
theorem c4X:tree prog [] [] [⟨0,2,[],[]⟩] [] 83=some b4B:=by kernel_rfl
noncomputable def c0V:Tree:=(.pm f30 1 1 [V0]
(.pm f30 1 3 [V1]
(.ri V2
(.ri V3
(.br (.io .neq V2 V3)
(.ret [(.k (.bool false))])
(.pm f30 3 1 [V0]
(.loop [(.k (.bool false)),(.ki 0)]
(.ri V6
(.ri V4
(.br (.io .lss V6 V4)
(.pm f30 6 2 [V0,V6]
(.pm f30 6 3 [V7]
(.pm f30 6 6 [V1,V6]
(.pm f30 6 7 [V9]
(.pm f30 6 8 [V8,V10]
(.rq (.bool V11)
(.br V11
(.ret [(.k (.bool false))])
(.next 0 [V5,(.io .add V6 (.ki 1))]))))))))
(.ret [(.k (.bool true))])))))))))))
theorem c9U:tree prog [] [] [⟨0,4,[],[]⟩] [⟨6,[0,0,3,7,0,0,48,112,255],[0,0,1,1,0,0,1,1,1],[0,0,0,0,0,0,0,0,0],[0,1,2,3,4,5,6,7,8],[]⟩] 30=some c0V:=by kernel_rfl
noncomputable def b4C:Tree:=(.call false 160 [V0]
(.ret [V1]))
theorem c4Y:tree prog [] [] [] [] 154=some b4C:=by kernel_rfl
noncomputable def c0W:Tree:=(.pm f81 0 1 [V0]
(.ri V2
(.call false 154 [(.cv .u64 V2)]
(.call false 153 [V0,(.ki 0),V2,V3,V1]
(.ret [])))))
theorem c9V:tree prog [] [] [] [] 81=some c0W:=by kernel_rfl
noncomputable def c0X:Tree:=(.loop [V3,(.k (.bool true)),V1,(.k (.bool true)),V2]
(.ri V9
(.ri V7
(.br (.io .leq (.io .sub V9 V7) (.ki 12))
(.call false 200 [V0,V7,V9,V4]
(.ret []))
(.ri V5
(.br (.io .eql V5 (.ki 0))
(.call false 201 [V0,V7,V9,V4]
(.ret []))
(.rq (.bool V8)
(.br (.nt V8)
(.call false 202 [V0,V7,V9,V4]
(.call false 203 [V0,V7,V9,V4]
(.rq (.tup 0 V11)
(.rq (.tup 1 V11)
(.rq (.int .i64 (.proj V11 1))
(.br (.io .eql (.proj V11 1) (.ki 2))
(.call false 204 [V0,V7,V9,V4]
(.rq (.int .i64 (.proj V11 0))
(.br (.io .gtr V7 (.ki 0))
(.pm f153 17 7 [V0,(.io .sub V7 (.ki 1))]
(.pm f153 17 8 [V13]
(.pm f153 17 11 [V0,(.io .sub (.io .sub V9 (.ki 1)) (.io .sub (.proj V11 0) V7))]
(.pm f153 17 12 [V15]
(.ef true f153 17 13 [V4,V14,V16]
(.ri V17
(.br (.nt (.io .lss V17 (.ki 0)))
(.call false 206 [V0,V7,V9,(.io .sub (.io .sub V9 (.ki 1)) (.io .sub (.proj V11 0) V7)),V4]
(.next 0 [(.io .sub V5 (.ki 1)),V6,V18,V8,V9]))
(.call false 207 [V0,V7,V9,(.io .sub (.io .sub V9 (.ki 1)) (.io .sub (.proj V11 0) V7)),V4]
(.rq (.tup 0 V18)
(.rq (.tup 1 V18)
(.rq (.int .i64 (.proj V18 0))
(.br (.io .lss (.io .sub (.proj V18 0) V7) (.io .sub V9 (.proj V18 0)))
(.call false 153 [V0,V7,(.proj V18 0),(.io .sub V5 (.ki 1)),V4]
(.next 0 [(.io .sub V5 (.ki 1)),(.proj V18 1),(.io .add (.proj V18 0) (.ki 1)),(.io .geq (.io .sub (.proj V18 0) V7) (.io .quo (.io .sub V9 V7) (.ki 8))),V9]))
(.call false 153 [V0,(.io .add (.proj V18 0) (.ki 1)),V9,(.io .sub V5 (.ki 1)),V4]
(.next 0 [(.io .sub V5 (.ki 1)),(.proj V18 1),V7,(.io .geq (.io .sub V9 (.proj V18 0)) (.io .quo (.io .sub V9 V7) (.ki 8))),(.proj V18 0)]))))))))))))))
(.call false 207 [V0,V7,V9,(.io .sub (.io .sub V9 (.ki 1)) (.io .sub (.proj V11 0) V7)),V4]
(.rq (.tup 0 V13)
(.rq (.tup 1 V13)
(.rq (.int .i64 (.proj V13 0))
(.br (.io .lss (.io .sub (.proj V13 0) V7) (.io .sub V9 (.proj V13 0)))
(.call false 153 [V0,V7,(.proj V13 0),(.io .sub V5 (.ki 1)),V4]
(.next 0 [(.io .sub V5 (.ki 1)),(.proj V13 1),(.io .add (.proj V13 0) (.ki 1)),(.io .geq (.io .sub (.proj V13 0) V7) (.io .quo (.io .sub V9 V7) (.ki 8))),V9]))
(.call false 153 [V0,(.io .add (.proj V13 0) (.ki 1)),V9,(.io .sub V5 (.ki 1)),V4]
(.next 0 [(.io .sub V5 (.ki 1)),(.proj V13 1),V7,(.io .geq (.io .sub V9 (.proj V13 0)) (.io .quo (.io .sub V9 V7) (.ki 8))),(.proj V13 0)]))))))))))
(.br (.io .gtr V7 (.ki 0))
(.pm f153 17 7 [V0,(.io .sub V7 (.ki 1))]
(.pm f153 17 8 [V12]
(.pm f153 17 11 [V0,(.proj V11 0)]
(.pm f153 17 12 [V14]
(.ef true f153 17 13 [V4,V13,V15]
(.ri V16
(.br (.nt (.io .lss V16 (.ki 0)))
(.call false 206 [V0,V7,V9,(.proj V11 0),V4]
(.next 0 [(.io .sub V5 (.ki 1)),V6,V17,V8,V9]))
(.call false 207 [V0,V7,V9,(.proj V11 0),V4]
(.rq (.tup 0 V17)
(.rq (.tup 1 V17)
(.rq (.int .i64 (.proj V17 0))
(.br (.io .lss (.io .sub (.proj V17 0) V7) (.io .sub V9 (.proj V17 0)))
(.call false 153 [V0,V7,(.proj V17 0),(.io .sub V5 (.ki 1)),V4]
(.next 0 [(.io .sub V5 (.ki 1)),(.proj V17 1),(.io .add (.proj V17 0) (.ki 1)),(.io .geq (.io .sub (.proj V17 0) V7) (.io .quo (.io .sub V9 V7) (.ki 8))),V9]))
(.call false 153 [V0,(.io .add (.proj V17 0) (.ki 1)),V9,(.io .sub V5 (.ki 1)),V4]
(.next 0 [(.io .sub V5 (.ki 1)),(.proj V17 1),V7,(.io .geq (.io .sub V9 (.proj V17 0)) (.io .quo (.io .sub V9 V7) (.ki 8))),(.proj V17 0)]))))))))))))))
(.call false 207 [V0,V7,V9,(.proj V11 0),V4]
(.rq (.tup 0 V12)
(.rq (.tup 1 V12)
(.rq (.int .i64 (.proj V12 0))
(.br (.io .lss (.io .sub (.proj V12 0) V7) (.io .sub V9 (.proj V12 0)))
(.call false 153 [V0,V7,(.proj V12 0),(.io .sub V5 (.ki 1)),V4]
(.next 0 [(.io .sub V5 (.ki 1)),(.proj V12 1),(.io .add (.proj V12 0) (.ki 1)),(.io .geq (.io .sub (.proj V12 0) V7) (.io .quo (.io .sub V9 V7) (.ki 8))),V9]))
(.call false 153 [V0,(.io .add (.proj V12 0) (.ki 1)),V9,(.io .sub V5 (.ki 1)),V4]
(.next 0 [(.io .sub V5 (.ki 1)),(.proj V12 1),V7,(.io .geq (.io .sub V9 (.proj V12 0)) (.io .quo (.io .sub V9 V7) (.ki 8))),(.proj V12 0)]))))))))))))))
(.call false 203 [V0,V7,V9,V4]
(.rq (.tup 0 V10)
(.rq (.tup 1 V10)
(.rq (.int .i64 (.proj V10 1))
(.br (.io .eql (.proj V10 1) (.ki 2))
(.call false 204 [V0,V7,V9,V4]
(.rq (.int .i64 (.proj V10 0))
(.rq (.bool V6)
(.br V6
(.br (.io .eql (.ki 1) (.ki 1))
(.call false 205 [V0,V7,V9,V4]
(.rq (.bool V12)
(.br V12
(.ret [])
(.br (.io .gtr V7 (.ki 0))
(.pm f153 17 7 [V0,(.io .sub V7 (.ki 1))]
(.pm f153 17 8 [V13]
(.pm f153 17 11 [V0,(.io .sub (.io .sub V9 (.ki 1)) (.io .sub (.proj V10 0) V7))]
(.pm f153 17 12 [V15]
(.ef true f153 17 13 [V4,V14,V16]
(.ri V17
(.br (.nt (.io .lss V17 (.ki 0)))
(.call false 206 [V0,V7,V9,(.io .sub (.io .sub V9 (.ki 1)) (.io .sub (.proj V10 0) V7)),V4]
(.next 0 [V5,V6,V18,V8,V9]))
(.call false 207 [V0,V7,V9,(.io .sub (.io .sub V9 (.ki 1)) (.io .sub (.proj V10 0) V7)),V4]
(.rq (.tup 0 V18)
(.rq (.tup 1 V18)
(.rq (.int .i64 (.proj V18 0))
(.br (.io .lss (.io .sub (.proj V18 0) V7) (.io .sub V9 (.proj V18 0)))
(.call false 153 [V0,V7,(.proj V18 0),V5,V4]
(.next 0 [V5,(.proj V18 1),(.io .add (.proj V18 0) (.ki 1)),(.io .geq (.io .sub (.proj V18 0) V7) (.io .quo (.io .sub V9 V7) (.ki 8))),V9]))
(.call false 153 [V0,(.io .add (.proj V18 0) (.ki 1)),V9,V5,V4]
(.next 0 [V5,(.proj V18 1),V7,(.io .geq (.io .sub V9 (.proj V18 0)) (.io .quo (.io .sub V9 V7) (.ki 8))),(.proj V18 0)]))))))))))))))
(.call false 207 [V0,V7,V9,(.io .sub (.io .sub V9 (.ki 1)) (.io .sub (.proj V10 0) V7)),V4]
(.rq (.tup 0 V13)
(.rq (.tup 1 V13)
(.rq (.int .i64 (.proj V13 0))
(.br (.io .lss (.io .sub (.proj V13 0) V7) (.io .sub V9 (.proj V13 0)))
(.call false 153 [V0,V7,(.proj V13 0),V5,V4]
(.next 0 [V5,(.proj V13 1),(.io .add (.proj V13 0) (.ki 1)),(.io .geq (.io .sub (.proj V13 0) V7) (.io .quo (.io .sub V9 V7) (.ki 8))),V9]))
(.call false 153 [V0,(.io .add (.proj V13 0) (.ki 1)),V9,V5,V4]
(.next 0 [V5,(.proj V13 1),V7,(.io .geq (.io .sub V9 (.proj V13 0)) (.io .quo (.io .sub V9 V7) (.ki 8))),(.proj V13 0)])))))))))))
(.br (.io .gtr V7 (.ki 0))
(.pm f153 17 7 [V0,(.io .sub V7 (.ki 1))]
(.pm f153 17 8 [V12]
(.pm f153 17 11 [V0,(.io .sub (.io .sub V9 (.ki 1)) (.io .sub (.proj V10 0) V7))]
(.pm f153 17 12 [V14]
(.ef true f153 17 13 [V4,V13,V15]
(.ri V16
(.br (.nt (.io .lss V16 (.ki 0)))
(.call false 206 [V0,V7,V9,(.io .sub (.io .sub V9 (.ki 1)) (.io .sub (.proj V10 0) V7)),V4]
(.next 0 [V5,V6,V17,V8,V9]))
(.call false 207 [V0,V7,V9,(.io .sub (.io .sub V9 (.ki 1)) (.io .sub (.proj V10 0) V7)),V4]
(.rq (.tup 0 V17)
(.rq (.tup 1 V17)
(.rq (.int .i64 (.proj V17 0))
(.br (.io .lss (.io .sub (.proj V17 0) V7) (.io .sub V9 (.proj V17 0)))
(.call false 153 [V0,V7,(.proj V17 0),V5,V4]
(.next 0 [V5,(.proj V17 1),(.io .add (.proj V17 0) (.ki 1)),(.io .geq (.io .sub (.proj V17 0) V7) (.io .quo (.io .sub V9 V7) (.ki 8))),V9]))
(.call false 153 [V0,(.io .add (.proj V17 0) (.ki 1)),V9,V5,V4]
(.next 0 [V5,(.proj V17 1),V7,(.io .geq (.io .sub V9 (.proj V17 0)) (.io .quo (.io .sub V9 V7) (.ki 8))),(.proj V17 0)]))))))))))))))
(.call false 207 [V0,V7,V9,(.io .sub (.io .sub V9 (.ki 1)) (.io .sub (.proj V10 0) V7)),V4]
(.rq (.tup 0 V12)
(.rq (.tup 1 V12)
(.rq (.int .i64 (.proj V12 0))
(.br (.io .lss (.io .sub (.proj V12 0) V7) (.io .sub V9 (.proj V12 0)))
(.call false 153 [V0,V7,(.proj V12 0),V5,V4]
(.next 0 [V5,(.proj V12 1),(.io .add (.proj V12 0) (.ki 1)),(.io .geq (.io .sub (.proj V12 0) V7) (.io .quo (.io .sub V9 V7) (.ki 8))),V9]))
(.call false 153 [V0,(.io .add (.proj V12 0) (.ki 1)),V9,V5,V4]
(.next 0 [V5,(.proj V12 1),V7,(.io .geq (.io .sub V9 (.proj V12 0)) (.io .quo (.io .sub V9 V7) (.ki 8))),(.proj V12 0)])))))))))
(.br (.io .gtr V7 (.ki 0))
(.pm f153 17 7 [V0,(.io .sub V7 (.ki 1))]
(.pm f153 17 8 [V12]
(.pm f153 17 11 [V0,(.io .sub (.io .sub V9 (.ki 1)) (.io .sub (.proj V10 0) V7))]
(.pm f153 17 12 [V14]
(.ef true f153 17 13 [V4,V13,V15]
(.ri V16
(.br (.nt (.io .lss V16 (.ki 0)))
(.call false 206 [V0,V7,V9,(.io .sub (.io .sub V9 (.ki 1)) (.io .sub (.proj V10 0) V7)),V4]
(.next 0 [V5,V6,V17,V8,V9]))
(.call false 207 [V0,V7,V9,(.io .sub (.io .sub V9 (.ki 1)) (.io .sub (.proj V10 0) V7)),V4]
(.rq (.tup 0 V17)
(.rq (.tup 1 V17)
(.rq (.int .i64 (.proj V17 0))
(.br (.io .lss (.io .sub (.proj V17 0) V7) (.io .sub V9 (.proj V17 0)))
(.call false 153 [V0,V7,(.proj V17 0),V5,V4]
(.next 0 [V5,(.proj V17 1),(.io .add (.proj V17 0) (.ki 1)),(.io .geq (.io .sub (.proj V17 0) V7) (.io .quo (.io .sub V9 V7) (.ki 8))),V9]))
(.call false 153 [V0,(.io .add (.proj V17 0) (.ki 1)),V9,V5,V4]
(.next 0 [V5,(.proj V17 1),V7,(.io .geq (.io .sub V9 (.proj V17 0)) (.io .quo (.io .sub V9 V7) (.ki 8))),(.proj V17 0)]))))))))))))))
(.call false 207 [V0,V7,V9,(.io .sub (.io .sub V9 (.ki 1)) (.io .sub (.proj V10 0) V7)),V4]
(.rq (.tup 0 V12)
(.rq (.tup 1 V12)
(.rq (.int .i64 (.proj V12 0))
(.br (.io .lss (.io .sub (.proj V12 0) V7) (.io .sub V9 (.proj V12 0)))
(.call false 153 [V0,V7,(.proj V12 0),V5,V4]
(.next 0 [V5,(.proj V12 1),(.io .add (.proj V12 0) (.ki 1)),(.io .geq (.io .sub (.proj V12 0) V7) (.io .quo (.io .sub V9 V7) (.ki 8))),V9]))
(.call false 153 [V0,(.io .add (.proj V12 0) (.ki 1)),V9,V5,V4]
(.next 0 [V5,(.proj V12 1),V7,(.io .geq (.io .sub V9 (.proj V12 0)) (.io .quo (.io .sub V9 V7) (.ki 8))),(.proj V12 0)]))))))))))))
(.rq (.bool V6)
(.br V6
(.br (.io .eql (.proj V10 1) (.ki 1))
(.call false 205 [V0,V7,V9,V4]
(.rq (.bool V11)
(.br V11
(.ret [])
(.br (.io .gtr V7 (.ki 0))
(.pm f153 17 7 [V0,(.io .sub V7 (.ki 1))]
(.pm f153 17 8 [V12]
(.pm f153 17 11 [V0,(.proj V10 0)]
(.pm f153 17 12 [V14]
(.ef true f153 17 13 [V4,V13,V15]
(.ri V16
(.br (.nt (.io .lss V16 (.ki 0)))
(.call false 206 [V0,V7,V9,(.proj V10 0),V4]
(.next 0 [V5,V6,V17,V8,V9]))
(.call false 207 [V0,V7,V9,(.proj V10 0),V4]
(.rq (.tup 0 V17)
(.rq (.tup 1 V17)
(.rq (.int .i64 (.proj V17 0))
(.br (.io .lss (.io .sub (.proj V17 0) V7) (.io .sub V9 (.proj V17 0)))
(.call false 153 [V0,V7,(.proj V17 0),V5,V4]
(.next 0 [V5,(.proj V17 1),(.io .add (.proj V17 0) (.ki 1)),(.io .geq (.io .sub (.proj V17 0) V7) (.io .quo (.io .sub V9 V7) (.ki 8))),V9]))
(.call false 153 [V0,(.io .add (.proj V17 0) (.ki 1)),V9,V5,V4]
(.next 0 [V5,(.proj V17 1),V7,(.io .geq (.io .sub V9 (.proj V17 0)) (.io .quo (.io .sub V9 V7) (.ki 8))),(.proj V17 0)]))))))))))))))
(.call false 207 [V0,V7,V9,(.proj V10 0),V4]
(.rq (.tup 0 V12)
(.rq (.tup 1 V12)
(.rq (.int .i64 (.proj V12 0))
(.br (.io .lss (.io .sub (.proj V12 0) V7) (.io .sub V9 (.proj V12 0)))
(.call false 153 [V0,V7,(.proj V12 0),V5,V4]
(.next 0 [V5,(.proj V12 1),(.io .add (.proj V12 0) (.ki 1)),(.io .geq (.io .sub (.proj V12 0) V7) (.io .quo (.io .sub V9 V7) (.ki 8))),V9]))
(.call false 153 [V0,(.io .add (.proj V12 0) (.ki 1)),V9,V5,V4]
(.next 0 [V5,(.proj V12 1),V7,(.io .geq (.io .sub V9 (.proj V12 0)) (.io .quo (.io .sub V9 V7) (.ki 8))),(.proj V12 0)])))))))))))
(.br (.io .gtr V7 (.ki 0))
(.pm f153 17 7 [V0,(.io .sub V7 (.ki 1))]
(.pm f153 17 8 [V11]
(.pm f153 17 11 [V0,(.proj V10 0)]
(.pm f153 17 12 [V13]
(.ef true f153 17 13 [V4,V12,V14]
(.ri V15
(.br (.nt (.io .lss V15 (.ki 0)))
(.call false 206 [V0,V7,V9,(.proj V10 0),V4]
(.next 0 [V5,V6,V16,V8,V9]))
(.call false 207 [V0,V7,V9,(.proj V10 0),V4]
(.rq (.tup 0 V16)
(.rq (.tup 1 V16)
(.rq (.int .i64 (.proj V16 0))
(.br (.io .lss (.io .sub (.proj V16 0) V7) (.io .sub V9 (.proj V16 0)))
(.call false 153 [V0,V7,(.proj V16 0),V5,V4]
(.next 0 [V5,(.proj V16 1),(.io .add (.proj V16 0) (.ki 1)),(.io .geq (.io .sub (.proj V16 0) V7) (.io .quo (.io .sub V9 V7) (.ki 8))),V9]))
(.call false 153 [V0,(.io .add (.proj V16 0) (.ki 1)),V9,V5,V4]
(.next 0 [V5,(.proj V16 1),V7,(.io .geq (.io .sub V9 (.proj V16 0)) (.io .quo (.io .sub V9 V7) (.ki 8))),(.proj V16 0)]))))))))))))))
(.call false 207 [V0,V7,V9,(.proj V10 0),V4]
(.rq (.tup 0 V11)
(.rq (.tup 1 V11)
(.rq (.int .i64 (.proj V11 0))
(.br (.io .lss (.io .sub (.proj V11 0) V7) (.io .sub V9 (.proj V11 0)))
(.call false 153 [V0,V7,(.proj V11 0),V5,V4]
(.next 0 [V5,(.proj V11 1),(.io .add (.proj V11 0) (.ki 1)),(.io .geq (.io .sub (.proj V11 0) V7) (.io .quo (.io .sub V9 V7) (.ki 8))),V9]))
(.call false 153 [V0,(.io .add (.proj V11 0) (.ki 1)),V9,V5,V4]
(.next 0 [V5,(.proj V11 1),V7,(.io .geq (.io .sub V9 (.proj V11 0)) (.io .quo (.io .sub V9 V7) (.ki 8))),(.proj V11 0)])))))))))
(.br (.io .gtr V7 (.ki 0))
(.pm f153 17 7 [V0,(.io .sub V7 (.ki 1))]
(.pm f153 17 8 [V11]
(.pm f153 17 11 [V0,(.proj V10 0)]
(.pm f153 17 12 [V13]
(.ef true f153 17 13 [V4,V12,V14]
(.ri V15
(.br (.nt (.io .lss V15 (.ki 0)))
(.call false 206 [V0,V7,V9,(.proj V10 0),V4]
(.next 0 [V5,V6,V16,V8,V9]))
(.call false 207 [V0,V7,V9,(.proj V10 0),V4]
(.rq (.tup 0 V16)
(.rq (.tup 1 V16)
(.rq (.int .i64 (.proj V16 0))
(.br (.io .lss (.io .sub (.proj V16 0) V7) (.io .sub V9 (.proj V16 0)))
(.call false 153 [V0,V7,(.proj V16 0),V5,V4]
(.next 0 [V5,(.proj V16 1),(.io .add (.proj V16 0) (.ki 1)),(.io .geq (.io .sub (.proj V16 0) V7) (.io .quo (.io .sub V9 V7) (.ki 8))),V9]))
(.call false 153 [V0,(.io .add (.proj V16 0) (.ki 1)),V9,V5,V4]
(.next 0 [V5,(.proj V16 1),V7,(.io .geq (.io .sub V9 (.proj V16 0)) (.io .quo (.io .sub V9 V7) (.ki 8))),(.proj V16 0)]))))))))))))))
(.call false 207 [V0,V7,V9,(.proj V10 0),V4]
(.rq (.tup 0 V11)
(.rq (.tup 1 V11)
(.rq (.int .i64 (.proj V11 0))
(.br (.io .lss (.io .sub (.proj V11 0) V7) (.io .sub V9 (.proj V11 0)))
(.call false 153 [V0,V7,(.proj V11 0),V5,V4]
(.next 0 [V5,(.proj V11 1),(.io .add (.proj V11 0) (.ki 1)),(.io .geq (.io .sub (.proj V11 0) V7) (.io .quo (.io .sub V9 V7) (.ki 8))),V9]))
(.call false 153 [V0,(.io .add (.proj V11 0) (.ki 1)),V9,V5,V4]
(.next 0 [V5,(.proj V11 1),V7,(.io .geq (.io .sub V9 (.proj V11 0)) (.io .quo (.io .sub V9 V7) (.ki 8))),(.proj V11 0)])))))))))))))))))))))))
theorem c9W:tree prog [] [] [⟨0,2,[],[]⟩] [⟨17,[0,1,3,7,7,7,39,119,247,7,7,1543,3591,8191,16383,32767,65535],[0,0,0,0,0,0,0,1,1,0,0,1,1,2,0,0,0],[0,0,0,0,0,0,0,0,0,0,0,0,0,0,0,0,0],[0,1,2,3,4,5,6,7,8,9,10,11,12,13,14,15,16],[]⟩] 153=some c0X:=by kernel_rfl
noncomputable def c0Y:Tree:=(.ri V1
(.loop [(.io .add V1 (.ki 1))]
(.ri V4
(.ri V2
(.br (.io .lss V4 V2)
(.loop [V4]
(.ri V5
(.br (.io .gtr V5 V1)
(.pm f200 4 7 [V0,V5]
(.pm f200 4 8 [V6]
(.pm f200 4 12 [V0,(.io .sub V5 (.ki 1))]
(.pm f200 4 13 [V8]
(.ef true f200 4 14 [V3,V7,V9]
(.ri V10
(.br (.io .lss V10 (.ki 0))
(.pm f200 6 8 [V0,(.io .sub V5 (.ki 1))]
(.pm f200 6 9 [V11]
(.pm f200 6 12 [V0,V5]
(.pm f200 6 13 [V13]
(.pm f200 6 14 [V0,V5]
(.ef false f200 6 15 [V15,V12]
(.pm f200 6 16 [V0,(.io .sub V5 (.ki 1))]
(.ef false f200 6 17 [V17,V14]
(.next 1 [(.io .sub V5 (.ki 1))])))))))))
(.next 0 [(.io .add V4 (.ki 1))]))))))))
(.next 0 [(.io .add V4 (.ki 1))]))))
(.ret []))))))
theorem c9X:tree prog [] [] [⟨0,1,[],[]⟩,⟨0,4,[],[]⟩] [⟨4,[0,0,3,7,15,15,15,111,239,15,15,1039,3599,7695,16383,32767,65535],[0,0,0,0,0,0,0,1,1,0,0,0,1,1,2,0,0],[0,0,0,0,0,0,0,0,0,0,0,0,0,0,0,0,0],[0,1,2,3,4,5,6,7,8,9,10,11,12,13,14,15,16],[]⟩,⟨6,[0,0,0,0,8,0,0,64,224,480,0,0,3072,7168,16355,32739,65535,131071],[0,0,0,0,0,0,0,0,1,1,0,0,1,1,1,8,7,8],[0,0,0,0,0,0,0,0,0,0,0,0,0,0,0,0,0,0],[0,1,2,3,4,5,6,7,8,9,10,11,12,13,14],[15,16,17]⟩] 200=some c0Y:=by kernel_rfl
end Go.Proofs.YtkcjbfoejpfbbaaGreatDoor

/- MADE BY rxgen.py (mkGT.py): trees of chapter 32. -/
import Derived.Test.YtkcjbfoejpfbbaaGreatDoorProg
import Derived.Test.YtkcjbfoejpfbbaaGreatDoorRxY
namespace Go.Proofs.YtkcjbfoejpfbbaaGreatDoor
open Go.Proofs.Tryz
open Go.RowKit Go.RX
set_option maxRecDepth 100000
theorem d1c:tree prog [2,3,4] [] [⟨4,11,[],[1,4]⟩] [⟨5,[0,1,3,7,15,15,15,111,255,511,1023],[5,2,0,0,5,1,1,2,2,0,0],[1,0,0,0,1,0,0,0,0,0,0],[0,1,2,3,4,5,6,7,8,9,10],[]⟩] 35=some (.rq (.cells 2 V0)
(.pub 38 V0
(.rq (.cells 1 V1)
(.pub 34 V1
(.rq (.cells 8 V2)
(.pm f35 1 0 [V3]
(.pm f35 1 1 [V4]
(.call false 91 [V5,V6]
(.ri V7
(.br (.io .neq V7 (.ki 0))
(.ret [(.k (.slice none 0 0)),V7])
(.call false 94 [(.ag V2)]
(.rq (.cells 2 V8)
(.call true 95 [(.ag V8)]
(.ri V9
(.br (.io .lss V9 (.ki 0))
(.ret [(.k (.slice none 0 0)),(.ki 2)])
(.pm f35 5 5 [V3]
(.pm f35 5 6 [V4]
(.call true 92 [V10,V11,(.k (.map none)),(.k (.map none))]
(.call true 96 [(.ag V8),V12]
(.ri V13
(.br (.io .geq V13 (.ki 0))
(.ret [(.k (.slice none 0 0)),(.ki 2)])
(.ef false f35 7 0 []
(.ef false f35 7 1 []
(.rq (.cells 1 V14)
(.rq (.cells 1 V15)
(.pm f35 9 0 [V3]
(.pm f35 9 1 [V4]
(.call false 97 [V16,V17]
(.rf V18 2 [V8,(.z 32)]
(.ef false f35 11 2 [(.cell V14 0 0 noI),V19,(.k (.bool true))]
(.pm f35 12 0 [V3]
(.pm f35 12 1 [V4]
(.call false 92 [V24,V25,(.cell V14 0 0 noI),(.cell V15 0 0 noI)]
(.rq (.cells 2 V26)
(.call false 96 [(.ag V21),(.ag V26)]
(.ri V27
(.br (.io .lss V27 (.ki 0))
(.ef false f35 14 2 [V19]
(.ef false f35 14 3 [(.cell V22 0 0 noI),V28]
(.rq (.cells 1 V29)
(.next 0 [V21,V29]))))
(.call false 98 [(.ag V21),(.ag V26)]
(.rq (.cells 2 V28)
(.ef false f35 16 2 [(.cell V14 0 0 noI),V19]
(.ef false f35 17 2 [(.cell V15 0 0 noI),V19,(.k (.bool true))]
(.next 0 [V28,V22])))))))))))))
(.ret [(.cell V20 0 0 noI),(.ki 0)])
(.dead 818)))))))))))))))))))))))))))))):=by kernel_rfl
theorem d1d:tree prog [] [] [⟨0,2,[],[]⟩] [⟨4,[0,0,3,7,0,0,32,112,240,511],[0,0,1,1,0,0,0,1,1,2],[0,0,0,0,0,0,0,0,0,0],[0,1,2,3,4,5,6,7,8,9],[]⟩] 37=some (.pm f37 1 1 [V0]
(.ri V1
(.loop [(.k (.bool false)),(.io .sub V1 (.ki 1))]
(.ri V3
(.br (.io .gtr V3 (.ki 0))
(.pm f37 4 2 [V0,V3]
(.pm f37 4 3 [V4]
(.pm f37 4 7 [V0,(.io .sub V3 (.ki 1))]
(.pm f37 4 8 [V6]
(.call true 99 [V5,V7]
(.rq (.bool V8)
(.br V8
(.ret [(.k (.bool false))])
(.next 0 [V2,(.io .sub V3 (.ki 1))]))))))))
(.ret [(.k (.bool true))])))))):=by kernel_rfl
theorem d1e:tree prog [] [] [⟨0,13,[],[]⟩,⟨0,18,[],[]⟩,⟨0,22,[],[]⟩] [⟨7,[0,0,0,4,0,16,60,124,255,511,1023,1023,2047,8191],[5,0,0,0,0,1,0,2,2,0,0,0,0,0],[1,0,0,0,0,0,0,0,0,0,0,0,0,0],[0,1,2,3,4,5,6,7,8,9,10,11,12,13],[]⟩] 6=some (.rq (.cells 10 V0)
(.call false 7 []
(.rq (.bool V2)
(.br (.nt V2)
(.ret [(.k (.bool false))])
(.call false 8 [(.ag V0)]
(.rq (.tup 0 V3)
(.rq (.tup 1 V3)
(.rq (.tup 2 V3)
(.rq (.cells 2 (.proj V3 0))
(.rq (.cells 4 (.proj V3 1))
(.rq (.num (.cell (.proj V3 0) 0 0 noI))
(.rq (.nn (.cell (.proj V3 0) 0 0 noI))
(.call false 33 [(.ag (.proj V3 0)),(.uo .sub (.uo .shl (.k (.int .u64 (1))) (.cell (.proj V3 0) 0 0 noI)) (.k (.int .u64 (1))))]
(.rq (.tup 0 V4)
(.rq (.tup 1 V4)
(.rq (.cells 8 (.proj V4 0))
(.call false 34 [(.ag (.proj V4 0))]
(.rq (.tup 0 V5)
(.rq (.tup 1 V5)
(.rq (.int .u32 V1)
(.pm f6 7 5 [(.proj V5 0),(.ki 1)]
(.ri V6
(.rq (.nz V6)
(.call true 36 [(.io .rem (.cv .i64 V1) V6)]
(.call true 35 [(.ag (.proj V3 0)),(.uo .sub (.uo .shl (.k (.int .u64 (1))) (.cell (.proj V3 0) 0 0 noI)) (.k (.int .u64 (1)))),V7]
(.rq (.tup 0 V8)
(.rq (.tup 1 V8)
(.call false 19 [(.ag (.proj V3 0)),(.ag (.proj V3 1)),(.uo .sub (.uo .shl (.k (.int .u64 (1))) (.cell (.proj V3 0) 0 0 noI)) (.k (.int .u64 (1)))),(.proj V8 0)]
(.rq (.tup 0 V9)
(.rq (.tup 1 V9)
(.rq (.int .i64 (.proj V8 1))
(.br (.io .neq (.proj V8 1) (.ki 0))
(.ret [(.k (.bool false))])
(.rq (.int .i64 (.proj V9 1))
(.br (.io .neq (.proj V9 1) (.ki 0))
(.ret [(.k (.bool false))])
(.call false 37 [(.proj V9 0)]
(.rq (.bool V10)
(.br (.nt V10)
(.ret [(.k (.bool false))])
(.pm f6 12 1 [(.proj V8 0)]
(.loop [(.k (.bool false)),(.ki 0),(.ki 0)]
(.ri V14
(.ri V11
(.br (.io .lss V14 V11)
(.pm f6 14 0 [(.proj V8 0),V14]
(.pm f6 14 1 [V15]
(.call false 38 [(.ag (.proj V3 0)),(.uo .sub (.uo .shl (.k (.int .u64 (1))) (.cell (.proj V3 0) 0 0 noI)) (.k (.int .u64 (1)))),(.proj V8 0),V16]
(.rq (.tup 0 V17)
(.rq (.tup 1 V17)
(.rq (.tup 2 V17)
(.rq (.int .i64 (.proj V17 2))
(.rq (.cells 1 (.proj V17 0))
(.rq (.cells 1 (.proj V17 1))
(.loop [(.io .eql (.proj V17 2) (.ki 0)),(.ki 0)]
(.ri V19
(.br (.io .lss V19 (.ki 2))
(.rq (.num V19)
(.rq (.lt 2 V19)
(.pm f6 21 2 [(.cell (.proj V3 1) 0 0 noI)]
(.loop [(.ki 0),(.ki 0)]
(.ri V22
(.ri V20
(.br (.io .lss V22 V20)
(.pm f6 23 1 [(.cell (.proj V3 1) 0 0 noI),V22]
(.pm f6 23 2 [V23]
(.rq (.int .u64 (.cell (.put (.put (.z 89) 0 1 (.proj V17 0) 0 noI) 1 1 (.proj V17 1) 0 noI) 0 1 V19))
(.rq (.num V22)
(.rq (.nn V22)
(.br (.uo .eql (.uo .and (.uo .shr (.cell (.put (.put (.z 89) 0 1 (.proj V17 0) 0 noI) 1 1 (.proj V17 1) 0 noI) 0 1 V19) V22) (.k (.int .u64 (1)))) (.k (.int .u64 (1))))
(.ri V21
(.ri V24
(.next 2 [(.io .add V21 V24),(.io .add V22 (.ki 1))])))
(.next 2 [V21,(.io .add V22 (.ki 1))])))))))
(.call false 39 [(.ag (.proj V3 0)),(.cell (.put (.put (.z 89) 0 1 (.proj V17 0) 0 noI) 1 1 (.proj V17 1) 0 noI) 0 1 V19)]
(.rq (.tup 0 V23)
(.rq (.tup 1 V23)
(.rq (.bool V18)
(.br V18
(.rq (.int .i64 (.proj V23 1))
(.br (.io .eql (.proj V23 1) (.ki 0))
(.rq (.bool (.proj V23 0))
(.br (.proj V23 0)
(.ri V21
(.rq (.int .i64 (.cell (.proj V3 1) 1 0 noI))
(.br (.io .geq V21 (.cell (.proj V3 1) 1 0 noI))
(.rq (.int .i64 (.cell (.proj V3 1) 2 0 noI))
(.next 1 [(.io .leq V21 (.cell (.proj V3 1) 2 0 noI)),(.io .add V19 (.ki 1))]))
(.next 1 [(.k (.bool false)),(.io .add V19 (.ki 1))]))))
(.next 1 [(.k (.bool false)),(.io .add V19 (.ki 1))])))
(.next 1 [(.k (.bool false)),(.io .add V19 (.ki 1))])))
(.next 1 [(.k (.bool false)),(.io .add V19 (.ki 1))])))))))))))))
(.call false 40 [(.proj V9 0),V16]
(.rq (.bool V18)
(.rq (.bool V20)
(.br (.eqb true V18 V20)
(.ret [(.k (.bool false))])
(.br V18
(.ri V13
(.next 0 [V12,(.io .add V13 (.ki 1)),(.io .add V14 (.ki 1))]))
(.next 0 [V12,V13,(.io .add V14 (.ki 1))]))))))))))))))))))
(.pm f6 35 2 [(.proj V9 0)]
(.ri V13
(.ri V15
(.ret [(.io .eql V13 V15)])))))))))))))))))))))))))))))))))))))))))))))):=by kernel_rfl
end Go.Proofs.YtkcjbfoejpfbbaaGreatDoor

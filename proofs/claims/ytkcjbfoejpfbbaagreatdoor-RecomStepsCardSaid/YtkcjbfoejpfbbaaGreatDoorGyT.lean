/- MADE BY rxgen.py (mkGT.py): trees of chapter 32. -/
import Derived.Test.YtkcjbfoejpfbbaaGreatDoorProg
import Derived.Test.YtkcjbfoejpfbbaaGreatDoorRxY
namespace Go.Proofs.YtkcjbfoejpfbbaaGreatDoor
open Go.Proofs.Tryz
open Go.RowKit Go.RX
set_option maxRecDepth 100000
theorem c4s:tree prog [] [] [⟨0,2,[],[]⟩] [] 232=some (.rq (.cells 2 V0)
(.loop [(.k (.bool false)),(.ki 0)]
(.pm f232 2 3 [(.cell V0 1 0 noI)]
(.ri V4
(.ri V5
(.br (.io .lss V4 V5)
(.pm f232 4 3 [(.cell V0 1 0 noI),V4]
(.pm f232 4 4 [V6]
(.rq (.cells 2 V7)
(.rq (.int .i64 (.cell V7 0 0 noI))
(.ri V1
(.br (.io .eql (.cell V7 0 0 noI) V1)
(.rq (.int .i64 (.cell V7 1 0 noI))
(.ri V2
(.br (.io .eql (.cell V7 1 0 noI) V2)
(.ret [(.k (.bool true))])
(.br (.io .eql (.cell V7 0 0 noI) V2)
(.br (.io .eql (.cell V7 1 0 noI) V1)
(.ret [(.k (.bool true))])
(.next 0 [V3,(.io .add V4 (.ki 1))]))
(.next 0 [V3,(.io .add V4 (.ki 1))])))))
(.ri V2
(.br (.io .eql (.cell V7 0 0 noI) V2)
(.rq (.int .i64 (.cell V7 1 0 noI))
(.br (.io .eql (.cell V7 1 0 noI) V1)
(.ret [(.k (.bool true))])
(.next 0 [V3,(.io .add V4 (.ki 1))])))
(.next 0 [V3,(.io .add V4 (.ki 1))])))))))))
(.ret [(.k (.bool false))]))))))):=by kernel_rfl
theorem c4t:tree prog [] [] [⟨0,3,[],[]⟩] [] 192=some (.rq (.cells 2 V0)
(.loop [(.k (.slice none 0 0)),(.ki 0)]
(.ri V4
(.rq (.int .i64 (.cell V0 0 0 noI))
(.br (.io .lss V4 (.cell V0 0 0 noI))
(.call false 59 [V1,V4]
(.rq (.bool V5)
(.br V5
(.call false 232 [(.ag V0),V2,V4]
(.rq (.bool V6)
(.br V6
(.ef false f192 6 2 [V4]
(.ef false f192 6 3 [V3,V7]
(.next 0 [V8,(.io .add V4 (.ki 1))])))
(.next 0 [V3,(.io .add V4 (.ki 1))]))))
(.next 0 [V3,(.io .add V4 (.ki 1))]))))
(.ret [V3])))))):=by kernel_rfl
theorem c4u:tree prog [] [] [⟨0,2,[],[1]⟩] [⟨5,[0,0,0,0,8,24,60,124,255,511],[5,0,0,0,1,0,1,1,2,0],[0,0,0,0,0,0,0,0,0,0],[0,1,2,3,4,5,6,7,8,9],[]⟩,⟨11,[0,0,1,7,15],[0,5,0,6,0],[0,1,0,2,0],[0,1,2],[3,4]⟩] 142=some (.rq (.cells 2 V0)
(.rq (.cells 1 V4)
(.ef false f142 1 1 [V2]
(.loop [(.k (.slice none 0 0)),(.ki 0),V6,V4]
(.pm f142 2 3 [V9]
(.ri V11
(.pm f142 2 5 [V9,(.io .sub V11 (.ki 1))]
(.pm f142 2 6 [V12]
(.call false 59 [V3,V13]
(.rq (.bool V14)
(.br (.nt V14)
(.pm f142 3 1 [V9]
(.ri V15
(.ri V5
(.br (.io .eql (.io .sub V15 (.ki 1)) V5)
(.ret [(.k (.slice none 0 0)),(.z 66),(.ki 9)])
(.pm f142 5 4 [V9]
(.ri V16
(.pm f142 5 6 [V9,(.io .sub V16 (.ki 1))]
(.pm f142 5 7 [V17]
(.call true 192 [(.ag V0),V1,V18]
(.pm f142 6 2 [V19]
(.call false 72 [(.ag V10),V20]
(.rq (.tup 0 V21)
(.rq (.tup 1 V21)
(.rq (.tup 2 V21)
(.rq (.cells 1 (.proj V21 1))
(.rq (.int .i64 (.proj V21 2))
(.br (.io .neq (.proj V21 2) (.ki 0))
(.ret [(.k (.slice none 0 0)),(.z 66),(.proj V21 2)])
(.pm f142 10 3 [V19,(.proj V21 0)]
(.pm f142 10 4 [V22]
(.ef false f142 10 5 [V23]
(.ef false f142 10 6 [V9,V24]
(.next 0 [V7,V8,V25,(.ag (.proj V21 1))]))))))))))))))))))))))
(.ret [V9,(.ag V10),(.ki 0)])))))))))))):=by kernel_rfl
theorem c4v:tree prog [] [] [⟨0,2,[],[]⟩,⟨0,5,[],[]⟩] [⟨2,[0,0,2,6,15,31,0,0,128,384,960,1984,4095],[0,0,1,0,1,1,0,0,1,0,1,1,0],[0,0,0,0,0,0,0,0,0,0,0,0,0],[0,1,2,3,4,5,6,7,8,9,10,11,12],[]⟩] 143=some (.pm f143 1 1 [V0,(.ki 0)]
(.pm f143 1 2 [V1]
(.ef false f143 1 3 [V2]
(.loop [V3]
(.pm f143 2 2 [V4]
(.ri V5
(.pm f143 2 4 [V4,(.io .sub V5 (.ki 1))]
(.pm f143 2 5 [V6]
(.pm f143 2 8 [V0]
(.ri V8
(.pm f143 2 10 [V0,(.io .sub V8 (.ki 1))]
(.pm f143 2 11 [V9]
(.ri V7
(.ri V10
(.br (.io .neq V7 V10)
(.pm f143 3 2 [V4]
(.ri V11
(.pm f143 3 4 [V4,(.io .sub V11 (.ki 1))]
(.pm f143 3 5 [V12]
(.pm f143 4 1 [V0]
(.ri V14
(.loop [(.io .sub V14 (.ki 1))]
(.pm f143 5 2 [V0,V15]
(.pm f143 5 3 [V16]
(.ri V17
(.ri V13
(.br (.io .neq V17 V13)
(.ri V15
(.next 1 [(.io .sub V15 (.ki 1))]))
(.ri V15
(.pm f143 7 4 [V0,(.io .add V15 (.ki 1))]
(.pm f143 7 5 [V18]
(.ef false f143 7 6 [V19]
(.ef false f143 7 7 [V4,V20]
(.next 0 [V21]))))))))))))))))))
(.ret [V4])))))))))))))))):=by kernel_rfl
theorem c4w:tree prog [] [] [⟨0,2,[],[]⟩] [] 145=some (.rq (.cells 2 V0)
(.loop [(.ki 0),(.ki 0)]
(.pm f145 2 3 [(.cell V0 1 0 noI)]
(.ri V4
(.ri V5
(.br (.io .lss V4 V5)
(.pm f145 4 3 [(.cell V0 1 0 noI),V4]
(.pm f145 4 4 [V6]
(.rq (.cells 2 V7)
(.rq (.int .i64 (.cell V7 0 0 noI))
(.ri V1
(.br (.io .eql (.cell V7 0 0 noI) V1)
(.rq (.int .i64 (.cell V7 1 0 noI))
(.ri V2
(.br (.io .eql (.cell V7 1 0 noI) V2)
(.ret [V4])
(.br (.io .eql (.cell V7 0 0 noI) V2)
(.br (.io .eql (.cell V7 1 0 noI) V1)
(.ret [V4])
(.next 0 [V3,(.io .add V4 (.ki 1))]))
(.next 0 [V3,(.io .add V4 (.ki 1))])))))
(.ri V2
(.br (.io .eql (.cell V7 0 0 noI) V2)
(.rq (.int .i64 (.cell V7 1 0 noI))
(.br (.io .eql (.cell V7 1 0 noI) V1)
(.ret [V4])
(.next 0 [V3,(.io .add V4 (.ki 1))])))
(.next 0 [V3,(.io .add V4 (.ki 1))])))))))))
(.ret [(kI (-1))]))))))):=by kernel_rfl
theorem c4x:tree prog [] [] [⟨0,4,[],[]⟩] [] 144=some (.loop [(.k (.bool false)),(.k (.slice none 0 0)),(.ki 0)]
(.pm f144 4 2 [V0]
(.ri V4
(.ri V5
(.br (.io .lss V4 V5)
(.rq (.bool V2)
(.br (.nt V2)
(.pm f144 6 5 [V0,V4]
(.pm f144 6 6 [V6]
(.ri V7
(.ri V1
(.br (.io .gtr V7 V1)
(.ef false f144 7 2 [V1]
(.ef false f144 7 3 [V3,V8]
(.pm f144 9 3 [V0,V4]
(.pm f144 9 4 [V10]
(.ef false f144 9 5 [V11]
(.ef false f144 9 6 [V9,V12]
(.next 0 [(.k (.bool true)),V13,(.io .add V4 (.ki 1))])))))))
(.pm f144 9 3 [V0,V4]
(.pm f144 9 4 [V8]
(.ef false f144 9 5 [V9]
(.ef false f144 9 6 [V3,V10]
(.next 0 [V2,V11,(.io .add V4 (.ki 1))]))))))))))
(.pm f144 9 3 [V0,V4]
(.pm f144 9 4 [V6]
(.ef false f144 9 5 [V7]
(.ef false f144 9 6 [V3,V8]
(.next 0 [V2,V9,(.io .add V4 (.ki 1))])))))))
(.rq (.bool V2)
(.br (.nt V2)
(.ef false f144 11 2 [V1]
(.ef false f144 11 3 [V3,V6]
(.ret [V7])))
(.ret [V3])))))))):=by kernel_rfl
theorem c4y:tree prog [] [] [⟨0,11,[],[1]⟩,⟨0,23,[],[]⟩] [⟨27,[0,0,0,0,8,28,60,0,0,384,896,2046,4095,8191],[0,5,0,0,0,1,1,0,0,1,1,2,2,0],[0,0,0,0,0,0,0,0,0,0,0,0,0,0],[0,1,2,3,4,5,6,7,8,9,10,11,12,13],[]⟩,⟨28,[0,0,1,7,15],[0,5,0,6,0],[0,1,0,2,0],[0,1,2],[3,4]⟩] 74=some (.rq (.cells 2 V0)
(.rq (.cells 1 V2)
(.call false 118 [(.ag V0),V1]
(.ri V3
(.br (.io .neq V3 (.ki 0))
(.ret [(.k (.slice none 0 0)),(.z 66),V3])
(.ru V1
(.br (.uo .eql V1 (kU 0))
(.ret [(.k (.slice none 0 0)),(.z 66),(.ki 2)])
(.call false 46 [(.ag V0),V1]
(.rq (.bool V4)
(.br (.nt V4)
(.ret [(.k (.slice none 0 0)),(.z 66),(.ki 4)])
(.loop [(.k (.slice none 0 0)),(.ki 0),(.ki 10000),(kU 0),(.k (.slice none 0 0)),(.ki 0),V2]
(.ri V10
(.rq (.int .i64 (.cell V0 0 0 noI))
(.br (.io .lss V10 (.cell V0 0 0 noI))
(.call false 59 [V1,V10]
(.rq (.bool V12)
(.br (.nt V12)
(.next 0 [V5,V6,V7,V8,V9,(.io .add V10 (.ki 1)),V11])
(.call false 59 [V8,V10]
(.rq (.bool V13)
(.br V13
(.next 0 [V5,V6,V7,V8,V9,(.io .add V10 (.ki 1)),V11])
(.ru V8
(.br (.uo .eql V8 (kU 0))
(.call false 45 [V10]
(.next 0 [V5,V6,V7,V14,V9,(.io .add V10 (.ki 1)),V11]))
(.call false 142 [(.ag V0),V1,V10,V8,(.ag V11),V7]
(.rq (.tup 0 V14)
(.rq (.tup 1 V14)
(.rq (.tup 2 V14)
(.rq (.cells 1 (.proj V14 1))
(.rq (.int .i64 (.proj V14 2))
(.br (.io .neq (.proj V14 2) (.ki 0))
(.ret [(.k (.slice none 0 0)),(.z 66),(.proj V14 2)])
(.pm f74 20 2 [(.proj V14 0)]
(.ri V15
(.ri V7
(.call false 143 [(.proj V14 0)]
(.loop [V8,V9,(.ki 0)]
(.pm f74 23 2 [V16]
(.ri V19
(.ri V20
(.br (.io .lss V19 V20)
(.pm f74 25 3 [V16,V19]
(.pm f74 25 4 [V21]
(.call false 45 [V22]
(.ru V17
(.ru V23
(.br (.io .gtr V19 (.ki 0))
(.pm f74 27 5 [V16,(.io .sub V19 (.ki 1))]
(.pm f74 27 6 [V24]
(.pm f74 27 9 [V16,V19]
(.pm f74 27 10 [V26]
(.call true 145 [(.ag V0),V25,V27]
(.call true 144 [V18,V28]
(.next 1 [(.uo .or V17 V23),V29,(.io .add V19 (.ki 1))])))))))
(.next 1 [(.uo .or V17 V23),V18,(.io .add V19 (.ki 1))])))))))
(.next 0 [V5,V6,(.io .sub V7 (.io .sub V15 (.ki 1))),V17,V18,(.io .add V10 (.ki 1)),(.ag (.proj V14 1))])))))))))))))))))))))))))
(.ret [V9,(.ag V11),(.ki 0)]))))))))))))))):=by kernel_rfl
theorem c4z:tree prog [] [] [⟨0,3,[],[]⟩] [⟨5,[0,1,0,7,15,31,0,64,0,448,960,1984,63,8191],[0,5,0,1,1,1,0,5,0,1,1,1,0,0],[0,0,0,0,0,0,0,0,0,0,0,0,0,0],[0,1,2,3,4,5,6,7,8,9,10,11,12,13],[]⟩] 76=some (.rq (.cells 2 V0)
(.loop [(.ki 0),(.ki 0)]
(.pm f76 3 3 [(.cell V0 1 0 noI)]
(.ri V4
(.ri V5
(.br (.io .lss V4 V5)
(.pm f76 5 3 [(.cell V0 1 0 noI),V4]
(.pm f76 5 4 [V6,(.ki 0)]
(.pm f76 5 5 [V7]
(.pm f76 5 9 [(.cell V0 1 0 noI),V4]
(.pm f76 5 10 [V9,(.ki 1)]
(.pm f76 5 11 [V10]
(.call false 59 [V1,V8]
(.rq (.bool V12)
(.br V12
(.call false 59 [V2,V11]
(.rq (.bool V13)
(.br V13
(.ri V3
(.next 0 [(.io .add V3 (.ki 1)),(.io .add V4 (.ki 1))]))
(.call false 59 [V1,V11]
(.rq (.bool V14)
(.br V14
(.call false 59 [V2,V8]
(.rq (.bool V15)
(.br V15
(.ri V3
(.next 0 [(.io .add V3 (.ki 1)),(.io .add V4 (.ki 1))]))
(.next 0 [V3,(.io .add V4 (.ki 1))]))))
(.next 0 [V3,(.io .add V4 (.ki 1))])))))))
(.call false 59 [V1,V11]
(.rq (.bool V13)
(.br V13
(.call false 59 [V2,V8]
(.rq (.bool V14)
(.br V14
(.ri V3
(.next 0 [(.io .add V3 (.ki 1)),(.io .add V4 (.ki 1))]))
(.next 0 [V3,(.io .add V4 (.ki 1))]))))
(.next 0 [V3,(.io .add V4 (.ki 1))])))))))))))))
(.ret [V3]))))))):=by kernel_rfl
theorem c4A:tree prog [] [] [⟨0,3,[],[]⟩,⟨0,6,[],[]⟩] [] 71=some (.loop [(.k (.slice none 0 0)),(.ki 0)]
(.ri V2
(.ri V0
(.br (.io .lss V2 V0)
(.loop [V1,(.io .add V2 (.ki 1))]
(.ri V4
(.br (.io .lss V4 V0)
(.rq (.cells 1 V2)
(.rq (.cells 1 V4)
(.ef false f71 8 4 [(.put (.put (.z 100) 0 1 V2 0 noI) 1 1 V4 0 noI)]
(.ef false f71 8 5 [V3,V5]
(.next 1 [V6,(.io .add V4 (.ki 1))])))))
(.next 0 [V3,(.io .add V2 (.ki 1))]))))
(.ret [V1]))))):=by kernel_rfl
theorem c4B:tree prog [] [] [⟨0,3,[],[]⟩] [] 77=some (.rq (.cells 2 V1)
(.loop [(.k (.slice none 0 0)),(.ki 0)]
(.pm f77 3 2 [V0]
(.ri V4
(.ri V5
(.br (.io .lss V4 V5)
(.pm f77 5 2 [V0,V4]
(.pm f77 5 3 [V6]
(.ri V7
(.rq (.int .i64 (.cell V1 0 0 noI))
(.br (.io .eql V7 (.cell V1 0 0 noI))
(.call false 59 [V2,V4]
(.rq (.bool V8)
(.br V8
(.ef false f77 10 2 [(.cell V1 0 0 noI)]
(.ef false f77 10 3 [V3,V9]
(.next 0 [V10,(.io .add V4 (.ki 1))])))
(.ef false f77 10 2 [(.cell V1 1 0 noI)]
(.ef false f77 10 3 [V3,V9]
(.next 0 [V10,(.io .add V4 (.ki 1))]))))))
(.rq (.int .i64 (.cell V1 1 0 noI))
(.br (.io .eql V7 (.cell V1 1 0 noI))
(.call false 59 [V2,V4]
(.rq (.bool V8)
(.br V8
(.ef false f77 10 2 [(.cell V1 0 0 noI)]
(.ef false f77 10 3 [V3,V9]
(.next 0 [V10,(.io .add V4 (.ki 1))])))
(.ef false f77 10 2 [(.cell V1 1 0 noI)]
(.ef false f77 10 3 [V3,V9]
(.next 0 [V10,(.io .add V4 (.ki 1))]))))))
(.ef false f77 10 2 [V7]
(.ef false f77 10 3 [V3,V8]
(.next 0 [V9,(.io .add V4 (.ki 1))]))))))))))
(.call false 70 [V3]
(.rq (.tup 0 V6)
(.rq (.tup 1 V6)
(.ret [(.proj V6 0)])))))))))):=by kernel_rfl
theorem c4C:tree prog [] [] [] [⟨1,[0,0,2,7,0,0,32,127,255,511],[0,0,5,2,0,0,5,2,0,0],[0,0,0,0,0,0,0,0,0,0],[0,1,2,4,5,6,3,7,8,9],[]⟩] 73=some (.rq (.cells 2 V1)
(.call true 117 [V0,(.cell V1 0 0 noI)]
(.call true 117 [V0,(.cell V1 1 0 noI)]
(.ru V2
(.ru V3
(.ret [(.uo .or V2 V3)])))))):=by kernel_rfl
theorem c4D:tree prog [] [] [] [⟨8,[0,0,1,5,15,31],[0,5,0,0,6,0],[0,2,0,0,3,0],[0,1,2,3],[4,5]⟩,⟨15,[0,0,1,5,15,31],[0,5,0,0,6,0],[0,2,0,0,3,0],[0,1,2,3],[4,5]⟩,⟨24,[0,0,1,5,15,31],[0,5,0,0,6,0],[0,2,0,0,3,0],[0,1,2,3],[4,5]⟩,⟨25,[0,0,0,0,0,24,56,127,255,511,511,511,1023,6143,16383],[5,0,0,0,0,1,1,2,0,0,0,0,0,0,0],[0,0,0,0,0,0,0,0,0,0,0,0,0,0,0],[0,1,2,3,4,5,6,7,8,9,10,11,12,13,14],[]⟩,⟨26,[0,0,0,0,14,31,63,127,127,127,255,1535,4095],[5,5,0,0,2,2,0,0,0,0,0,6,0],[2,0,0,0,0,0,0,0,0,0,0,2,0],[0,1,2,3,4,5,6,7,8,9,10],[11,12]⟩,⟨30,[0,0,1,5,15,31],[0,5,0,0,6,0],[0,2,0,0,3,0],[0,1,2,3],[4,5]⟩,⟨32,[0,0,0,6,14,0,15,95,255,511],[0,0,0,2,0,5,0,0,6,0],[0,0,0,0,0,2,0,0,3,0],[0,1,2,5,3,4,6,7],[8,9]⟩] 23=some (.rq (.cells 2 V0)
(.rq (.cells 4 V1)
(.rq (.cells 1 V3)
(.call false 11 [(.ag V0),(.ag V1)]
(.ri V4
(.br (.io .neq V4 (.ki 0))
(.ret [(.k (.slice none 0 0)),(.k (.bool false)),(.z 66),V4])
(.call false 56 [(.ag V0),(.ag V1),V2]
(.rq (.bool V5)
(.br (.nt V5)
(.ret [(.k (.slice none 0 0)),(.k (.bool false)),(.z 66),(.ki 8)])
(.call false 70 [V2]
(.rq (.tup 0 V6)
(.rq (.tup 1 V6)
(.rq (.int .i64 (.cell V1 3 0 noI))
(.br (.io .eql (.cell V1 3 0 noI) (.ki 1))
(.ret [(.proj V6 0),(.k (.bool false)),(.ag V3),(.ki 0)])
(.call false 71 [(.cell V1 3 0 noI)]
(.pm f23 10 2 [V7]
(.call false 72 [(.ag V3),V8]
(.rq (.tup 0 V9)
(.rq (.tup 1 V9)
(.rq (.tup 2 V9)
(.rq (.cells 1 (.proj V9 1))
(.rq (.int .i64 (.proj V9 2))
(.br (.io .neq (.proj V9 2) (.ki 0))
(.ret [(.k (.slice none 0 0)),(.k (.bool false)),(.z 66),(.proj V9 2)])
(.pm f23 13 3 [V7,(.proj V9 0)]
(.pm f23 13 4 [V10]
(.call false 73 [(.proj V6 0),V11]
(.call false 46 [(.ag V0),V12]
(.rq (.bool V13)
(.br (.nt V13)
(.ret [(.proj V6 0),(.k (.bool false)),(.ag (.proj V9 1)),(.ki 0)])
(.call false 74 [(.ag V0),V12,(.ag (.proj V9 1))]
(.rq (.tup 0 V14)
(.rq (.tup 1 V14)
(.rq (.tup 2 V14)
(.rq (.cells 1 (.proj V14 1))
(.rq (.int .i64 (.proj V14 2))
(.br (.io .neq (.proj V14 2) (.ki 0))
(.ret [(.k (.slice none 0 0)),(.k (.bool false)),(.z 66),(.proj V14 2)])
(.rq (.int .i64 (.cell V0 0 0 noI))
(.call false 72 [(.ag (.proj V14 1)),(.io .sub (.cell V0 0 0 noI) (.ki 1))]
(.rq (.tup 0 V15)
(.rq (.tup 1 V15)
(.rq (.tup 2 V15)
(.rq (.cells 1 (.proj V15 1))
(.rq (.int .i64 (.proj V15 2))
(.br (.io .neq (.proj V15 2) (.ki 0))
(.ret [(.k (.slice none 0 0)),(.k (.bool false)),(.z 66),(.proj V15 2)])
(.call false 67 [(.ag V0),(.ag V1),V12,(.proj V14 0)]
(.pm f23 23 2 [V16]
(.rq (.int .i64 (.proj V15 0))
(.ri V17
(.br (.io .geq (.proj V15 0) V17)
(.ret [(.proj V6 0),(.k (.bool false)),(.ag (.proj V15 1)),(.ki 0)])
(.pm f23 25 5 [V16,(.proj V15 0)]
(.pm f23 25 6 [V18]
(.call true 75 [(.ag V0),V12,(.proj V14 0),V19]
(.rq (.tup 0 V20)
(.rq (.tup 1 V20)
(.rq (.tup 2 V20)
(.call true 76 [(.ag V0),(.proj V20 0),(.proj V20 1)]
(.call true 72 [(.ag (.proj V15 1)),V21]
(.rq (.tup 0 V22)
(.rq (.tup 1 V22)
(.rq (.tup 2 V22)
(.rq (.cells 1 (.proj V22 1))
(.rq (.int .i64 (.proj V22 2))
(.br (.io .neq (.proj V22 2) (.ki 0))
(.ret [(.k (.slice none 0 0)),(.k (.bool false)),(.z 66),(.proj V22 2)])
(.rq (.int .i64 (.proj V22 0))
(.br (.io .neq (.proj V22 0) (.ki 0))
(.ret [(.proj V6 0),(.k (.bool false)),(.ag (.proj V22 1)),(.ki 0)])
(.pm f23 31 3 [V7,(.proj V9 0)]
(.pm f23 31 4 [V23]
(.call false 77 [(.proj V6 0),V24,(.proj V20 0)]
(.call true 78 [(.proj V6 0),V25]
(.rq (.bool V26)
(.ret [V25,(.nt V26),(.ag (.proj V22 1)),(.ki 0)]))))))))))))))))))))))))))))))))))))))))))))))))))))))))))))))))))))))):=by kernel_rfl
theorem d5j:tree prog [] [] [⟨0,10,[],[2]⟩] [⟨17,[0,0,1,7],[0,5,0,6],[0,10,0,2],[0,1,2],[3]⟩] 4=some (.rq (.cells 10 V0)
(.rq (.cells 3 V1)
(.rq (.cells 1 V2)
(.call false 7 []
(.rq (.bool V3)
(.br (.nt V3)
(.ret [(.k (.bool false))])
(.call false 8 [(.ag V0)]
(.rq (.tup 0 V4)
(.rq (.tup 1 V4)
(.rq (.tup 2 V4)
(.rq (.cells 2 (.proj V4 0))
(.rq (.cells 4 (.proj V4 1))
(.call false 9 [(.ag V1),(.ag (.proj V4 0)),(.ag (.proj V4 1)),(.proj V4 2)]
(.rq (.tup 0 V5)
(.rq (.tup 1 V5)
(.rq (.tup 2 V5)
(.rq (.cells 2 (.proj V5 0))
(.rq (.cells 4 (.proj V5 1))
(.call false 22 [(.ag (.proj V5 0)),(.ag (.proj V5 1)),(.proj V5 2),(.ag V2)]
(.rq (.tup 0 V6)
(.rq (.tup 1 V6)
(.rq (.tup 2 V6)
(.rq (.tup 3 V6)
(.rq (.cells 1 (.proj V6 2))
(.call false 23 [(.ag (.proj V5 0)),(.ag (.proj V5 1)),(.proj V5 2),(.ag V2)]
(.rq (.tup 0 V7)
(.rq (.tup 1 V7)
(.rq (.tup 2 V7)
(.rq (.tup 3 V7)
(.rq (.cells 1 (.proj V7 2))
(.call false 24 [(.proj V6 0),(.proj V7 0)]
(.rq (.bool V8)
(.br (.nt V8)
(.ret [(.k (.bool false))])
(.rq (.bool (.proj V6 1))
(.rq (.bool (.proj V7 1))
(.br (.eqb true (.proj V6 1) (.proj V7 1))
(.ret [(.k (.bool false))])
(.pm f4 7 12 [(.ag (.proj V6 2)),(.ag (.proj V7 2))]
(.rq (.bool V9)
(.br V9
(.ret [(.k (.bool false))])
(.rq (.int .i64 (.proj V6 3))
(.rq (.int .i64 (.proj V7 3))
(.br (.io .neq (.proj V6 3) (.proj V7 3))
(.ret [(.k (.bool false))])
(.loop [(.k (.bool false)),(.proj V4 2),(.ki 0),V2]
(.ri V12
(.br (.io .lss V12 (.ki 6))
(.call false 22 [(.ag (.proj V4 0)),(.ag (.proj V4 1)),V11,(.ag V13)]
(.rq (.tup 0 V14)
(.rq (.tup 1 V14)
(.rq (.tup 2 V14)
(.rq (.tup 3 V14)
(.rq (.cells 1 (.proj V14 2))
(.call false 23 [(.ag (.proj V4 0)),(.ag (.proj V4 1)),V11,(.ag V13)]
(.rq (.tup 0 V15)
(.rq (.tup 1 V15)
(.rq (.tup 2 V15)
(.rq (.tup 3 V15)
(.rq (.cells 1 (.proj V15 2))
(.call false 24 [(.proj V14 0),(.proj V15 0)]
(.rq (.bool V16)
(.br (.nt V16)
(.ret [(.k (.bool false))])
(.rq (.bool (.proj V14 1))
(.rq (.bool (.proj V15 1))
(.br (.eqb true (.proj V14 1) (.proj V15 1))
(.ret [(.k (.bool false))])
(.pm f4 13 12 [(.ag (.proj V14 2)),(.ag (.proj V15 2))]
(.rq (.bool V17)
(.br V17
(.ret [(.k (.bool false))])
(.rq (.int .i64 (.proj V14 3))
(.rq (.int .i64 (.proj V15 3))
(.br (.io .neq (.proj V14 3) (.proj V15 3))
(.ret [(.k (.bool false))])
(.br (.io .neq (.proj V14 3) (.ki 0))
(.ret [(.k (.bool true))])
(.next 0 [V10,(.proj V15 0),(.io .add V12 (.ki 1)),(.ag (.proj V15 2))]))))))))))))))))))))))))))
(.ret [(.k (.bool true))])))))))))))))))))))))))))))))))))))))))))))))):=by kernel_rfl
end Go.Proofs.YtkcjbfoejpfbbaaGreatDoor

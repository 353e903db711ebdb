/- MADE BY rxgen.py (mkGT.py): trees of chapter 32. -/
import Derived.Test.YtkcjbfoejpfbbaaGreatDoorProg
import Derived.Test.YtkcjbfoejpfbbaaGreatDoorRxY
namespace Go.Proofs.YtkcjbfoejpfbbaaGreatDoor
open Go.Proofs.Tryz
open Go.RowKit Go.RX
set_option maxRecDepth 100000
noncomputable def b9v:Tree:=(.rq (.cells 2 V0)
(.rq (.cells 4 V1)
(.call false 52 [(.ag V0)]
(.ri V2
(.br (.io .neq V2 (.ki 0))
(.ret [V2])
(.pm f10 4 2 [(.cell V1 0 0 noI)]
(.ri V3
(.rq (.int .i64 (.cell V0 0 0 noI))
(.br (.io .neq V3 (.cell V0 0 0 noI))
(.ret [(.ki 320)])
(.rq (.int .i64 (.cell V1 1 0 noI))
(.br (.io .lss (.cell V1 1 0 noI) (.ki 0))
(.ret [(.ki 320)])
(.rq (.int .i64 (.cell V1 2 0 noI))
(.br (.io .gtr (.cell V1 1 0 noI) (.cell V1 2 0 noI))
(.ret [(.ki 320)])
(.rq (.int .i64 (.cell V1 3 0 noI))
(.br (.io .lss (.cell V1 3 0 noI) (.ki 1))
(.ret [(.ki 320)])
(.br (.io .gtr (.cell V1 3 0 noI) (.ki 8))
(.ret [(.ki 320)])
(.call false 53 [(.cell V1 0 0 noI),(.k (.func (.func 54) #[] #[]))]
(.rq (.bool V4)
(.br V4
(.ret [(.ki 320)])
(.ret [(.ki 0)]))))))))))))))))))))
theorem b9w:tree prog [] [] [] [] 10=some b9v:=by kernel_rfl
noncomputable def b4h:Tree:=(.ri V0
(.br (.io .lss V0 (.ki 0))
(.ret [(.k (.bool true))])
(.ret [(.io .gtr V0 (.ki 1000000000))])))
theorem b4i:tree prog [] [] [] [] 54=some b4h:=by kernel_rfl
noncomputable def b9x:Tree:=(.rq (.cells 6 V0)
(.pub 111 V0
(.pm f55 1 0 [V2]
(.pm f55 1 1 [V3]
(.pm f55 1 3 [V2]
(.pm f55 1 4 [V5]
(.pm f55 1 5 [V6]
(.call false 110 [V4,V1,V7]
(.ri V8
(.br (.io .neq V8 (.ki 0))
(.ret [(.k (.bool false))])
(.pm f55 3 1 [V2]
(.pm f55 3 2 [V9]
(.pm f55 3 3 [V10]
(.call false 111 [V1,V11]
(.rq (.tup 0 V12)
(.rq (.tup 1 V12)
(.ef false f55 4 1 [V2]
(.call false 112 [(.proj V12 0),V13]
(.rq (.bool V14)
(.ret [(.nt V14)]))))))))))))))))))))
theorem c9D:tree prog [2] [] [] [] 55=some b9x:=by kernel_rfl
noncomputable def b4j:Tree:=(.pm f113 1 0 [V1]
(.call false 114 [V2,V0]
(.rq (.bool V3)
(.ret [(.nt V3)]))))
theorem c4M:tree prog [] [] [] [] 113=some b4j:=by kernel_rfl
noncomputable def b9y:Tree:=(.rq (.cells 6 V0)
(.pub 111 V0
(.ef false f114 1 1 [V2]
(.call false 179 [V1,V3]
(.pm f114 2 0 [V2]
(.pm f114 2 1 [V5]
(.call false 39 [V6,V1]
(.rq (.tup 0 V7)
(.rq (.tup 1 V7)
(.rq (.bool (.proj V7 0))
(.br (.proj V7 0)
(.pm f114 3 3 [V2]
(.pm f114 3 4 [V8]
(.pm f114 3 5 [V9]
(.ri V4
(.ri V10
(.br (.io .geq V4 V10)
(.pm f114 3 10 [V2]
(.pm f114 3 11 [V11]
(.pm f114 3 12 [V12]
(.ri V13
(.ret [(.io .leq V4 V13)])))))
(.ret [(.k (.bool false))])))))))
(.ret [(.k (.bool false))]))))))))))))
theorem b9z:tree prog [2] [] [] [] 114=some b9y:=by kernel_rfl
noncomputable def b4k:Tree:=(.pm f180 1 0 [V1]
(.pm f180 1 1 [V2]
(.pm f180 1 2 [V3]
(.pm f180 1 4 [V4,V0]
(.pm f180 1 5 [V5]
(.ret [V6]))))))
theorem b4l:tree prog [] [] [] [] 180=some b4k:=by kernel_rfl
noncomputable def b9A:Tree:=(.loop [(.ki 0),V0]
(.ru V3
(.br (.uo .neq V3 (.k (.int .u64 (0))))
(.call false 101 [V3]
(.ef false f179 4 4 [V1,V4]
(.ri V2
(.ri V5
(.next 0 [(.io .add V2 V5),(.uo .and V3 (.uo .sub V3 (.k (.int .u64 (1)))))])))))
(.ret [V2]))))
theorem b9B:tree prog [] [] [⟨0,2,[],[]⟩] [] 179=some b9A:=by kernel_rfl
noncomputable def b9C:Tree:=(.rq (.cells 6 V0)
(.pm f65 2 1 [V2]
(.loop [(.k (.slice none 0 0)),(.ki 0)]
(.ri V5
(.ri V3
(.br (.io .lss V5 V3)
(.pm f65 4 0 [V2,V5]
(.pm f65 4 1 [V6]
(.call false 38 [(.sub V0 4 2 0 noI),V1,V2,V7]
(.rq (.tup 0 V8)
(.rq (.tup 1 V8)
(.rq (.tup 2 V8)
(.call false 114 [(.ag V0),(.proj V8 0)]
(.rq (.bool V9)
(.br V9
(.call false 114 [(.ag V0),(.proj V8 1)]
(.rq (.bool V10)
(.br V10
(.ef false f65 7 2 [V7]
(.ef false f65 7 3 [V4,V11]
(.next 0 [V12,(.io .add V5 (.ki 1))])))
(.next 0 [V4,(.io .add V5 (.ki 1))]))))
(.next 0 [V4,(.io .add V5 (.ki 1))]))))))))))
(.ret [V4])))))))
theorem b9D:tree prog [] [] [⟨0,3,[],[]⟩] [] 65=some b9C:=by kernel_rfl
noncomputable def b9E:Tree:=(.rq (.cells 2 V0)
(.rq (.cells 4 V1)
(.call false 10 [(.ag V0),(.ag V1)]
(.ri V3
(.br (.io .neq V3 (.ki 0))
(.ret [(.k (.bool false)),V3])
(.call false 55 [(.cat (.ag V1) 4 (.ag V0)),V2]
(.ret [V4,(.ki 0)])))))))
theorem c9E:tree prog [] [] [] [] 12=some b9E:=by kernel_rfl
noncomputable def b9F:Tree:=(.rq (.cells 2 V0)
(.rq (.cells 4 V1)
(.call false 10 [(.ag V0),(.ag V1)]
(.ri V4
(.br (.io .neq V4 (.ki 0))
(.ret [(.k (.slice none 0 0)),V4])
(.call false 64 [(.ag V0),V2,V3]
(.ri V5
(.br (.io .neq V5 (.ki 0))
(.ret [(.k (.slice none 0 0)),V5])
(.call false 65 [(.cat (.ag V1) 4 (.ag V0)),V2,V3]
(.ret [V6,(.ki 0)]))))))))))
theorem b9G:tree prog [] [] [] [] 19=some b9F:=by kernel_rfl
noncomputable def b9H:Tree:=(.call false 51 [V0]
(.pm f135 2 1 [V0]
(.loop [(.ki 0)]
(.ri V6
(.ri V5
(.br (.io .lss V6 V5)
(.pm f135 4 1 [V0,V6]
(.pm f135 4 2 [V7]
(.ri V8
(.ri V1
(.br (.io .neq V8 V1)
(.ri V2
(.br (.io .neq V8 V2)
(.next 0 [(.io .add V6 (.ki 1))])
(.pm f135 6 3 [V4,V6]
(.ef false f135 6 4 [V9,V2]
(.ru V3
(.rq (.num V6)
(.rq (.nn V6)
(.br (.uo .eql (.uo .and (.uo .shr V3 V6) (.k (.int .u64 (1)))) (.k (.int .u64 (1))))
(.pm f135 8 3 [V4,V6]
(.ef false f135 8 4 [V11,V1]
(.next 0 [(.io .add V6 (.ki 1))])))
(.next 0 [(.io .add V6 (.ki 1))])))))))))
(.pm f135 6 3 [V4,V6]
(.ef false f135 6 4 [V9,V2]
(.ru V3
(.rq (.num V6)
(.rq (.nn V6)
(.br (.uo .eql (.uo .and (.uo .shr V3 V6) (.k (.int .u64 (1)))) (.k (.int .u64 (1))))
(.pm f135 8 3 [V4,V6]
(.ef false f135 8 4 [V11,V1]
(.next 0 [(.io .add V6 (.ki 1))])))
(.next 0 [(.io .add V6 (.ki 1))]))))))))))))
(.call false 68 [V4]
(.rq (.tup 0 V7)
(.rq (.tup 1 V7)
(.ret [(.proj V7 0)]))))))))))
theorem c9F:tree prog [] [] [⟨0,3,[],[]⟩] [] 135=some b9H:=by kernel_rfl
noncomputable def b9I:Tree:=(.rq (.cells 6 V0)
(.pm f134 2 3 [(.cell V0 5 0 noI)]
(.loop [(.ki 0),(.ki 0)]
(.ri V5
(.ri V3
(.br (.io .lss V5 V3)
(.pm f134 4 0 [(.cell V0 5 0 noI),V5]
(.pm f134 4 1 [V6]
(.rq (.cells 2 V7)
(.rq (.num (.cell V7 0 0 noI))
(.rq (.nn (.cell V7 0 0 noI))
(.rq (.num (.cell V7 1 0 noI))
(.rq (.nn (.cell V7 1 0 noI))
(.ru V1
(.br (.uo .neq (.uo .and V1 (.uo .shl (.k (.int .u64 (1))) (.cell V7 0 0 noI))) (.k (.int .u64 (0))))
(.ru V2
(.br (.uo .neq (.uo .and V2 (.uo .shl (.k (.int .u64 (1))) (.cell V7 1 0 noI))) (.k (.int .u64 (0))))
(.ri V4
(.next 0 [(.io .add V4 (.ki 1)),(.io .add V5 (.ki 1))]))
(.br (.uo .neq (.uo .and V1 (.uo .shl (.k (.int .u64 (1))) (.cell V7 1 0 noI))) (.k (.int .u64 (0))))
(.br (.uo .neq (.uo .and V2 (.uo .shl (.k (.int .u64 (1))) (.cell V7 0 0 noI))) (.k (.int .u64 (0))))
(.ri V4
(.next 0 [(.io .add V4 (.ki 1)),(.io .add V5 (.ki 1))]))
(.next 0 [V4,(.io .add V5 (.ki 1))]))
(.next 0 [V4,(.io .add V5 (.ki 1))]))))
(.br (.uo .neq (.uo .and V1 (.uo .shl (.k (.int .u64 (1))) (.cell V7 1 0 noI))) (.k (.int .u64 (0))))
(.ru V2
(.br (.uo .neq (.uo .and V2 (.uo .shl (.k (.int .u64 (1))) (.cell V7 0 0 noI))) (.k (.int .u64 (0))))
(.ri V4
(.next 0 [(.io .add V4 (.ki 1)),(.io .add V5 (.ki 1))]))
(.next 0 [V4,(.io .add V5 (.ki 1))])))
(.next 0 [V4,(.io .add V5 (.ki 1))])))))))))))
(.ret [V4])))))))
theorem c9G:tree prog [] [] [⟨0,3,[],[]⟩] [⟨5,[0,1,3,0,8,24,7,127],[0,5,0,0,5,0,0,0],[0,1,0,0,1,0,0,0],[0,1,2,3,4,5,6,7],[]⟩] 134=some b9I:=by kernel_rfl
noncomputable def b9J:Tree:=(.loop [(.k (.slice none 0 0)),(.ki 0)]
(.ri V2
(.ri V0
(.br (.io .lss V2 V0)
(.loop [V1,(.io .add V2 (.ki 1))]
(.ri V4
(.br (.io .lss V4 V0)
(.rq (.cells 1 V2)
(.rq (.cells 1 V4)
(.ef false f132 8 4 [(.put (.put (.z 100) 0 1 V2 0 noI) 1 1 V4 0 noI)]
(.ef false f132 8 5 [V3,V5]
(.next 1 [V6,(.io .add V4 (.ki 1))])))))
(.next 0 [V3,(.io .add V2 (.ki 1))]))))
(.ret [V1])))))
theorem c9H:tree prog [] [] [⟨0,3,[],[]⟩,⟨0,6,[],[]⟩] [] 132=some b9J:=by kernel_rfl
noncomputable def b9K:Tree:=(.pub 142 (.z 142)
(.pm f84 2 0 [V1]
(.ef false f84 2 2 [V2,V0]
(.pm f84 3 0 [V1]
(.rq (.cells 12 V4)
(.ret [(.ag V4)]))))))
theorem c9I:tree prog [3] [] [] [] 84=some b9K:=by kernel_rfl
noncomputable def b9L:Tree:=(.rq (.cells 1 V0)
(.pub 34 V0
(.ef false f196 1 0 [V1]
(.ret [V2]))))
theorem c9J:tree prog [1] [] [] [] 196=some b9L:=by kernel_rfl
noncomputable def b4m:Tree:=(.pm f233 0 0 [V1]
(.pm f233 0 1 [V1]
(.ru V3
(.ru V2
(.pm f233 1 0 [V1]
(.ru V4
(.loop [(.uo .andNot V4 (.uo .and V2 (.op1 .neg .u64 V3)))]
(.ru V5
(.br (.uo .neq V5 (.k (.int .u64 (0))))
(.ef false f233 5 4 [V0,(.uo .or (.uo .and (.uo .sub V5 (.k (.int .u64 (1)))) (.uo .andNot V4 (.uo .and V2 (.op1 .neg .u64 V3)))) (.uo .and V2 (.op1 .neg .u64 V3)))]
(.rq (.bool V6)
(.br (.nt V6)
(.ret [])
(.next 0 [(.uo .and (.uo .sub V5 (.k (.int .u64 (1)))) (.uo .andNot V4 (.uo .and V2 (.op1 .neg .u64 V3))))]))))
(.ret []))))))))))
theorem b4n:tree prog [] [] [⟨0,3,[],[]⟩] [] 233=some b4m:=by kernel_rfl
noncomputable def b9M:Tree:=(.rq (.cells 6 V0)
(.call false 33 [(.sub V0 4 2 0 noI),V1]
(.rq (.tup 0 V2)
(.rq (.tup 1 V2)
(.rq (.cells 8 (.proj V2 0))
(.call false 94 [(.ag (.proj V2 0))]
(.call false 158 [V3]
(.rq (.cells 4 V4)
(.ret [(.ag V4)])))))))))
theorem c9K:tree prog [] [] [] [] 194=some b9M:=by kernel_rfl
noncomputable def b9N:Tree:=(.rq (.cells 6 V0)
(.rq (.cells 1 V1)
(.ef false f151 1 0 []
(.rq (.cells 1 V2)
(.call false 111 [(.cell V1 0 0 noI),(.cell V0 3 0 noI)]
(.rq (.tup 0 V3)
(.rq (.tup 1 V3)
(.call false 132 [(.cell V0 3 0 noI)]
(.pm f151 4 1 [V4]
(.loop [(.ki 0)]
(.ri V6
(.ri V5
(.br (.io .lss V6 V5)
(.pm f151 6 0 [V4,V6]
(.pm f151 6 1 [V7]
(.rq (.cells 2 V8)
(.pm f151 7 3 [(.proj V3 0),(.cell V8 0 0 noI)]
(.pm f151 7 4 [V9]
(.pm f151 7 8 [(.proj V3 0),(.cell V8 1 0 noI)]
(.pm f151 7 9 [V11]
(.ru V10
(.ru V12
(.call false 194 [(.ag V0),(.uo .or V10 V12)]
(.rq (.cells 4 V13)
(.call false 95 [(.sub V13 0 2 0 noI)]
(.ri V14
(.br (.io .eql V14 (.ki 0))
(.next 0 [(.io .add V6 (.ki 1))])
(.rq (.int .i64 (.cell V0 4 0 noI))
(.pm f151 10 6 [V4]
(.ri V15
(.call true 89 [(.io .mul (.io .sub (.cell V0 4 0 noI) (.ki 1)) V15)]
(.call true 195 [(.ag V13),V16]
(.rq (.cells 4 V17)
(.call false 196 [(.uo .or V10 V12)]
(.rf V18 1 []
(.call false 135 [(.cell V1 0 0 noI),(.cell V8 0 0 noI),(.cell V8 1 0 noI),V19]
(.call false 114 [(.ag V0),V19]
(.rq (.bool V21)
(.br V21
(.ru V19
(.call false 114 [(.ag V0),(.uo .andNot (.uo .or V10 V12) V19)]
(.rq (.bool V22)
(.br V22
(.call false 84 [(.cell V1 0 0 noI)]
(.call false 84 [V20]
(.pm f151 14 15 [V23,V24]
(.rq (.bool V25)
(.br V25
(.call true 84 [V20]
(.call true 194 [(.ag V0),V19]
(.call true 194 [(.ag V0),(.uo .andNot (.uo .or V10 V12) V19)]
(.call true 195 [V27,V28]
(.call true 197 [V29,(.ag V17)]
(.ef false f151 15 14 [(.cell V2 0 0 noI),V26,V30]
(.next 1 [])))))))
(.next 1 []))))))
(.next 1 [])))))
(.next 1 [])))))
(.next 0 [(.io .add V6 (.ki 1))])
(.dead 818)))))))))))))))))))))))
(.ret [(.cell V2 0 0 noI)]))))))))))))))
theorem c9L:tree prog [] [] [⟨0,5,[],[]⟩,⟨4,13,[],[]⟩] [⟨7,[0,0,2,7,15,0,0,64,224,480,1023,0,4095],[0,0,5,1,1,0,0,5,1,1,0,3,4],[0,0,3,0,0,0,0,3,0,0,0,0,0],[0,1,2,3,4,5,6,7,8,9,10,11],[12]⟩,⟨10,[0,0,2,6,14,0,32,126,254,511,0,2047],[5,0,0,5,0,0,1,0,2,2,3,4],[5,0,0,0,0,0,0,0,0,0,0,0],[0,1,2,3,4,5,6,7,8,9,10],[11]⟩,⟨15,[0,0,2,0,0,30,0,0,0,384,1022,2046,0,8190,16383],[5,0,2,5,0,2,5,5,0,0,2,2,5,2,4],[2,0,0,0,0,0,0,4,0,0,0,0,6,0,0],[0,1,3,4,6,7,8,9,12,2,5,10,11,13],[14]⟩] 151=some b9N:=by kernel_rfl
noncomputable def b4o:Tree:=(.rq (.cells 6 V0)
(.call false 151 [(.ag V0),V1]
(.call false 89 [(.ki 1)]
(.rq (.cells 4 V3)
(.ef false f80 3 1 [V2]
(.loop [V3]
(.ef false f80 4 0 [V4]
(.rq (.tup 0 V6)
(.rq (.bool (.proj V6 0))
(.br (.proj V6 0)
(.ef false f80 5 0 [V4]
(.rq (.tup 1 V7)
(.rq (.cells 4 (.proj V7 1))
(.call false 152 [(.ag V5),(.ag (.proj V7 1))]
(.rq (.cells 4 V8)
(.next 0 [V8]))))))
(.call false 95 [(.sub V5 0 2 0 noI)]
(.ri V7
(.br (.io .gtr V7 (.ki 0))
(.call true 84 [V1]
(.ef false f80 8 4 [V2,V8,(.ag V5)]
(.ret [V2])))
(.ret [V2]))))))))))))))
theorem c4N:tree prog [] [] [⟨0,4,[],[1]⟩] [⟨8,[0,0,2,0,15],[0,0,2,5,4],[0,0,0,1,0],[0,1,3,2],[4]⟩] 80=some b4o:=by kernel_rfl
noncomputable def b9O:Tree:=(.rq (.cells 2 V0)
(.rq (.cells 4 V1)
(.call false 10 [(.ag V0),(.ag V1)]
(.ri V3
(.br (.io .neq V3 (.ki 0))
(.ret [V3])
(.rq (.int .i64 (.cell V0 0 0 noI))
(.br (.io .gtr (.cell V0 0 0 noI) (.ki 12))
(.ret [(.ki 3)])
(.ef false f79 6 3 [(.cat (.ag V1) 4 (.ag V0))]
(.pub 112 (.z 112)
(.ef false f79 6 5 [V5,V4]
(.ef false f79 7 1 [V5]
(.call false 149 [V2,V7]
(.rq (.bool V8)
(.br V8
(.ret [(.ki 8)])
(.ret [(.ki 0)])))))))))))))))
theorem c9M:tree prog [8] [] [] [] 79=some b9O:=by kernel_rfl
noncomputable def b4p:Tree:=(.pm f150 1 0 [V1]
(.ef false f150 1 2 [V2,V0]
(.rq (.bool V3)
(.ret [(.nt V3)]))))
theorem c4O:tree prog [] [] [] [] 150=some b4p:=by kernel_rfl
noncomputable def b4q:Tree:=(.rq (.cells 2 V0)
(.rq (.cells 4 V1)
(.ef false f27 1 3 [V2]
(.call false 79 [(.ag V0),(.ag V1),V3]
(.ri V4
(.br (.io .neq V4 (.ki 0))
(.ret [(.k (.slice none 0 0)),(.k (.slice none 0 0)),V4])
(.call false 68 [V2]
(.rq (.tup 0 V5)
(.rq (.tup 1 V5)
(.call false 80 [(.cat (.ag V1) 4 (.ag V0)),(.proj V5 0)]
(.ef false f27 6 1 [V6]
(.loop [(.k (.slice none 0 0))]
(.ef false f27 7 0 [V7]
(.rq (.tup 0 V9)
(.rq (.bool (.proj V9 0))
(.br (.proj V9 0)
(.ef false f27 8 0 [V7]
(.rq (.tup 0 V10)
(.pub 142 (.z 142)
(.ef false f27 8 3 [V11,(.proj V10 0)]
(.pm f27 9 3 [V11,(.cell V0 0 0 noI)]
(.call false 50 [V13]
(.ef false f27 9 5 [V14]
(.ef false f27 9 6 [V8,V15]
(.next 0 [V16])))))))))
(.call false 81 [V8,(.k (.func (.func 82) #[] #[]))]
(.pm f27 11 1 [V8]
(.loop [V8,(.ki 0),(.k (.slice none 0 0)),(.ki 0)]
(.ri V15
(.ri V11
(.br (.io .lss V15 V11)
(.pm f27 13 0 [V8,V15]
(.pm f27 13 1 [V16]
(.call false 84 [V17]
(.pm f27 14 3 [V6,V18]
(.call false 85 [V19]
(.rq (.tup 0 V20)
(.rq (.tup 1 V20)
(.rq (.cells 16 (.proj V20 0))
(.rq (.int .i64 (.proj V20 1))
(.br (.io .neq (.proj V20 1) (.ki 0))
(.ret [(.k (.slice none 0 0)),(.k (.slice none 0 0)),(.proj V20 1)])
(.ef false f27 17 2 [(.ag (.proj V20 0))]
(.ef false f27 17 3 [V14,V21]
(.next 1 [V12,V13,V22,(.io .add V15 (.ki 1))])))))))))))))
(.ret [V12,V14,(.ki 0)])))))))))))))))))))))))
theorem c4P:tree prog [11] [] [⟨0,7,[],[]⟩,⟨0,12,[],[]⟩] [] 27=some b4q:=by kernel_rfl
noncomputable def b0S:Tree:=(.call false 83 [V0,V1]
(.ret [V2]))
theorem b9P:tree prog [] [] [] [] 82=some b0S:=by kernel_rfl
noncomputable def c6U:Tree:=(.rq (.cells 2 V0)
(.rq (.cells 4 V1)
(.ef false f31 1 4 [V2,V3]
(.call false 79 [(.ag V0),(.ag V1),V4]
(.ri V5
(.br (.io .neq V5 (.ki 0))
(.ret [(.cat (.z 53) 8 (.z 53)),V5])
(.call false 68 [V2]
(.rq (.tup 0 V6)
(.rq (.tup 1 V6)
(.call false 68 [V3]
(.rq (.tup 0 V7)
(.rq (.tup 1 V7)
(.call false 80 [(.cat (.ag V1) 4 (.ag V0)),(.proj V6 0)]
(.call false 84 [(.proj V7 0)]
(.pm f31 6 7 [V8,V9]
(.rq (.tup 0 V10)
(.rq (.tup 1 V10)
(.rq (.cells 4 (.proj V10 0))
(.rq (.bool (.proj V10 1))
(.br (.proj V10 1)
(.call false 85 [(.ag (.proj V10 0))]
(.rq (.tup 0 V11)
(.rq (.tup 1 V11)
(.rq (.cells 16 (.proj V11 0))
(.ret [(.ag (.proj V11 0)),(.proj V11 1)])))))
(.call false 89 [(.ki 0)]
(.call false 85 [V11]
(.rq (.tup 0 V12)
(.rq (.tup 1 V12)
(.rq (.cells 16 (.proj V12 0))
(.ret [(.ag (.proj V12 0)),(.proj V12 1)]))))))))))))))))))))))))))
theorem d3q:tree prog [] [] [] [] 31=some c6U:=by kernel_rfl
noncomputable def b4r:Tree:=(.rq (.cells 2 V0)
(.rq (.cells 4 V1)
(.rq (.cells 1 V3)
(.call false 10 [(.ag V0),(.ag V1)]
(.ri V4
(.br (.io .neq V4 (.ki 0))
(.ret [(.k (.slice none 0 0)),(.k (.bool false)),(.z 66),V4])
(.pub 127 (.cat (.cat (.ag V1) 4 (.ag V0)) 6 (.cat (.ag V3) 1 (.z 47)))
(.pm f22 5 1 [V5]
(.pm f22 5 2 [V6]
(.pm f22 5 3 [V7]
(.call false 55 [V8,V2]
(.rq (.bool V9)
(.br (.nt V9)
(.ret [(.k (.slice none 0 0)),(.k (.bool false)),(.z 66),(.ki 8)])
(.call false 68 [V2]
(.rq (.tup 0 V10)
(.rq (.tup 1 V10)
(.call false 69 [V5,(.proj V10 0)]
(.pm f22 9 1 [V5]
(.pm f22 9 2 [V12]
(.pm f22 9 3 [V13]
(.ri V14
(.br (.io .neq V14 (.ki 0))
(.pm f22 10 2 [V5]
(.pm f22 10 3 [V15]
(.pm f22 10 4 [V16]
(.ret [(.k (.slice none 0 0)),(.k (.bool false)),(.z 66),V17]))))
(.pm f22 11 6 [V5]
(.pm f22 11 7 [V15]
(.pm f22 11 8 [V16]
(.call true 24 [(.proj V10 0),V11]
(.rq (.bool V18)
(.rq (.cells 1 V17)
(.ret [V11,(.nt V18),(.ag V17),(.ki 0)])))))))))))))))))))))))))))))
theorem c4Q:tree prog [26] [] [] [⟨10,[0,0,2,6,14,0,32,97,255],[0,0,7,7,7,0,0,6,0],[0,0,0,0,0,0,0,3,0],[0,1],[2,3,4,5,6,7,8]⟩,⟨11,[0,0,0,6,14,0,32,96,224,15,543,2047,4095],[0,0,0,2,0,0,1,1,1,0,0,6,0],[0,0,0,0,0,0,0,0,0,0,0,3,0],[0,1,2,5,6,7,8,3,4,9,10],[11,12]⟩] 22=some b4r:=by kernel_rfl
end Go.Proofs.YtkcjbfoejpfbbaaGreatDoor

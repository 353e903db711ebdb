/- MADE BY rxgen.py (mkGT.py): trees of chapter 32. -/
import Derived.Test.YtkcjbfoejpfbbaaGreatDoorProg
import Derived.Test.YtkcjbfoejpfbbaaGreatDoorRxY
namespace Go.Proofs.YtkcjbfoejpfbbaaGreatDoor
open Go.Proofs.Tryz
open Go.RowKit Go.RX
set_option maxRecDepth 100000
noncomputable def c1g:Tree:=(.rq (.cells 2 V0)
(.rq (.cells 1 V2)
(.call false 52 [(.ag V0)]
(.ri V3
(.br (.io .neq V3 (.ki 0))
(.ret [(.k (.slice none 0 0)),(.z 66),V3])
(.ru V1
(.br (.uo .eql V1 (.k (.int .u64 (0))))
(.ret [(.k (.slice none 0 0)),(.z 66),(.ki 2)])
(.call false 184 [(.ag V0),V1]
(.rq (.bool V4)
(.br (.nt V4)
(.ret [(.k (.slice none 0 0)),(.z 66),(.ki 2)])
(.call false 39 [(.ag V0),V1]
(.rq (.tup 0 V5)
(.rq (.tup 1 V5)
(.rq (.bool (.proj V5 0))
(.br (.nt (.proj V5 0))
(.ret [(.k (.slice none 0 0)),(.z 66),(.ki 4)])
(.rq (.cells 1 V1)
(.pub 254 (.cat (.ag V2) 1 (.cat (.ag V0) 2 (.put (.cat V1 1 (.z 3)) 1 1 (.ki 10000) 0 noI)))
(.loop [(.ki 0),(.uo .and V1 (.op1 .neg .u64 V1)),(.k (.slice none 0 0)),(.ki 0),V0,V2,(.z 66)]
(.ri V10
(.rq (.int .i64 (.cell V0 0 0 noI))
(.br (.io .lss V10 (.cell V0 0 0 noI))
(.ru V8
(.rq (.num V10)
(.rq (.nn V10)
(.br (.uo .eql (.uo .and (.uo .shr (.uo .andNot V1 V8) V10) (.k (.int .u64 (1)))) (.k (.int .u64 (0))))
(.next 0 [V7,V8,V9,(.io .add V10 (.ki 1)),V11,V12,V13])
(.call false 185 [V6,V10,V8]
(.rq (.tup 0 V14)
(.rq (.tup 1 V14)
(.rq (.int .i64 (.proj V14 1))
(.br (.io .neq (.proj V14 1) (.ki 0))
(.ret [(.k (.slice none 0 0)),(.z 66),(.proj V14 1)])
(.call false 186 [(.proj V14 0)]
(.pm f133 19 1 [V15]
(.loop [V8,V9,(.ki 0)]
(.ri V19
(.ri V16
(.br (.io .lss V19 V16)
(.pm f133 21 1 [V15,V19]
(.pm f133 21 2 [V20]
(.rq (.num V21)
(.rq (.nn V21)
(.ru V17
(.br (.io .gtr V19 (.ki 0))
(.pm f133 24 4 [V15,(.io .sub V19 (.ki 1))]
(.pm f133 24 5 [V22]
(.pm f133 24 6 [V21,V23]
(.pm f133 24 11 [V15,(.io .sub V19 (.ki 1))]
(.pm f133 24 12 [V25]
(.pm f133 24 13 [V21,V26]
(.rq (.cells 1 V24)
(.rq (.cells 1 V27)
(.call false 187 [(.cell V11 1 0 noI),(.put (.put (.z 100) 0 1 V24 0 noI) 1 1 V27 0 noI)]
(.ef false f133 25 5 [V28]
(.ef false f133 25 6 [V18,V29]
(.next 1 [(.uo .or V17 (.uo .shl (.k (.int .u64 (1))) V21)),V30,(.io .add V19 (.ki 1))]))))))))))))
(.next 1 [(.uo .or V17 (.uo .shl (.k (.int .u64 (1))) V21)),V18,(.io .add V19 (.ki 1))])))))))
(.next 0 [V7,V17,V18,(.io .add V10 (.ki 1)),V11,V12,V13]))))))))))))))))
(.call false 188 [V9]
(.pm f133 29 2 [V6]
(.pm f133 29 3 [V15]
(.pm f133 29 4 [V16]
(.rq (.cells 1 V17)
(.ret [V9,(.ag V17),(.ki 0)])))))))))))))))))))))))))))
theorem d0f:tree prog [48] [] [⟨0,12,[],[0,1,2]⟩,⟨0,20,[],[]⟩] [⟨24,[0,0,0,4,14,30,63,0,0,0,512,1792,3840,8064,16383,0,65535],[0,0,0,0,1,1,1,0,0,0,0,1,1,1,0,3,4],[0,0,0,0,0,0,0,0,0,0,0,0,0,0,0,0,0],[0,1,2,3,4,5,6,7,8,9,10,11,12,13,14,15],[16]⟩,⟨29,[0,0,2,6,14,1,63,127],[0,0,1,1,1,0,6,0],[0,0,0,0,0,0,2,0],[0,1,2,3,4,5],[6,7]⟩] 133=some c1g:=by kernel_rfl
noncomputable def c1h:Tree:=(.ef false f185 1 1 [V1]
(.ef false f185 2 1 [V0]
(.loop [(.k (.slice none 0 0)),(.ki 0),V1,V3]
(.ru V2
(.rq (.num V7)
(.rq (.nn V7)
(.br (.uo .eql (.uo .and (.uo .shr V2 V7) (.k (.int .u64 (1)))) (.k (.int .u64 (1))))
(.ret [V8,(.ki 0)])
(.pm f185 5 1 [V0]
(.pm f185 5 2 [V9]
(.pm f185 5 3 [V10]
(.ri V11
(.br (.io .eql V11 (.ki 0))
(.ret [(.k (.slice none 0 0)),(.ki 9)])
(.pm f185 7 1 [V0]
(.pm f185 7 2 [V12]
(.pm f185 7 3 [V13]
(.ri V14
(.pm f185 7 5 [V0]
(.pm f185 7 6 [V15]
(.ef false f185 7 7 [V16,(.io .sub V14 (.ki 1))]
(.call false 228 [V0,V7]
(.call false 227 [V18]
(.call false 226 [V19,V4]
(.rq (.tup 0 V20)
(.rq (.tup 1 V20)
(.rq (.int .i64 (.proj V20 1))
(.br (.io .neq (.proj V20 1) (.ki 0))
(.ret [(.k (.slice none 0 0)),(.proj V20 1)])
(.ef false f185 12 2 [(.proj V20 0)]
(.ef false f185 12 3 [V8,V21]
(.next 0 [V5,V6,(.proj V20 0),V22])))))))))))))))))))))))))))))
theorem d0g:tree prog [] [] [⟨0,4,[],[]⟩] [] 185=some c1h:=by kernel_rfl
noncomputable def c1i:Tree:=(.ef false f186 1 0 []
(.pm f186 2 1 [V0]
(.loop [(.ki 0)]
(.ri V3
(.ri V2
(.br (.io .lss V3 V2)
(.pm f186 4 1 [V0,V3]
(.pm f186 4 2 [V4]
(.ef false f186 5 3 [V1,V5,V3]
(.next 0 [(.io .add V3 (.ki 1))]))))
(.pm f186 7 1 [V0,(.ki 0)]
(.pm f186 7 2 [V4]
(.ef false f186 7 3 [V5]
(.pm f186 8 1 [V0,(.ki 0)]
(.pm f186 8 2 [V7]
(.loop [V8,V6]
(.pm f186 9 3 [V0]
(.ri V11
(.pm f186 9 5 [V0,(.io .sub V11 (.ki 1))]
(.pm f186 9 6 [V12]
(.ri V9
(.ri V13
(.br (.io .neq V9 V13)
(.pm f186 10 3 [V1,V9]
(.ri V14
(.pm f186 10 5 [V0,(.io .add V14 (.ki 1))]
(.pm f186 10 6 [V15]
(.ef false f186 11 2 [V16]
(.ef false f186 11 3 [V10,V17]
(.next 1 [V16,V18])))))))
(.ret [V10]))))))))))))))))))))
theorem d0h:tree prog [] [] [⟨0,3,[],[]⟩,⟨0,9,[],[]⟩] [] 186=some c1i:=by kernel_rfl
noncomputable def c1j:Tree:=(.pm f226 1 2 [V0]
(.ef false f226 1 3 [V1,V2]
(.rq (.tup 0 V3)
(.rq (.tup 1 V3)
(.rq (.int .i64 (.proj V3 1))
(.br (.io .neq (.proj V3 1) (.ki 0))
(.ret [(.ki 0),(.proj V3 1)])
(.pm f226 5 2 [V0,(.proj V3 0)]
(.pm f226 5 3 [V4]
(.ret [V5,(.ki 0)])))))))))
theorem d0i:tree prog [] [] [] [] 226=some c1j:=by kernel_rfl
noncomputable def c1k:Tree:=(.pm f225 1 1 [V0]
(.pm f225 1 2 [V2]
(.pm f225 1 3 [V3]
(.call false 183 [V4,V1]
(.rq (.tup 0 V5)
(.rq (.tup 1 V5)
(.rq (.tup 2 V5)
(.rq (.cells 1 (.proj V5 1))
(.pm f225 2 2 [V0]
(.pm f225 2 3 [V6]
(.ef false f225 2 4 [V7,(.ag (.proj V5 1))]
(.ret [(.proj V5 0),(.proj V5 2)]))))))))))))
theorem d0j:tree prog [] [] [] [] 225=some c1k:=by kernel_rfl
noncomputable def c1l:Tree:=(.rq (.cells 1 V0)
(.pub 252 V0
(.rq (.cells 1 V1)
(.pub 3 V1
(.ef false f228 1 0 [V2,V3]
(.ret [V4]))))))
theorem d0k:tree prog [2,3] [] [] [] 228=some c1l:=by kernel_rfl
noncomputable def b4E:Tree:=(.pm f250 1 0 [V1]
(.pm f250 1 1 [V3]
(.pm f250 1 2 [V4]
(.pm f250 1 3 [V5]
(.pm f250 1 4 [V6]
(.pm f250 1 5 [V7]
(.loop [(.k (.int .u64 (0))),(.ki 0)]
(.ri V10
(.ri V8
(.br (.io .lss V10 V8)
(.pm f250 3 0 [V7,V10]
(.pm f250 3 1 [V11]
(.rq (.cells 2 V12)
(.pm f250 4 2 [V2]
(.rq (.int .i64 (.cell V12 0 0 noI))
(.ri V13
(.br (.io .eql (.cell V12 0 0 noI) V13)
(.rq (.int .i64 (.cell V12 1 0 noI))
(.pm f250 5 6 [V2]
(.ri V14
(.rq (.nn (.io .sub (.io .add (.cell V12 0 0 noI) (.cell V12 1 0 noI)) V14))
(.ru V9
(.next 0 [(.uo .or V9 (.uo .shl (.k (.int .u64 (1))) (.io .sub (.io .add (.cell V12 0 0 noI) (.cell V12 1 0 noI)) V14))),(.io .add V10 (.ki 1))]))))))
(.pm f250 4 7 [V2]
(.rq (.int .i64 (.cell V12 1 0 noI))
(.ri V14
(.br (.io .eql (.cell V12 1 0 noI) V14)
(.pm f250 5 6 [V2]
(.ri V15
(.rq (.nn (.io .sub (.io .add (.cell V12 0 0 noI) (.cell V12 1 0 noI)) V15))
(.ru V9
(.next 0 [(.uo .or V9 (.uo .shl (.k (.int .u64 (1))) (.io .sub (.io .add (.cell V12 0 0 noI) (.cell V12 1 0 noI)) V15))),(.io .add V10 (.ki 1))])))))
(.next 0 [V9,(.io .add V10 (.ki 1))]))))))))))))
(.pm f250 7 1 [V1]
(.pm f250 7 2 [V11]
(.pm f250 7 3 [V12]
(.pm f250 7 4 [V13]
(.ru V9
(.ru V14
(.loop [(.uo .and V9 V14)]
(.ru V15
(.br (.uo .neq V15 (.k (.int .u64 (0))))
(.call false 101 [V15]
(.ef false f250 10 3 [V0,V16]
(.rq (.bool V17)
(.br (.nt V17)
(.ret [])
(.next 1 [(.uo .and V15 (.uo .sub V15 (.k (.int .u64 (1)))))])))))
(.ret []))))))))))))))))))))
theorem c5a:tree prog [] [] [⟨0,2,[],[]⟩,⟨0,8,[],[]⟩] [] 250=some b4E:=by kernel_rfl
noncomputable def c1m:Tree:=(.rq (.cells 2 V0)
(.call true 160 [V1]
(.ri V2
(.rq (.int .i64 (.cell V0 0 0 noI))
(.ret [(.io .leq V2 (.cell V0 0 0 noI))])))))
theorem d0l:tree prog [] [] [] [⟨1,[0,1,0,4,15,31],[0,2,0,5,0,0],[0,0,0,0,0,0],[0,2,3,1,4,5],[]⟩] 184=some c1m:=by kernel_rfl
noncomputable def c1n:Tree:=(.call false 249 [(.k (.slice none 0 0)),V0]
(.ret [V1]))
theorem d0m:tree prog [] [] [] [] 227=some c1n:=by kernel_rfl
noncomputable def c1o:Tree:=(.rq (.cells 1 V0)
(.rf V1 1 [V0]
(.ef false f249 3 2 [V2]
(.ef false f249 3 3 [(.cell V3 0 0 noI),V4]
(.rq (.cells 1 V5)
(.next 0 [V5]))))
(.ret [(.cell V2 0 0 noI)])
(.dead 818)))
theorem d0n:tree prog [] [] [⟨4,3,[],[0]⟩] [] 249=some c1o:=by kernel_rfl
noncomputable def c1p:Tree:=(.rq (.cells 2 V1)
(.pm f187 1 1 [V0]
(.loop [(.ki 0),(.ki 0)]
(.ri V4
(.ri V2
(.br (.io .lss V4 V2)
(.pm f187 4 3 [V0,V4]
(.pm f187 4 4 [V5]
(.pm f187 4 5 [(.ag V1),V6]
(.rq (.bool V7)
(.br V7
(.ret [V4])
(.next 0 [V3,(.io .add V4 (.ki 1))]))))))
(.ret [(.k (.int .i64 (-1)))])))))))
theorem d0o:tree prog [] [] [⟨0,2,[],[]⟩] [⟨4,[0,0,0,6,14,31],[5,0,0,1,1,1],[0,0,0,0,0,0],[0,1,2,3,4,5],[]⟩] 187=some c1p:=by kernel_rfl
noncomputable def c1q:Tree:=(.pm f188 0 1 [V0]
(.ri V1
(.call false 154 [(.cv .u64 V1)]
(.call false 229 [V0,(.ki 0),V1,V2]
(.ret [])))))
theorem d0p:tree prog [] [] [] [] 188=some c1q:=by kernel_rfl
noncomputable def c1r:Tree:=(.loop [V3,(.k (.bool true)),V1,(.k (.bool true)),V2]
(.ri V8
(.ri V6
(.rq (.isb true (.io .leq (.io .sub V8 V6) (.ki 12)))
(.call false 251 [V0,V6,V8]
(.ret []))))))
theorem d0q:tree prog [] [(23,true)] [⟨0,2,[],[]⟩] [] 229=some c1r:=by kernel_rfl
noncomputable def c1s:Tree:=(.ri V1
(.loop [(.io .add V1 (.ki 1))]
(.ri V3
(.ri V2
(.br (.io .lss V3 V2)
(.loop [V3]
(.ri V4
(.br (.io .gtr V4 V1)
(.pm f251 4 6 [V0,V4]
(.pm f251 4 7 [V5]
(.pm f251 4 11 [V0,(.io .sub V4 (.ki 1))]
(.pm f251 4 12 [V7]
(.call true 99 [V6,V8]
(.rq (.bool V9)
(.br V9
(.pm f251 6 8 [V0,(.io .sub V4 (.ki 1))]
(.pm f251 6 9 [V10]
(.pm f251 6 12 [V0,V4]
(.pm f251 6 13 [V12]
(.pm f251 6 14 [V0,V4]
(.ef false f251 6 15 [V14,V11]
(.pm f251 6 16 [V0,(.io .sub V4 (.ki 1))]
(.ef false f251 6 17 [V16,V13]
(.next 1 [(.io .sub V4 (.ki 1))])))))))))
(.next 0 [(.io .add V3 (.ki 1))]))))))))
(.next 0 [(.io .add V3 (.ki 1))]))))
(.ret []))))))
theorem d0r:tree prog [] [] [⟨0,1,[],[]⟩,⟨0,4,[],[]⟩] [⟨4,[0,0,3,7,15,15,63,127,15,15,527,1807,3855,8191,16383],[0,0,0,0,0,0,1,1,0,0,0,1,1,2,0],[0,0,0,0,0,0,0,0,0,0,0,0,0,0,0],[0,1,2,3,4,5,6,7,8,9,10,11,12,13,14],[]⟩,⟨6,[0,0,0,0,8,0,0,64,224,480,0,0,3072,7168,16355,32739,65535,131071],[0,0,0,0,0,0,0,0,1,1,0,0,1,1,1,8,7,8],[0,0,0,0,0,0,0,0,0,0,0,0,0,0,0,0,0,0],[0,1,2,3,4,5,6,7,8,9,10,11,12,13,14],[15,16,17]⟩] 251=some c1s:=by kernel_rfl
noncomputable def c1t:Tree:=(.call false 170 [V0]
(.rq (.bool V2)
(.br V2
(.call false 170 [V1]
(.rq (.bool V3)
(.br (.nt V3)
(.ret [(.k (.bool true))])
(.ri V0
(.ri V1
(.ret [(.io .lss V0 V1)]))))))
(.ri V0
(.ri V1
(.ret [(.io .lss V0 V1)]))))))
theorem c1u:tree prog [] [] [] [] 99=some c1t:=by kernel_rfl
end Go.Proofs.YtkcjbfoejpfbbaaGreatDoor

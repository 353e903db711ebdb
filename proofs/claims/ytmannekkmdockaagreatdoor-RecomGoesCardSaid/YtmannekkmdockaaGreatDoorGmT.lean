/- Trees of functions. -/
import Derived.Test.YtmannekkmdockaaGreatDoorProg
import Derived.Test.YtmannekkmdockaaGreatDoorRxW
namespace Go.Proofs.Z
open Go.Proofs.Tryz
open Go.RowKit Go.RX
set_option maxRecDepth 100000
theorem d3q:tree prog [] [] [] [] 60=some (.rq (.cells 2 V0) (.rq (.cells 4 V1) (.call false 103 [(.ag V0)]
(.ri V2
(.br (.io .neq V2 (.ki 0)) (.ret [V2])
(.pm f60 4 2 [(.cell V1 0 0 noI)]
(.ri V3
(.rq (.int .i64 (.cell V0 0 0 noI)) (.br (.io .neq V3 (.cell V0 0 0 noI)) (.ret [(.ki 320)]) (.rq (.int .i64 (.cell V1 1 0 noI)) (.br (.io .lss (.cell V1 1 0 noI) (.ki 0)) (.ret [(.ki 320)]) (.rq (.int .i64 (.cell V1 2 0 noI)) (.br (.io .gtr (.cell V1 1 0 noI) (.cell V1 2 0 noI)) (.ret [(.ki 320)]) (.rq (.int .i64 (.cell V1 3 0 noI)) (.br (.io .lss (.cell V1 3 0 noI) (.ki 1)) (.ret [(.ki 320)]) (.br (.io .gtr (.cell V1 3 0 noI) (.ki 8)) (.ret [(.ki 320)]) (.call false 104 [(.cell V1 0 0 noI),(.k (.func (.func 105) #[] #[]))]
(.rq (.bool V4) (.br V4
(.ret [(.ki 320)]) (.ret [(.ki 0)])))))))))))))))))))):=by kernel_rfl
theorem c7F:tree prog [] [] [] [] 105=some (.ri V0
(.br (.io .lss V0 (.ki 0)) (.ret [(.k (.bool true))]) (.ret [(.io .gtr V0 (.ki 1000000000))]))):=by kernel_rfl
theorem d3r:tree prog [2] [] [] [] 61=some (.rq (.cells 6 V0) (.pub 109 V0
(.pm f61 1 0 [V2]
(.pm f61 1 1 [V3]
(.pm f61 1 3 [V2]
(.pm f61 1 4 [V5]
(.pm f61 1 5 [V6]
(.call false 106 [V4,V1,V7]
(.ri V8
(.br (.io .neq V8 (.ki 0)) (.ret [(.k (.bool false))])
(.pm f61 3 1 [V2]
(.pm f61 3 2 [V9]
(.pm f61 3 3 [V10]
(.call false 25 [V1,V11]
(.rq (.tup 0 V12) (.rq (.tup 1 V12)
(.ef false f61 4 1 [V2]
(.call false 107 [(.proj V12 0),V13]
(.rq (.bool V14) (.ret [(.nt V14)])))))))))))))))))))):=by kernel_rfl
theorem c7G:tree prog [] [] [] [] 108=some (.pm f108 1 0 [V1]
(.call false 109 [V2,V0]
(.rq (.bool V3) (.ret [(.nt V3)])))):=by kernel_rfl
theorem d3s:tree prog [2] [] [] [] 109=some (.rq (.cells 6 V0) (.pub 109 V0
(.ef false f109 1 1 [V2]
(.call false 178 [V1,V3]
(.pm f109 2 0 [V2]
(.pm f109 2 1 [V5]
(.call false 112 [V6,V1]
(.rq (.tup 0 V7) (.rq (.tup 1 V7) (.rq (.bool (.proj V7 0)) (.br (.proj V7 0)
(.pm f109 3 3 [V2]
(.pm f109 3 4 [V8]
(.pm f109 3 5 [V9]
(.ri V4
(.ri V10
(.br (.io .geq V4 V10)
(.pm f109 3 10 [V2]
(.pm f109 3 11 [V11]
(.pm f109 3 12 [V12]
(.ri V13
(.ret [(.io .leq V4 V13)]))))) (.ret [(.k (.bool false))]))))))) (.ret [(.k (.bool false))])))))))))))):=by kernel_rfl
theorem c7H:tree prog [] [] [] [] 179=some (.pm f179 1 0 [V1]
(.pm f179 1 1 [V2]
(.pm f179 1 2 [V3]
(.pm f179 1 4 [V4,V0]
(.pm f179 1 5 [V5]
(.ret [V6])))))):=by kernel_rfl
theorem d3t:tree prog [] [] [⟨0,2,[],[]⟩] [] 178=some (.loop [(.ki 0),V0]
(.ru V3
(.br (.uo .neq V3 (kU 0)) (.call false 122 [V3]
(.ef false f178 4 4 [V1,V4]
(.ri V2
(.ri V5
(.next 0 [(.io .add V2 V5),(.uo .and V3 (.uo .sub V3 (kU 1)))]))))) (.ret [V2])))):=by kernel_rfl
theorem LF:tree prog [] [] [⟨0,3,[],[]⟩] [] 84=some (.rq (.cells 6 V0)
(.pm f84 2 1 [V2]
(.loop [(.k (.slice none 0 0)),(.ki 0)]
(.ri V5
(.ri V3
(.br (.io .lss V5 V3)
(.pm f84 4 0 [V2,V5]
(.pm f84 4 1 [V6]
(.call false 114 [(.sub V0 4 2 0 noI),V1,V2,V7]
(.rq (.tup 0 V8) (.rq (.tup 1 V8) (.rq (.tup 2 V8) (.call false 109 [(.ag V0),(.proj V8 0)]
(.rq (.bool V9) (.br V9
(.call false 109 [(.ag V0),(.proj V8 1)]
(.rq (.bool V10) (.br V10
(.ef false f84 7 2 [V7]
(.ef false f84 7 3 [V4,V11]
(.next 0 [V12,(.io .add V5 (.ki 1))]))) (.next 0 [V4,(.io .add V5 (.ki 1))])))) (.next 0 [V4,(.io .add V5 (.ki 1))])))))))))) (.ret [V4]))))))):=by kernel_rfl
theorem d3u:tree prog [] [] [] [] 36=some (.rq (.cells 2 V0) (.rq (.cells 4 V1) (.call false 60 [(.ag V0),(.ag V1)]
(.ri V3
(.br (.io .neq V3 (.ki 0)) (.ret [(.k (.bool false)),V3]) (.call false 61 [(.cat (.ag V1) 4 (.ag V0)),V2]
(.ret [V4,(.ki 0)]))))))):=by kernel_rfl
theorem d3v:tree prog [] [] [] [] 37=some (.rq (.cells 2 V0) (.rq (.cells 4 V1) (.call false 60 [(.ag V0),(.ag V1)]
(.ri V4
(.br (.io .neq V4 (.ki 0)) (.ret [(.k (.slice none 0 0)),V4]) (.call false 83 [(.ag V0),V2,V3]
(.ri V5
(.br (.io .neq V5 (.ki 0)) (.ret [(.k (.slice none 0 0)),V5]) (.call false 84 [(.cat (.ag V1) 4 (.ag V0)),V2,V3]
(.ret [V6,(.ki 0)])))))))))):=by kernel_rfl
theorem d3w:tree prog [] [] [⟨0,3,[],[]⟩] [] 116=some (.call false 18 [V0]
(.pm f116 2 1 [V0]
(.loop [(.ki 0)]
(.ri V6
(.ri V5
(.br (.io .lss V6 V5)
(.pm f116 4 1 [V0,V6]
(.pm f116 4 2 [V7]
(.ri V8
(.ri V1
(.br (.io .neq V8 V1)
(.ri V2
(.br (.io .neq V8 V2) (.next 0 [(.io .add V6 (.ki 1))])
(.pm f116 6 3 [V4,V6]
(.ef false f116 6 4 [V9,V2]
(.ru V3
(.rq (.num V6) (.rq (.nn V6) (.br (.uo .eql (.uo .and (.uo .shr V3 V6) (kU 1)) (kU 1))
(.pm f116 8 3 [V4,V6]
(.ef false f116 8 4 [V11,V1]
(.next 0 [(.io .add V6 (.ki 1))]))) (.next 0 [(.io .add V6 (.ki 1))])))))))))
(.pm f116 6 3 [V4,V6]
(.ef false f116 6 4 [V9,V2]
(.ru V3
(.rq (.num V6) (.rq (.nn V6) (.br (.uo .eql (.uo .and (.uo .shr V3 V6) (kU 1)) (kU 1))
(.pm f116 8 3 [V4,V6]
(.ef false f116 8 4 [V11,V1]
(.next 0 [(.io .add V6 (.ki 1))]))) (.next 0 [(.io .add V6 (.ki 1))])))))))))))) (.call false 21 [V4]
(.rq (.tup 0 V7) (.rq (.tup 1 V7) (.ret [(.proj V7 0)])))))))))):=by kernel_rfl
@[reducible] def z4_:SV:= .uo .shl (kU 1) (.cell V7 0 0 noI)
@[reducible] def z5_:SV:= .uo .shl (kU 1) (.cell V7 1 0 noI)
theorem d3x:tree prog [] [] [⟨0,3,[],[]⟩] [⟨5,[0,1,3,0,8,24,7,127],[0,5,0,0,5,0,0,0],[0,1,0,0,1,0,0,0],[0,1,2,3,4,5,6,7],[]⟩] 115=some (.rq (.cells 6 V0)
(.pm f115 2 3 [(.cell V0 5 0 noI)]
(.loop [(.ki 0),(.ki 0)]
(.ri V5
(.ri V3
(.br (.io .lss V5 V3)
(.pm f115 4 0 [(.cell V0 5 0 noI),V5]
(.pm f115 4 1 [V6]
(.rq (.cells 2 V7) (.rq (.num (.cell V7 0 0 noI)) (.rq (.nn (.cell V7 0 0 noI)) (.rq (.num (.cell V7 1 0 noI)) (.rq (.nn (.cell V7 1 0 noI))
(.ru V1
(.br (.uo .neq (.uo .and V1 z4_) (kU 0))
(.ru V2
(.br (.uo .neq (.uo .and V2 z5_) (kU 0))
(.ri V4
(.next 0 [(.io .add V4 (.ki 1)),(.io .add V5 (.ki 1))])) (.br (.uo .neq (.uo .and V1 z5_) (kU 0)) (.br (.uo .neq (.uo .and V2 z4_) (kU 0))
(.ri V4
(.next 0 [(.io .add V4 (.ki 1)),(.io .add V5 (.ki 1))])) (.next 0 [V4,(.io .add V5 (.ki 1))])) (.next 0 [V4,(.io .add V5 (.ki 1))])))) (.br (.uo .neq (.uo .and V1 z5_) (kU 0))
(.ru V2
(.br (.uo .neq (.uo .and V2 z4_) (kU 0))
(.ri V4
(.next 0 [(.io .add V4 (.ki 1)),(.io .add V5 (.ki 1))])) (.next 0 [V4,(.io .add V5 (.ki 1))]))) (.next 0 [V4,(.io .add V5 (.ki 1))]))))))))))) (.ret [V4]))))))):=by kernel_rfl
theorem d3y:tree prog [] [] [⟨0,3,[],[]⟩,⟨0,6,[],[]⟩] [] 111=some (.loop [(.k (.slice none 0 0)),(.ki 0)]
(.ri V2
(.ri V0
(.br (.io .lss V2 V0) (.loop [V1,(.io .add V2 (.ki 1))]
(.ri V4
(.br (.io .lss V4 V0) (.rq (.cells 1 V2) (.rq (.cells 1 V4)
(.ef false f111 8 4 [(.put (.put (.z 99) 0 1 V2 0 noI) 1 1 V4 0 noI)]
(.ef false f111 8 5 [V3,V5]
(.next 1 [V6,(.io .add V4 (.ki 1))]))))) (.next 0 [V3,(.io .add V2 (.ki 1))])))) (.ret [V1]))))):=by kernel_rfl
theorem d3z:tree prog [3] [] [] [] 51=some (.pub 112 (.z 112)
(.pm f51 2 0 [V1]
(.ef false f51 2 2 [V2,V0]
(.pm f51 3 0 [V1]
(.rq (.cells 12 V4) (.ret [(.ag V4)])))))):=by kernel_rfl
theorem d3A:tree prog [1] [] [] [] 146=some (.rq (.cells 1 V0) (.pub 54 V0
(.ef false f146 1 0 [V1]
(.ret [V2])))):=by kernel_rfl
@[reducible] def z6_:SV:= .uo .andNot V4 (.uo .and V2 (.op1 .neg .u64 V3))
theorem c7I:tree prog [] [] [⟨0,3,[],[]⟩] [] 203=some (.pm f203 0 0 [V1]
(.pm f203 0 1 [V1]
(.ru V3
(.ru V2
(.pm f203 1 0 [V1]
(.ru V4
(.loop [z6_]
(.ru V5
(.br (.uo .neq V5 (kU 0))
(.ef false f203 5 4 [V0,(.uo .or (.uo .and (.uo .sub V5 (kU 1)) z6_) (.uo .and V2 (.op1 .neg .u64 V3)))]
(.rq (.bool V6) (.br (.nt V6) (.ret []) (.next 0 [(.uo .and (.uo .sub V5 (kU 1)) z6_)])))) (.ret [])))))))))):=by kernel_rfl
theorem d3B:tree prog [] [] [] [] 145=some (.rq (.cells 6 V0) (.call false 27 [(.sub V0 4 2 0 noI),V1]
(.rq (.tup 0 V2) (.rq (.tup 1 V2) (.rq (.cells 8 (.proj V2 0)) (.call false 75 [(.ag (.proj V2 0))]
(.call false 101 [V3]
(.rq (.cells 4 V4) (.ret [(.ag V4)]))))))))):=by kernel_rfl
theorem d3C:tree prog [] [] [⟨0,5,[],[]⟩,⟨4,13,[],[]⟩] [⟨7,[0,0,2,7,15,0,0,64,224,480,1023,0,4095],[0,0,5,1,1,0,0,5,1,1,0,3,4],[0,0,3,0,0,0,0,3,0,0,0,0,0],[0,1,2,3,4,5,6,7,8,9,10,11],[12]⟩,⟨10,[0,0,2,6,14,0,32,126,254,511,0,2047],[5,0,0,5,0,0,1,0,2,2,3,4],[5,0,0,0,0,0,0,0,0,0,0,0],[0,1,2,3,4,5,6,7,8,9,10],[11]⟩,⟨15,[0,0,2,0,0,30,0,0,0,384,1022,2046,0,8190,16383],[5,0,2,5,0,2,5,5,0,0,2,2,5,2,4],[2,0,0,0,0,0,0,4,0,0,0,0,6,0,0],[0,1,3,4,6,7,8,9,12,2,5,10,11,13],[14]⟩] 89=some (.rq (.cells 6 V0) (.rq (.cells 1 V1)
(.ef false f89 1 0 []
(.rq (.cells 1 V2) (.call false 25 [(.cell V1 0 0 noI),(.cell V0 3 0 noI)]
(.rq (.tup 0 V3) (.rq (.tup 1 V3) (.call false 111 [(.cell V0 3 0 noI)]
(.pm f89 4 1 [V4]
(.loop [(.ki 0)]
(.ri V6
(.ri V5
(.br (.io .lss V6 V5)
(.pm f89 6 0 [V4,V6]
(.pm f89 6 1 [V7]
(.rq (.cells 2 V8)
(.pm f89 7 3 [(.proj V3 0),(.cell V8 0 0 noI)]
(.pm f89 7 4 [V9]
(.pm f89 7 8 [(.proj V3 0),(.cell V8 1 0 noI)]
(.pm f89 7 9 [V11]
(.ru V10
(.ru V12
(.call false 145 [(.ag V0),(.uo .or V10 V12)]
(.rq (.cells 4 V13) (.call false 67 [(.sub V13 0 2 0 noI)]
(.ri V14
(.br (.io .eql V14 (.ki 0)) (.next 0 [(.io .add V6 (.ki 1))]) (.rq (.int .i64 (.cell V0 4 0 noI))
(.pm f89 10 6 [V4]
(.ri V15
(.call true 58 [(.io .mul (.io .sub (.cell V0 4 0 noI) (.ki 1)) V15)]
(.call true 82 [(.ag V13),V16]
(.rq (.cells 4 V17) (.call false 146 [(.uo .or V10 V12)]
(.rf V18 1 []
(.call false 116 [(.cell V1 0 0 noI),(.cell V8 0 0 noI),(.cell V8 1 0 noI),V19]
(.call false 109 [(.ag V0),V19]
(.rq (.bool V21) (.br V21
(.ru V19
(.call false 109 [(.ag V0),(.uo .andNot (.uo .or V10 V12) V19)]
(.rq (.bool V22) (.br V22
(.call false 51 [(.cell V1 0 0 noI)]
(.call false 51 [V20]
(.pm f89 14 15 [V23,V24]
(.rq (.bool V25) (.br V25
(.call true 51 [V20]
(.call true 145 [(.ag V0),V19]
(.call true 145 [(.ag V0),(.uo .andNot (.uo .or V10 V12) V19)]
(.call true 82 [V27,V28]
(.call true 147 [V29,(.ag V17)]
(.ef false f89 15 14 [(.cell V2 0 0 noI),V26,V30]
(.next 1 []))))))) (.next 1 [])))))) (.next 1 []))))) (.next 1 []))))) (.next 0 [(.io .add V6 (.ki 1))]) (.dead 818))))))))))))))))))))))) (.ret [(.cell V2 0 0 noI)])))))))))))))):=by kernel_rfl
theorem b1G:(opr f89 14 15).op= .binOp .neq 112 (.tmp 85) (.tmp 87) 112:=by kernel_rfl
theorem c7J:tree prog [] [] [⟨0,4,[],[1]⟩] [⟨8,[0,0,2,0,15],[0,0,2,5,4],[0,0,0,1,0],[0,1,3,2],[4]⟩] 47=some (.rq (.cells 6 V0) (.call false 89 [(.ag V0),V1]
(.call false 58 [(.ki 1)]
(.rq (.cells 4 V3)
(.ef false f47 3 1 [V2]
(.loop [V3]
(.ef false f47 4 0 [V4]
(.rq (.tup 0 V6) (.rq (.bool (.proj V6 0)) (.br (.proj V6 0)
(.ef false f47 5 0 [V4]
(.rq (.tup 1 V7) (.rq (.cells 4 (.proj V7 1)) (.call false 90 [(.ag V5),(.ag (.proj V7 1))]
(.rq (.cells 4 V8) (.next 0 [V8])))))) (.call false 67 [(.sub V5 0 2 0 noI)]
(.ri V7
(.br (.io .gtr V7 (.ki 0)) (.call true 51 [V1]
(.ef false f47 8 4 [V2,V8,(.ag V5)]
(.ret [V2]))) (.ret [V2])))))))))))))):=by kernel_rfl
theorem d3D:tree prog [8] [] [] [] 46=some (.rq (.cells 2 V0) (.rq (.cells 4 V1) (.call false 60 [(.ag V0),(.ag V1)]
(.ri V3
(.br (.io .neq V3 (.ki 0)) (.ret [V3]) (.rq (.int .i64 (.cell V0 0 0 noI)) (.br (.io .gtr (.cell V0 0 0 noI) (.ki 12)) (.ret [(.ki 3)])
(.ef false f46 6 3 [(.cat (.ag V1) 4 (.ag V0))]
(.pub 138 (.z 138)
(.ef false f46 6 5 [V5,V4]
(.ef false f46 7 1 [V5]
(.call false 87 [V2,V7]
(.rq (.bool V8) (.br V8
(.ret [(.ki 8)]) (.ret [(.ki 0)]))))))))))))))):=by kernel_rfl
theorem c7K:tree prog [] [] [] [] 88=some (.pm f88 1 0 [V1]
(.ef false f88 1 2 [V2,V0]
(.rq (.bool V3) (.ret [(.nt V3)])))):=by kernel_rfl
theorem c7L:tree prog [11] [] [⟨0,7,[],[]⟩,⟨0,12,[],[]⟩] [] 12=some (.rq (.cells 2 V0) (.rq (.cells 4 V1)
(.ef false f12 1 3 [V2]
(.call false 46 [(.ag V0),(.ag V1),V3]
(.ri V4
(.br (.io .neq V4 (.ki 0)) (.ret [(.k (.slice none 0 0)),(.k (.slice none 0 0)),V4]) (.call false 21 [V2]
(.rq (.tup 0 V5) (.rq (.tup 1 V5) (.call false 47 [(.cat (.ag V1) 4 (.ag V0)),(.proj V5 0)]
(.ef false f12 6 1 [V6]
(.loop [(.k (.slice none 0 0))]
(.ef false f12 7 0 [V7]
(.rq (.tup 0 V9) (.rq (.bool (.proj V9 0)) (.br (.proj V9 0)
(.ef false f12 8 0 [V7]
(.rq (.tup 0 V10) (.pub 112 (.z 112)
(.ef false f12 8 3 [V11,(.proj V10 0)]
(.pm f12 9 3 [V11,(.cell V0 0 0 noI)]
(.call false 45 [V13]
(.ef false f12 9 5 [V14]
(.ef false f12 9 6 [V8,V15]
(.next 0 [V16]))))))))) (.call false 48 [V8,(.k (.func (.func 49) #[] #[]))]
(.pm f12 11 1 [V8]
(.loop [V8,(.ki 0),(.k (.slice none 0 0)),(.ki 0)]
(.ri V15
(.ri V11
(.br (.io .lss V15 V11)
(.pm f12 13 0 [V8,V15]
(.pm f12 13 1 [V16]
(.call false 51 [V17]
(.pm f12 14 3 [V6,V18]
(.call false 52 [V19]
(.rq (.tup 0 V20) (.rq (.tup 1 V20) (.rq (.cells 16 (.proj V20 0)) (.rq (.int .i64 (.proj V20 1)) (.br (.io .neq (.proj V20 1) (.ki 0)) (.ret [(.k (.slice none 0 0)),(.k (.slice none 0 0)),(.proj V20 1)])
(.ef false f12 17 2 [(.ag (.proj V20 0))]
(.ef false f12 17 3 [V14,V21]
(.next 1 [V12,V13,V22,(.io .add V15 (.ki 1))]))))))))))))) (.ret [V12,V14,(.ki 0)]))))))))))))))))))))))):=by kernel_rfl
theorem c2x:tree prog [] [] [] [] 49=some (.call false 50 [V0,V1]
(.ret [V2])):=by kernel_rfl
theorem d7k:tree prog [] [] [] [] 16=some (.rq (.cells 2 V0) (.rq (.cells 4 V1)
(.ef false f16 1 4 [V2,V3]
(.call false 46 [(.ag V0),(.ag V1),V4]
(.ri V5
(.br (.io .neq V5 (.ki 0)) (.ret [(.cat (.z 56) 8 (.z 56)),V5]) (.call false 21 [V2]
(.rq (.tup 0 V6) (.rq (.tup 1 V6) (.call false 21 [V3]
(.rq (.tup 0 V7) (.rq (.tup 1 V7) (.call false 47 [(.cat (.ag V1) 4 (.ag V0)),(.proj V6 0)]
(.call false 51 [(.proj V7 0)]
(.pm f16 6 7 [V8,V9]
(.rq (.tup 0 V10) (.rq (.tup 1 V10) (.rq (.cells 4 (.proj V10 0)) (.rq (.bool (.proj V10 1)) (.br (.proj V10 1) (.call false 52 [(.ag (.proj V10 0))]
(.rq (.tup 0 V11) (.rq (.tup 1 V11) (.rq (.cells 16 (.proj V11 0)) (.ret [(.ag (.proj V11 0)),(.proj V11 1)]))))) (.call false 58 [(.ki 0)]
(.call false 52 [V11]
(.rq (.tup 0 V12) (.rq (.tup 1 V12) (.rq (.cells 16 (.proj V12 0)) (.ret [(.ag (.proj V12 0)),(.proj V12 1)])))))))))))))))))))))))))):=by kernel_rfl
theorem LG:tree prog [26] [] [] [⟨10,[0,0,2,6,14,0,32,97,255],[0,0,7,7,7,0,0,6,0],[0,0,0,0,0,0,0,3,0],[0,1],[2,3,4,5,6,7,8]⟩,⟨11,[0,0,0,6,14,0,32,96,224,15,543,2047,4095],[0,0,0,2,0,0,1,1,1,0,0,6,0],[0,0,0,0,0,0,0,0,0,0,0,3,0],[0,1,2,5,6,7,8,3,4,9,10],[11,12]⟩] 19=some (.rq (.cells 2 V0) (.rq (.cells 4 V1) (.rq (.cells 1 V3) (.call false 60 [(.ag V0),(.ag V1)]
(.ri V4
(.br (.io .neq V4 (.ki 0)) (.ret [(.k (.slice none 0 0)),(.k (.bool false)),(.z 63),V4]) (.pub 137 (.cat (.cat (.ag V1) 4 (.ag V0)) 6 (.cat (.ag V3) 1 (.z 43)))
(.pm f19 5 1 [V5]
(.pm f19 5 2 [V6]
(.pm f19 5 3 [V7]
(.call false 61 [V8,V2]
(.rq (.bool V9) (.br (.nt V9) (.ret [(.k (.slice none 0 0)),(.k (.bool false)),(.z 63),(.ki 8)]) (.call false 21 [V2]
(.rq (.tup 0 V10) (.rq (.tup 1 V10) (.call false 62 [V5,(.proj V10 0)]
(.pm f19 9 1 [V5]
(.pm f19 9 2 [V12]
(.pm f19 9 3 [V13]
(.ri V14
(.br (.io .neq V14 (.ki 0))
(.pm f19 10 2 [V5]
(.pm f19 10 3 [V15]
(.pm f19 10 4 [V16]
(.ret [(.k (.slice none 0 0)),(.k (.bool false)),(.z 63),V17]))))
(.pm f19 11 6 [V5]
(.pm f19 11 7 [V15]
(.pm f19 11 8 [V16]
(.call true 20 [(.proj V10 0),V11]
(.rq (.bool V18) (.rq (.cells 1 V17) (.ret [V11,(.nt V18),(.ag V17),(.ki 0)]))))))))))))))))))))))))))))):=by kernel_rfl
end Go.Proofs.Z

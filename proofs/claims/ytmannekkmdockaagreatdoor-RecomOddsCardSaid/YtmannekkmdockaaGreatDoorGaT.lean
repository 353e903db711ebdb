/- Trees of functions. -/
import Derived.Test.YtmannekkmdockaaGreatDoorProg
import Derived.Test.YtmannekkmdockaaGreatDoorRxW
namespace Go.Z
open Proofs.Tryz RowKit RX
set_option maxRecDepth 100000
theorem d9Z:tree prog [] [] [] [] 122=some (.ru V0
(.br (.uo .eql V0 (kU 0)) (.ret [(.ki 64)])
(.pm f122 3 6 [(.k (.pointer (some ⟨0,0,none⟩))),(.uo .shr (.uo .mul (.uo .and V0 (.op1 .neg .u64 V0)) (kU 285870213051353865)) (kU 58))]
(.pm f122 3 7 [V1]
(.rq (.int .u8 V2) (.ret [(.cv .i64 V2)])))))):=aB
theorem c2B:(opr f122 3 7).op= .load 5 (.tmp 11):=aB
@[reducible] def z1_:SV:= .uo .and (.uo .add (.uo .shr (.uo .add (.uo .and (.uo .shr (.uo .add (.uo .and (.uo .shr V0 (kU 1)) (kU 6148914691236517205)) (.uo .and V0 (kU 6148914691236517205))) (kU 2)) (kU 3689348814741910323)) (.uo .and (.uo .add (.uo .and (.uo .shr V0 (kU 1)) (kU 6148914691236517205)) (.uo .and V0 (kU 6148914691236517205))) (kU 3689348814741910323))) (kU 4)) (.uo .add (.uo .and (.uo .shr (.uo .add (.uo .and (.uo .shr V0 (kU 1)) (kU 6148914691236517205)) (.uo .and V0 (kU 6148914691236517205))) (kU 2)) (kU 3689348814741910323)) (.uo .and (.uo .add (.uo .and (.uo .shr V0 (kU 1)) (kU 6148914691236517205)) (.uo .and V0 (kU 6148914691236517205))) (kU 3689348814741910323)))) (kU 1085102592571150095)
@[reducible] def z2_:SV:= .uo .add (.uo .add z1_ (.uo .shr z1_ (kU 8))) (.uo .shr (.uo .add z1_ (.uo .shr z1_ (kU 8))) (kU 16))
theorem d3c:tree prog [] [] [] [] 138=some (.ru V0
(.ret [(.io .and (.cv .i64 (.uo .add z2_ (.uo .shr z2_ (kU 32)))) (.ki 127))])):=aB
theorem d3d:tree prog [] [] [⟨0,2,[],[]⟩] [] 174=some (.pm f174 1 1 [V0]
(.loop [(.ki 0),(.ki 0)]
(.ri V4
(.ri V2
(.br (.io .lss V4 V2)
(.pm f174 3 1 [V0,V4]
(.pm f174 3 2 [V5]
(.pm f174 4 2 [V1]
(.ri V7
(.br (.io .geq V4 V7) (.ret [(.ki 1)])
(.pm f174 6 2 [V1,V4]
(.pm f174 6 3 [V8]
(.cf 93 [V6,V9]
(.ri V10
(.br (.io .neq V10 (.ki 0)) (.ret [V10]) (.next 0 [V3,(.io .add V4 (.ki 1))])))))))))))
(.pm f174 11 1 [V0]
(.pm f174 11 3 [V1]
(.ri V5
(.ri V6
(.br (.io .lss V5 V6) (.ret [(kI (-1))]) (.ret [(.ki 0)]))))))))))):=aB
theorem d3e:tree prog [] [] [] [] 93=some (.cf 158 [V0]
(.cf 158 [V1]
(.rb V2
(.br V2
(.rb V3
(.br V3
(.ret [(.ki 0)]) (.ret [(kI (-1))])))
(.rb V3
(.br V3
(.ret [(.ki 1)])
(.ri V0
(.ri V1
(.br (.io .lss V0 V1) (.ret [(kI (-1))]) (.br (.io .gtr V0 V1) (.ret [(.ki 1)]) (.ret [(.ki 0)]))))))))))):=aB
theorem d3f:tree prog [] [] [] [] 158=some (.ri V0
(.ret [(.io .neq V0 V0)])):=aB
theorem d3g:tree prog [] [] [⟨0,4,[],[]⟩] [⟨6,[0,0,3,7,0,0,48,112,255],[0,0,1,1,0,0,1,1,0],[0,0,0,0,0,0,0,0,0],[0,1,2,3,4,5,6,7,8],[]⟩] 38=some (.pm f38 1 1 [V0]
(.pm f38 1 3 [V1]
(.ri V2
(.ri V3
(.br (.io .neq V2 V3) (.ret [kF])
(.pm f38 3 1 [V0]
(.loop [kF,(.ki 0)]
(.ri V6
(.ri V4
(.br (.io .lss V6 V4)
(.pm f38 6 2 [V0,V6]
(.pm f38 6 3 [V7]
(.pm f38 6 6 [V1,V6]
(.pm f38 6 7 [V9]
(.ri V8
(.ri V10
(.br (.io .neq V8 V10) (.ret [kF]) (.next 0 [V5,(.io .add V6 (.ki 1))])))))))) (.ret [kT]))))))))))):=aB
theorem d3h:tree prog [] [] [] [] 104=some (.cf 175 [V0,V1]
(.ri V2
(.ret [(.io .geq V2 (.ki 0))]))):=aB
theorem d3i:tree prog [] [] [] [] 107=some (.cf 177 [V0,V1]
(.ri V2
(.ret [(.io .geq V2 (.ki 0))]))):=aB
theorem d3j:tree prog [] [] [] [] 87=some (.cf 144 [V0,V1]
(.ri V2
(.ret [(.io .geq V2 (.ki 0))]))):=aB
theorem d3k:tree prog [] [] [⟨0,2,[],[]⟩] [] 175=some (.pm f175 1 1 [V0]
(.loop [(.ki 0),(.ki 0)]
(.ri V4
(.ri V2
(.br (.io .lss V4 V2)
(.pm f175 4 3 [V0,V4]
(.pm f175 4 4 [V5]
(.ef false f175 4 5 [V1,V6]
(.rb V7
(.br V7
(.ret [V4]) (.next 0 [V3,(.io .add V4 (.ki 1))])))))) (.ret [(kI (-1))])))))):=aB
theorem d3l:tree prog [] [] [⟨0,2,[],[]⟩] [] 177=some (.pm f177 1 1 [V0]
(.loop [(.ki 0),(.ki 0)]
(.ri V4
(.ri V2
(.br (.io .lss V4 V2)
(.pm f177 4 3 [V0,V4]
(.pm f177 4 4 [V5]
(.ef false f177 4 5 [V1,V6]
(.rb V7
(.br V7
(.ret [V4]) (.next 0 [V3,(.io .add V4 (.ki 1))])))))) (.ret [(kI (-1))])))))):=aB
theorem d3m:tree prog [] [] [⟨0,2,[],[]⟩] [] 144=some (.pm f144 1 1 [V0]
(.loop [(.ki 0),(.ki 0)]
(.ri V4
(.ri V2
(.br (.io .lss V4 V2)
(.pm f144 4 3 [V0,V4]
(.pm f144 4 4 [V5]
(.ef false f144 4 5 [V1,V6]
(.rb V7
(.br V7
(.ret [V4]) (.next 0 [V3,(.io .add V4 (.ki 1))])))))) (.ret [(kI (-1))])))))):=aB
theorem d3n:tree prog [] [] [⟨0,2,[],[]⟩] [] 230=some (.pm f230 1 1 [V0]
(.loop [(.ki 0),(.ki 0)]
(.ri V4
(.ri V2
(.br (.io .lss V4 V2)
(.pm f230 4 3 [V0,V4]
(.pm f230 4 4 [V5]
(.ri V1
(.ri V6
(.br (.io .eql V1 V6) (.ret [V4]) (.next 0 [V3,(.io .add V4 (.ki 1))])))))) (.ret [(kI (-1))])))))):=aB
theorem d7m:tree prog [] [] [] [] 188=some (.cf 230 [V0,V1]
(.ri V2
(.ret [(.io .geq V2 (.ki 0))]))):=aB
theorem d3o:tree prog [] [] [] [] 45=some (.pm f45 1 1 [V0,(.k (.slice none 0 0))]
(.rb V1
(.br V1
(.ret [(.k (.slice none 0 0))])
(.ef false f45 3 0 []
(.ef false f45 3 2 [V2,V0]
(.ret [V3])))))):=aB
theorem d3p:tree prog [] [] [] [] 18=some (.pm f18 1 1 [V0,(.k (.slice none 0 0))]
(.rb V1
(.br V1
(.ret [(.k (.slice none 0 0))])
(.ef false f18 3 0 []
(.ef false f18 3 2 [V2,V0]
(.ret [V3])))))):=aB
theorem d3q:tree prog [3,5] [] [⟨0,5,[],[]⟩] [⟨7,[0,1,3,7,15,31,15,79,255,511,1023,2047,4095,2047,10239,32767,65535,131071,262143,262143,1048575,2097151,4194303],[1,1,0,0,1,1,1,1,0,0,0,1,1,0,5,0,0,0,1,1,2,0,0],[0,0,0,0,0,0,0,0,0,0,0,0,0,0,0,0,0,0,0,0,0,0,0],[0,1,2,3,4,5,6,7,8,9,10,11,12,13,14,15,16,17,18,19,20,21,22],[]⟩] 103=some (.cq 2 V0
(.rq (.int .i64 (.cn V0 0)) (.br (.io .lss (.cn V0 0) (.ki 1)) (.ret [(.ki 180)]) (.br (.io .gtr (.cn V0 0) (.ki 64)) (.ret [(.ki 180)])
(.pm f103 1 11 [(.cn V0 1)]
(.ri V1
(.br (.io .gtr V1 (.ki 200)) (.ret [(.ki 180)]) (.pub 99 (.z 99)
(.ef false f103 3 2 [V2,(.pn (.pn (.z 99) 0 1 (kI (-1))) 1 1 (kI (-1)))]
(.pm f103 4 2 [(.cn V0 1)]
(.loop [(.ki 0),(.ki 0)]
(.ri V6
(.ri V4
(.br (.io .lss V6 V4)
(.pm f103 6 0 [(.cn V0 1),V6]
(.pm f103 6 1 [V7]
(.pub 99 (.z 99)
(.ef false f103 6 3 [V9,V8]
(.pm f103 7 0 [V9,(.ki 0)]
(.pm f103 7 1 [V11]
(.ri V12
(.br (.io .lss V12 (.ki 0)) (.ret [(.ki 180)])
(.pm f103 7 4 [V9,(.ki 0)]
(.pm f103 7 5 [V13]
(.pm f103 7 6 [V9,(.ki 1)]
(.pm f103 7 7 [V15]
(.ri V14
(.ri V16
(.br (.io .geq V14 V16) (.ret [(.ki 180)])
(.pm f103 7 11 [V9,(.ki 1)]
(.pm f103 7 12 [V17]
(.ri V18
(.br (.io .geq V18 (.cn V0 0)) (.ret [(.ki 180)])
(.pm f103 7 18 [V2]
(.pm f103 7 19 [V9]
(.ct 174 [V19,V20]
(.ri V21
(.br (.io .geq V21 (.ki 0)) (.ret [(.ki 180)])
(.pm f103 9 0 [V9]
(.ef false f103 9 1 [V2,V22]
(.next 0 [V5,(.io .add V6 (.ki 1))]))))))))))))))))))))))))))) (.ret [(.ki 0)]))))))))))))))):=aB
theorem d7n:tree prog [] [] [] [⟨4,[0,1,0,4,15],[0,2,0,5,0],[0,0,0,0,0],[0,2,3,1,4],[]⟩] 181=some (.cq 2 V0
(.cf 103 [(.ag V0)]
(.ri V2
(.br (.io .neq V2 (.ki 0)) (.ret [V2])
(.ct 117 [V1]
(.ri V3
(.rq (.int .i64 (.cn V0 0)) (.br (.io .gtr V3 (.cn V0 0)) (.ret [(.ki 2)]) (.ret [(.ki 0)]))))))))):=aB
theorem d3r:tree prog [] [] [] [] 112=some (.cq 2 V0
(.cf 181 [(.ag V0),V1]
(.ri V2
(.br (.io .neq V2 (.ki 0)) (.ret [kF,V2])
(.cf 182 [(.ag V0),V1]
(.pm f112 4 3 [V3]
(.ri V4
(.ret [(.io .eql V4 (.ki 1)),(.ki 0)])))))))):=aB
theorem d7o:tree prog [] [] [⟨0,3,[],[]⟩] [⟨5,[0,0,2,7,15,0,32,96,255,511,1023],[0,0,5,1,1,0,5,0,0,1,8],[0,0,1,0,0,0,1,0,0,0,0],[0,1,2,3,4,5,6,7,8,9],[10]⟩,⟨6,[0,0,2,7,15,0,32,96,255,511,1023],[0,0,5,1,1,0,5,0,0,1,8],[0,0,1,0,0,0,1,0,0,0,0],[0,1,2,3,4,5,6,7,8,9],[10]⟩] 223=some (.cq 2 V0
(.ef false f223 1 2 [(.cn V0 0),(.cn V0 0)]
(.pm f223 2 2 [(.cn V0 1)]
(.loop [(.ki 0)]
(.ri V3
(.ri V2
(.br (.io .lss V3 V2)
(.pm f223 4 0 [(.cn V0 1),V3]
(.pm f223 4 1 [V4]
(.cq 2 V5
(.pm f223 5 3 [V1,(.cn V5 0)]
(.pm f223 5 4 [V6]
(.rq (.num (.cn V5 1)) (.rq (.nn (.cn V5 1))
(.ru V7
(.pm f223 5 9 [V1,(.cn V5 0)]
(.ef false f223 5 10 [V8,(.uo .or V7 (.uo .shl (kU 1) (.cn V5 1)))]
(.pm f223 6 3 [V1,(.cn V5 1)]
(.pm f223 6 4 [V10]
(.rq (.num (.cn V5 0)) (.rq (.nn (.cn V5 0))
(.ru V11
(.pm f223 6 9 [V1,(.cn V5 1)]
(.ef false f223 6 10 [V12,(.uo .or V11 (.uo .shl (kU 1) (.cn V5 0)))]
(.next 0 [(.io .add V3 (.ki 1))])))))))))))))))))) (.ret [V1])))))))):=aB
theorem c8t:tree prog [] [] [⟨0,4,[],[0,1,2]⟩,⟨0,6,[],[0,1,2]⟩,⟨4,9,[],[3]⟩] [⟨9,[0,0,0,6,14,0,62,127,255],[5,5,0,1,1,5,0,0,6],[3,2,0,0,0,1,0,0,3],[0,1,2,3,4,5,6,7],[8]⟩] 182=some (.cq 2 V0
(.cq 1 V1
(.cf 223 [(.ag V0)]
(.cq 1 V2
(.loop [(.k (.slice none 0 0)),(.cn V1 0),V0,V1,V2]
(.ru V4
(.br (.uo .neq V4 (kU 0)) (.loop [(.uo .and V4 (.op1 .neg .u64 V4)),V5,V6,V7]
(.cq 1 V8
(.cf 224 [V8]
(.rf V12 1 [V8]
(.pm f182 9 3 [(.cn V11 0),V13]
(.pm f182 9 4 [V15]
(.ru V16
(.rq (.int .u64 (.cn V10 0)) (.rq (.int .u64 (.cn V14 0)) (.next 2 [(.uo .or (.cn V14 0) (.uo .and V16 (.cn V10 0)))])))))) (.rq (.int .u64 (.cn V13 0))
(.ru V8
(.br (.uo .eql (.cn V13 0) V8)
(.ef false f182 12 2 [V8]
(.ef false f182 12 3 [V3,V14]
(.next 0 [V15,(.uo .andNot V4 V8),V9,V10,V11]))) (.next 1 [(.cn V13 0),V9,V10,V11])))) (.dead 818))))) (.ret [V3])))))))):=aB
theorem d3s:tree prog [1] [] [] [] 224=some (.cq 1 V0
(.pub 54 V0
(.ef false f224 1 0 [V1]
(.ret [V2])))):=aB
theorem c8u:tree prog [] [] [⟨0,0,[],[]⟩] [] 250=some (.loop []
(.pm f250 0 0 [V1]
(.ru V2
(.br (.uo .neq V2 (kU 0))
(.pm f250 2 1 [V1]
(.cf 122 [V3]
(.ef false f250 2 3 [V0,V4]
(.rb V5
(.br (.nt V5) (.ret [])
(.pm f250 1 0 [V1]
(.pm f250 1 1 [V1]
(.ru V7
(.ru V6
(.ef false f250 1 4 [V1,(.uo .and V6 (.uo .sub V7 (kU 1)))]
(.next 0 []))))))))))) (.ret []))))):=aB
theorem d3t:tree prog [] [] [⟨0,2,[],[]⟩] [] 63=some (.pm f63 1 1 [V0]
(.loop [kF,(.ki 0)]
(.ri V4
(.ri V2
(.br (.io .lss V4 V2)
(.pm f63 3 0 [V0,V4]
(.pm f63 3 1 [V5]
(.ri V6
(.br (.io .lss V6 (.ki 0)) (.ret [kF])
(.ri V1
(.br (.io .geq V6 V1) (.ret [kF]) (.next 0 [V3,(.io .add V4 (.ki 1))])))))))
(.pm f63 7 1 [V0]
(.ri V5
(.br (.io .gtr V5 (.ki 0))
(.pm f63 7 5 [V0]
(.ri V6
(.ret [(.io .leq V6 (.ki 64))]))) (.ret [kF]))))))))):=aB
theorem d3u:tree prog [] [] [⟨0,3,[],[]⟩,⟨0,8,[],[]⟩] [⟨5,[0,0,3,7,0,16,63,127,255],[0,0,1,1,0,0,0,1,8],[0,0,0,0,0,0,0,0,0],[0,1,2,3,4,5,6,7],[8]⟩] 68=some (.ef false f68 1 1 [V1,V1]
(.pm f68 2 1 [V0]
(.loop [(.ki 0)]
(.ri V4
(.ri V3
(.br (.io .lss V4 V3)
(.pm f68 4 1 [V0,V4]
(.pm f68 4 2 [V5]
(.pm f68 5 2 [V2,V6]
(.pm f68 5 3 [V7]
(.rq (.num V4) (.rq (.nn V4)
(.ru V8
(.pm f68 5 7 [V2,V6]
(.ef false f68 5 8 [V9,(.uo .or V8 (.uo .shl (kU 1) V4))]
(.next 0 [(.io .add V4 (.ki 1))])))))))))) (.loop [(.k (.slice none 0 0)),kF,(.ki 0)]
(.ri V7
(.ri V1
(.br (.io .lss V7 V1)
(.pm f68 10 2 [V2,V7]
(.pm f68 10 3 [V8]
(.ru V9
(.br (.uo .eql V9 (kU 0)) (.ret [(.k (.slice none 0 0)),kF]) (.next 1 [V5,V6,(.io .add V7 (.ki 1))]))))) (.ret [V2,kT]))))))))))):=aB
theorem d3v:tree prog [45] [] [] [] 176=some (.cq 2 V0
(.cf 103 [(.ag V0)]
(.ri V3
(.br (.io .neq V3 (.ki 0)) (.ret [(.k (.pointer none)),V3])
(.ri V2
(.br (.io .lss V2 (.ki 1)) (.ret [(.k (.pointer none)),(.ki 2)]) (.br (.io .gtr V2 (.ki 8)) (.ret [(.k (.pointer none)),(.ki 2)])
(.pm f176 6 1 [V1]
(.ri V4
(.rq (.int .i64 (.cn V0 0)) (.br (.io .neq V4 (.cn V0 0)) (.ret [(.k (.pointer none)),(.ki 210)])
(.cf 63 [V1,V2]
(.rb V5
(.br (.nt V5) (.ret [(.k (.pointer none)),(.ki 210)])
(.cf 68 [V1,V2]
(.tq 0 V6
(.tq 1 V6
(.rb (.pj V6 1) (.br (.nt (.pj V6 1)) (.ret [(.k (.pointer none)),(.ki 210)])
(.cq 1 V1
(.cq 1 (.pj V6 0) (.pub 297 (.cat (.ag V0) 2 (.pn (.cat V1 1 (.z 76)) 1 1 (.pj V6 0))) (.ret [V7,(.ki 0)]))))))))))))))))))))))):=aB
theorem d3w:tree prog [] [] [] [] 106=some (.cq 2 V0
(.cf 176 [(.ag V0),V1,V2]
(.tq 0 V3
(.tq 1 V3
(.ret [(.pj V3 1)]))))):=aB
theorem d3x:tree prog [] [] [⟨0,6,[],[]⟩] [] 21=some (.cf 63 [V0,(.ki 8)]
(.rb V1
(.br (.nt V1) (.ret [(.k (.slice none 0 0)),(.ki 210)])
(.ef false f21 3 0 []
(.pm f21 4 1 [V0]
(.ef false f21 4 2 [V3,V3]
(.pm f21 5 1 [V0]
(.loop [(.ki 0)]
(.ri V6
(.ri V5
(.br (.io .lss V6 V5)
(.pm f21 7 1 [V0,V6]
(.pm f21 7 2 [V7]
(.pm f21 8 2 [V2,V8]
(.tq 0 V9
(.tq 1 V9
(.rb (.pj V9 1) (.br (.nt (.pj V9 1))
(.pm f21 10 1 [V2]
(.ef false f21 11 3 [V2,V8,V10]
(.pm f21 12 3 [V4,V6]
(.ef false f21 12 4 [V12,V10]
(.next 0 [(.io .add V6 (.ki 1))])))))
(.pm f21 12 3 [V4,V6]
(.ef false f21 12 4 [V10,(.pj V9 0)]
(.next 0 [(.io .add V6 (.ki 1))])))))))))) (.ret [V4,(.ki 0)])))))))))))):=aB
theorem d3y:tree prog [] [] [] [] 25=some (.ri V1
(.br (.io .lss V1 (.ki 1)) (.ret [(.k (.slice none 0 0)),(.ki 2)]) (.br (.io .gtr V1 (.ki 8)) (.ret [(.k (.slice none 0 0)),(.ki 2)])
(.cf 63 [V0,V1]
(.rb V2
(.br (.nt V2) (.ret [(.k (.slice none 0 0)),(.ki 210)])
(.cf 68 [V0,V1]
(.tq 0 V3
(.tq 1 V3
(.rb (.pj V3 1) (.br (.nt (.pj V3 1)) (.ret [(.k (.slice none 0 0)),(.ki 210)]) (.ret [(.pj V3 0),(.ki 0)])))))))))))):=aB
end Go.Z

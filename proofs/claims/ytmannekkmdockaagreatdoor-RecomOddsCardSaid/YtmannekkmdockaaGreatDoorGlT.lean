/- Trees of functions. -/
import Derived.Test.YtmannekkmdockaaGreatDoorProg
import Derived.Test.YtmannekkmdockaaGreatDoorRxW
namespace Go.Z
open Proofs.Tryz RowKit RX
set_option maxRecDepth 100000
theorem c3U:tree prog [] [] [⟨0,7,[],[]⟩] [] 94=some (.cq 2 V0
(.cq 4 V1
(.cf 10 [(.ag V0)]
(.ri V2
(.br (.io .neq V2 (.ki 0)) (.ret [V2])
(.pm f94 4 2 [(.cn V1 0)]
(.ri V3
(.rq (.int .i64 (.cn V0 0)) (.br (.io .neq V3 (.cn V0 0)) (.ret [(.ki 320)]) (.rq (.int .i64 (.cn V1 1)) (.br (.io .lss (.cn V1 1) (.ki 0)) (.ret [(.ki 320)]) (.rq (.int .i64 (.cn V1 2)) (.br (.io .gtr (.cn V1 1) (.cn V1 2)) (.ret [(.ki 320)]) (.rq (.int .i64 (.cn V1 3)) (.br (.io .lss (.cn V1 3) (.ki 1)) (.ret [(.ki 320)]) (.br (.io .gtr (.cn V1 3) (.ki 8)) (.ret [(.ki 320)]) (.loop [(.ki 0),(.ki 0)]
(.pm f94 7 3 [(.cn V1 0)]
(.ri V5
(.ri V6
(.br (.io .lss V5 V6)
(.pm f94 9 3 [(.cn V1 0),V5]
(.pm f94 9 4 [V7]
(.ri V8
(.br (.io .lss V8 (.ki 0)) (.ret [(.ki 320)])
(.pm f94 9 10 [(.cn V1 0),V5]
(.pm f94 9 11 [V9]
(.ri V10
(.br (.io .gtr V10 (.ki 1000000000)) (.ret [(.ki 320)]) (.next 0 [V4,(.io .add V5 (.ki 1))]))))))))) (.ret [(.ki 0)])))))))))))))))))))))):=aB
theorem c3V:tree prog [] [] [⟨0,3,[],[]⟩] [] 160=some (.cq 2 V0
(.cq 4 V1
(.loop [(.ki 0),(.ki 0)]
(.ri V4
(.rq (.int .i64 (.cn V0 0)) (.br (.io .lss V4 (.cn V0 0))
(.cf 139 [V2,V4]
(.rb V5
(.br V5
(.pm f160 6 4 [(.cn V1 0),V4]
(.pm f160 6 5 [V6]
(.ri V3
(.ri V7
(.next 0 [(.io .add V3 V7),(.io .add V4 (.ki 1))]))))) (.next 0 [V3,(.io .add V4 (.ki 1))]))))
(.cf 41 [(.ag V0),V2]
(.rb V5
(.br V5
(.ri V3
(.rq (.int .i64 (.cn V1 1)) (.br (.io .geq V3 (.cn V1 1)) (.rq (.int .i64 (.cn V1 2)) (.ret [(.io .leq V3 (.cn V1 2))])) (.ret [kF])))) (.ret [kF])))))))))):=aB
theorem c3W:tree prog [] [] [⟨0,4,[],[]⟩] [⟨6,[0,0,0,0,12,31,63],[5,5,0,0,2,2,0],[0,1,0,0,0,0,0],[0,1,2,3,4,5,6],[]⟩] 95=some (.cq 2 V0
(.cq 4 V1
(.cf 159 [(.ag V0),V2,(.cn V1 3)]
(.ri V3
(.br (.io .neq V3 (.ki 0)) (.ret [kF]) (.loop [kF,(.ki 0)]
(.ri V5
(.rq (.int .i64 (.cn V1 3)) (.br (.io .lss V5 (.cn V1 3))
(.ct 161 [V2,V5]
(.ct 160 [(.ag V0),(.ag V1),V6]
(.rb V7
(.br (.nt V7) (.ret [kF]) (.next 0 [V4,(.io .add V5 (.ki 1))]))))) (.ret [kT])))))))))):=aB
theorem c3X:tree prog [] [] [⟨0,3,[],[]⟩] [⟨5,[0,0,0,0,0,24,56,127,255,511,511,511,1023,6143,16383],[5,0,0,0,0,1,1,2,0,0,0,0,0,0,0],[0,0,0,0,0,0,0,0,0,0,0,0,0,0,0],[0,1,2,3,4,5,6,7,8,9,10,11,12,13,14],[]⟩] 166=some (.cq 2 V0
(.cq 4 V1
(.loop [(.k (.slice none 0 0)),(.ki 0)]
(.pm f166 3 2 [V3]
(.ri V5
(.ri V6
(.br (.io .lss V5 V6)
(.pm f166 5 5 [V3,V5]
(.pm f166 5 6 [V7]
(.ct 168 [(.ag V0),V2,V3,V8]
(.tq 0 V9
(.tq 1 V9
(.tq 2 V9
(.cf 160 [(.ag V0),(.ag V1),(.pj V9 0)]
(.rb V10
(.br V10
(.cf 160 [(.ag V0),(.ag V1),(.pj V9 1)]
(.rb V11
(.br V11
(.pm f166 7 3 [V3,V5]
(.pm f166 7 4 [V12]
(.ef false f166 7 5 [V13]
(.ef false f166 7 6 [V4,V14]
(.next 0 [V15,(.io .add V5 (.ki 1))]))))) (.next 0 [V4,(.io .add V5 (.ki 1))])))) (.next 0 [V4,(.io .add V5 (.ki 1))])))))))))) (.ret [V4])))))))):=aB
theorem c3Y:tree prog [] [] [⟨0,4,[],[]⟩] [⟨6,[0,0,3,7,0,0,48,112,255,511],[0,0,1,1,0,0,1,1,2,0],[0,0,0,0,0,0,0,0,0,0],[0,1,2,3,4,5,6,7,8,9],[]⟩] 14=some (.pm f14 1 1 [V0]
(.pm f14 1 3 [V1]
(.ri V2
(.ri V3
(.br (.io .neq V2 V3) (.ret [kF]) (.loop [kF,(.ki 0)]
(.pm f14 4 2 [V0]
(.ri V5
(.ri V6
(.br (.io .lss V5 V6)
(.pm f14 6 2 [V0,V5]
(.pm f14 6 3 [V7]
(.pm f14 6 6 [V1,V5]
(.pm f14 6 7 [V9]
(.ct 57 [V8,V10]
(.rb V11
(.br (.nt V11) (.ret [kF]) (.next 0 [V4,(.io .add V5 (.ki 1))])))))))) (.ret [kT]))))))))))):=aB
@[reducible] def z3_:SV:= .io .add (.pj V16 1) (.cv .i64 (.op2 .rem .u8 (.cn V0 8) (kB 6)))
@[reducible] def z4_:SV:= .io .add (.ki 1) (.cv .i64 (.op2 .rem .u8 (.cn V0 6) (kB 4)))
theorem c3Z:tree prog [] [] [⟨2,35,[7],[4]⟩,⟨2,62,[10],[]⟩,⟨2,75,[12],[]⟩,⟨2,111,[17],[]⟩,⟨0,14,[],[]⟩,⟨0,24,[],[5]⟩] [⟨31,[0,0,2,6,14,30,63,127,0,0,512,1536,3584,7680,16128,255,33023,131071,262143],[0,0,0,5,0,0,0,1,0,0,0,5,0,0,0,0,6,0,6],[0,0,0,0,0,0,0,0,0,0,0,0,0,0,0,0,5,0,5],[0,1,2,3,4,5,6,7,8,9,10,11,12,13,14,15],[16,17,18]⟩,⟨32,[0,0,0,1,11,31],[5,5,0,6,6,0],[4,5,0,1,2,0],[0,1,2],[3,4,5]⟩] 8=some (.cq 10 V0
(.rq (.int .u8 (.cn (.sn V0 0 4) 0))
(.cf 39 [(.cat (.op2 .rem .u8 (.cn (.sn V0 0 4) 0) (kB 3)) 1 (.sn (.sn V0 0 4) 1 3))]
(.cq 2 V1
(.cf 40 [(.cn V1 0)]
(.ru V2
(.cf 41 [(.ag V1),(.uo .sub V2 (kU 1))]
(.rb V3
(.join 2
(.br (.nt V3)
(.ef false f8 6 4 [(.pn (.pn (.z 99) 0 1 (.ki 0)) 1 1 (.ki 1)),(.pn (.pn (.z 99) 0 1 (.ki 0)) 1 1 (.ki 2)),(.pn (.pn (.z 99) 0 1 (.ki 1)) 1 1 (.ki 3)),(.pn (.pn (.z 99) 0 1 (.ki 2)) 1 1 (.ki 3))]
(.cq 1 V4
(.next 0 [(kU 15),(.cat (.ki 4) 1 V4)]))) (.next 0 [(.uo .sub V2 (kU 1)),V1]))
(.cf 42 [(.ag V5),V4]
(.rq (.int .u8 (.cn V0 9))
(.pm f8 9 5 [V6]
(.ri V7
(.rq (.nz V7)
(.pm f8 9 7 [V6,(.io .rem (.cv .i64 (.cn V0 9)) V7)]
(.pm f8 9 8 [V8]
(.rq (.int .u8 (.cn V0 6)) (.rq (.int .i64 (.cn V5 0)) (.join 1
(.br (.io .gtr z4_ (.cn V5 0)) (.next 0 [(.cn V5 0)]) (.next 0 [z4_])) (.loop [V9,(.ki 0)]
(.ri V10
(.ri V12
(.br (.io .lss V12 (.io .sub V10 (.ki 1)))
(.pm f8 17 3 [(.cn V0 5)]
(.ri V13
(.join 1
(.br (.io .lss V12 V13)
(.pm f8 18 3 [(.cn V0 5),V12]
(.pm f8 18 4 [V14]
(.rq (.int .u8 V15)
(.pm f8 18 7 [V11]
(.ri V16
(.rq (.nz V16) (.next 1 [(.io .rem (.cv .i64 V15) V16)]))))))) (.next 1 [(.ki 0)]))
(.ef false f8 19 0 []
(.pm f8 19 3 [V11,V14]
(.ef false f8 19 4 [V15,V16]
(.ri V14
(.pm f8 20 4 [V11,(.io .add V14 (.ki 1))]
(.ef false f8 20 5 [V17,V18]
(.next 0 [V19,(.io .add V12 (.ki 1))]))))))))))
(.cf 43 [(.ag V5),V11]
(.cq 1 V10
(.loop [(.ki 0),(.cat (.z 32) 1 (.cat (.z 3) 1 (.cat (.z 3) 1 V10)))]
(.ri V14
(.br (.io .lss V14 (.cn V5 0))
(.pm f8 27 3 [(.cn V0 4)]
(.ri V16
(.join 1
(.br (.io .lss V14 V16)
(.pm f8 28 3 [(.cn V0 4),V14]
(.pm f8 28 4 [V17]
(.rq (.int .u8 V18) (.next 2 [(.cv .i64 (.op2 .rem .u8 V18 (kB 10)))])))) (.next 2 [(.ki 1)]))
(.ef false f8 29 3 [V17]
(.ef false f8 29 4 [(.cn V15 0),V18]
(.cq 1 V19
(.next 1 [(.io .add V14 (.ki 1)),(.cat V19 1 (.sn V15 1 3))])))))))
(.cf 44 [(.ag V15),V13]
(.tq 0 V16
(.tq 1 V16
(.rq (.int .u8 (.cn V0 7)) (.rq (.int .i64 (.pj V16 0))
(.pm f8 31 7 [(.ki 0),(.io .sub (.pj V16 0) (.cv .i64 (.op2 .rem .u8 (.cn V0 7) (kB 6))))]
(.rq (.int .u8 (.cn V0 8)) (.rq (.int .i64 (.pj V16 1))
(.cq 1 V17
(.cq 4 (.cat (.sn V15 0 1) 1 (.cat V17 1 (.cat z3_ 1 (.sn (.sn V15 2 2) 1 1)))) (.ret [(.ag V5),(.cat (.sn V15 0 1) 1 (.cat V17 1 (.cat z3_ 1 (.sn (.sn V15 2 2) 1 1)))),V13]))))))))))))))))))))))))))))))))))))))):=aB
theorem b0j:(opr f8 19 3).op= .slice 32 (.tmp 86) none (some (.tmp 87)) none:=aB
theorem b0k:(opr f8 20 4).op= .slice 32 (.tmp 91) (some (.tmp 93)) none none:=aB
theorem c4a:tree prog [] [] [⟨0,3,[],[]⟩,⟨0,8,[],[0]⟩,⟨0,13,[],[]⟩] [⟨15,[0,1,0,0,0,16,56,124,252,511,1023,0,4095],[0,5,0,0,0,1,0,1,1,1,1,3,4],[0,0,0,0,0,0,0,0,0,0,0,0,0],[0,1,2,3,4,5,6,7,8,9,10,11],[12]⟩,⟨17,[0,0,2,0,0,16,0,0,71,327,1023,2047],[0,0,5,0,0,5,0,0,1,8,7,8],[0,0,1,0,0,1,0,0,0,0,0,0],[0,1,2,3,4,5,6,7,8],[9,10,11]⟩] 43=some (.cq 2 V0
(.ef false f43 1 2 [(.cn V0 0),(.cn V0 0)]
(.loop [(.ki 0)]
(.ri V3
(.rq (.int .i64 (.cn V0 0)) (.br (.io .lss V3 (.cn V0 0))
(.pm f43 5 2 [V2,V3]
(.ef false f43 5 3 [V4,(kI (-1))]
(.next 0 [(.io .add V3 (.ki 1))]))) (.loop [(.ki 0),(.ki 0),V0]
(.ri V5
(.rq (.int .i64 (.cn V6 0)) (.br (.io .lss V5 (.cn V6 0))
(.pm f43 10 2 [V2,V5]
(.pm f43 10 3 [V7]
(.ri V8
(.br (.io .geq V8 (.ki 0)) (.next 1 [V4,(.io .add V5 (.ki 1)),V6])
(.pm f43 11 3 [V2,V5]
(.ef false f43 11 4 [V9,V4]
(.loop [(.ki 0)]
(.pm f43 13 2 [V1]
(.pm f43 13 4 [V1]
(.ri V12
(.ri V13
(.ri V11
(.br (.io .lss V11 (.io .mul V12 V13))
(.pm f43 15 5 [V1]
(.ri V14
(.rq (.nz V14)
(.pm f43 15 7 [V1,(.io .rem V11 V14)]
(.pm f43 15 8 [V15]
(.pm f43 15 9 [(.cn V6 1),V16]
(.pm f43 15 10 [V17]
(.cq 2 V18
(.pm f43 16 3 [V2,(.cn V18 0)]
(.pm f43 16 4 [V19]
(.ri V20
(.ri V4
(.br (.io .eql V20 V4)
(.pm f43 17 8 [V2,(.cn V18 0)]
(.ef false f43 17 9 [V21,V4]
(.pm f43 17 10 [V2,(.cn V18 1)]
(.ef false f43 17 11 [V23,V4]
(.next 2 [(.io .add V11 (.ki 1))])))))
(.pm f43 16 11 [V2,(.cn V18 1)]
(.pm f43 16 12 [V21]
(.ri V22
(.br (.io .eql V22 V4)
(.pm f43 17 8 [V2,(.cn V18 0)]
(.ef false f43 17 9 [V23,V4]
(.pm f43 17 10 [V2,(.cn V18 1)]
(.ef false f43 17 11 [V25,V4]
(.next 2 [(.io .add V11 (.ki 1))]))))) (.next 2 [(.io .add V11 (.ki 1))]))))))))))))))))))
(.ri V4
(.next 1 [(.io .add V4 (.ki 1)),(.io .add V5 (.ki 1)),V6]))))))))))))))) (.ret [V2]))))))))))):=aB
theorem c4b:tree prog [] [] [⟨0,3,[],[1]⟩,⟨0,8,[],[]⟩] [⟨5,[0,0,3,7,0,0,48,112,240,496,0,1024,0,7168,15360,32752,65535,131071],[0,0,1,1,0,0,1,1,0,5,0,5,0,1,1,0,0,6],[0,0,0,0,0,0,0,0,0,1,0,0,0,0,0,0,0,1],[0,1,2,3,4,5,6,7,8,9,10,11,12,13,14,15,16],[17]⟩,⟨6,[0,1,0,4,3,31],[0,5,0,5,0,0],[0,1,0,1,0,0],[0,1,2,3,4,5],[]⟩,⟨10,[0,0,2,6,15,0,0,64,192,480,31,2047],[0,0,0,5,1,0,0,0,5,1,0,0],[0,0,0,1,0,0,0,0,1,0,0,0],[0,1,2,3,4,5,6,7,8,9,10,11],[]⟩] 44=some (.cq 4 V0
(.loop [(.ki 0),(.z 167)]
(.pm f44 3 2 [V1]
(.ri V2
(.ri V4
(.br (.io .lss V2 V4)
(.pm f44 5 2 [V1,V2]
(.pm f44 5 3 [V5]
(.pm f44 5 6 [V1,V2]
(.pm f44 5 7 [V7]
(.rq (.num V8) (.rq (.lt 8 V8)
(.pm f44 5 13 [(.cn V0 0),V2]
(.pm f44 5 14 [V9]
(.rq (.int .i64 (.cell V3 0 1 V8))
(.ri V10
(.rq (.num V6) (.rq (.lt 8 V6) (.next 0 [(.io .add V2 (.ki 1)),(.put V3 0 1 (.io .add (.cell V3 0 1 V8) V10) 1 V6)]))))))))))))) (.loop [(.cn V3 0),(.cn V3 0),(.ki 1)]
(.ri V7
(.rq (.int .i64 (.cn V0 3)) (.br (.io .lss V7 (.cn V0 3)) (.rq (.num V7) (.rq (.lt 8 V7)
(.pm f44 10 4 [V5,(.cell V3 0 1 V7)]
(.pm f44 10 9 [V6,(.cell V3 0 1 V7)]
(.next 1 [V8,V9,(.io .add V7 (.ki 1))]))))) (.ret [V5,V6]))))))))))):=aB
@[reducible] def z5_:SV:= .op2 .rem .u8 (.cn V0 0) (kB 9)
theorem d4u:tree prog [] [] [] [⟨10,[0,1,0,4,12,0,32,96,252,0,512,2047,4095],[0,5,0,5,0,0,5,1,0,0,5,1,8],[0,2,0,0,0,0,2,0,0,0,0,0,0],[0,1,2,3,4,5,6,7,8,9,10,11],[12]⟩,⟨12,[0,0,2,6,0,16,62,0,128,511,1023],[0,0,5,0,0,1,0,0,5,1,8],[0,0,0,0,0,0,0,0,0,0,0],[0,1,2,3,4,5,6,7,8,9],[10]⟩,⟨20,[0,0,0,1,11,31],[5,5,0,6,6,0],[1,2,0,3,4,0],[0,1,2],[3,4,5]⟩] 9=some (.cq 3 V0
(.cq 2 V1
(.cq 4 V2
(.cf 45 [(.cn V2 0)]
(.cf 18 [V3]
(.cq 1 V4
(.rq (.int .u8 (.cn V0 0)) (.br (.op2 .eql .u8 z5_ (kB 0))
(.cq 1 (.cn V0 2)
(.cq 4 (.cat V4 1 (.cat (.cn V0 2) 1 (.sn (.sn V2 1 3) 1 2))) (.ret [(.ag V1),(.cat V4 1 (.cat (.cn V0 2) 1 (.sn (.sn V2 1 3) 1 2))),V5]))) (.br (.op2 .eql .u8 z5_ (kB 1))
(.cq 1 (.cn V0 2)
(.cq 4 (.cat V4 1 (.cat (.sn (.sn V2 1 3) 0 1) 1 (.cat (.cn V0 2) 1 (.sn (.sn V2 1 3) 2 1)))) (.ret [(.ag V1),(.cat V4 1 (.cat (.sn (.sn V2 1 3) 0 1) 1 (.cat (.cn V0 2) 1 (.sn (.sn V2 1 3) 2 1)))),V5]))) (.br (.op2 .eql .u8 z5_ (kB 2))
(.cq 1 (.cn V0 2)
(.cq 4 (.cat V4 1 (.cat (.sn (.sn V2 1 3) 0 2) 2 (.cn V0 2))) (.ret [(.ag V1),(.cat V4 1 (.cat (.sn (.sn V2 1 3) 0 2) 2 (.cn V0 2))),V5]))) (.br (.op2 .eql .u8 z5_ (kB 3)) (.rq (.int .u8 (.cn V0 1))
(.pm f9 10 7 [(.cn V4 0)]
(.ri V6
(.rq (.nz V6)
(.pm f9 10 11 [(.cn V4 0),(.io .rem (.cv .i64 (.cn V0 1)) V6)]
(.ef false f9 10 12 [V7,(.cn V0 2)]
(.ret [(.ag V1),(.cat V4 1 (.sn V2 1 3)),V5]))))))) (.br (.op2 .eql .u8 z5_ (kB 4)) (.rq (.int .u8 (.cn V0 1))
(.pm f9 12 5 [V5]
(.ri V6
(.rq (.nz V6)
(.pm f9 12 9 [V5,(.io .rem (.cv .i64 (.cn V0 1)) V6)]
(.ef false f9 12 10 [V7,(.cn V0 2)]
(.ret [(.ag V1),(.cat V4 1 (.sn V2 1 3)),V5]))))))) (.br (.op2 .eql .u8 z5_ (kB 5))
(.ef false f9 14 1 [(.ki 0)]
(.ef false f9 14 2 [V5,V6]
(.ret [(.ag V1),(.cat V4 1 (.sn V2 1 3)),V7]))) (.br (.op2 .eql .u8 z5_ (kB 6))
(.pm f9 16 2 [(.cn V4 0),(.ki 1)]
(.cq 1 V6
(.ret [(.ag V1),(.cat V6 1 (.sn V2 1 3)),V5]))) (.br (.op2 .eql .u8 z5_ (kB 7))
(.pm f9 18 2 [(.cn V1 1)]
(.ri V6
(.br (.io .gtr V6 (.ki 0))
(.pm f9 19 2 [(.cn V1 1),(.ki 1)]
(.cq 1 V7
(.ret [(.cat (.sn V1 0 1) 1 V7),(.cat V4 1 (.sn V2 1 3)),V5]))) (.ret [(.ag V1),(.cat V4 1 (.sn V2 1 3)),V5])))) (.ret [(.ag V1),(.cat V4 1 (.sn V2 1 3)),V5])))))))))))))))):=aB
theorem b4m:(opr f9 16 2).op= .slice 32 (.tmp 69) (some (.const (.int .i64 (1)))) none none:=aB
theorem b4n:(opr f9 19 2).op= .slice 35 (.tmp 79) (some (.const (.int .i64 (1)))) none none:=aB
theorem d4v:tree prog [] [] [] [] 35=some (.ef false f35 1 3 [(.pn (.pn (.z 99) 0 1 (.ki 0)) 1 1 (.ki 1)),(.pn (.pn (.z 99) 0 1 (.ki 1)) 1 1 (.ki 2)),(.pn (.pn (.z 99) 0 1 (.ki 2)) 1 1 (.ki 3))]
(.cq 1 V1
(.ef false f35 1 5 [(.ki 1),(.ki 1),(.ki 1),(.ki 1)]
(.cq 1 V2
(.cq 1 V0
(.cq 4 (.pn (.cat (.sn (.pn (.cat V2 1 (.cat (.z 3) 1 (.cat (.z 3) 1 (.z 3)))) 1 1 V0) 0 2) 2 (.cat (.ki 3) 1 (.sn (.pn (.cat V2 1 (.cat (.z 3) 1 (.cat (.z 3) 1 (.z 3)))) 1 1 V0) 3 1))) 3 1 (.ki 2)) (.ret [(.cat (.ki 4) 1 V1),(.pn (.cat (.sn (.pn (.cat V2 1 (.cat (.z 3) 1 (.cat (.z 3) 1 (.z 3)))) 1 1 V0) 0 2) 2 (.cat (.ki 3) 1 (.sn (.pn (.cat V2 1 (.cat (.z 3) 1 (.cat (.z 3) 1 (.z 3)))) 1 1 V0) 3 1))) 3 1 (.ki 2))]))))))):=aB
theorem d4w:tree prog [] [] [] [] 24=some (.cq 2 V0
(.cq 4 V1
(.cf 36 [(.ag V0),(.ag V1),V2]
(.tq 0 V3
(.tq 1 V3
(.rb (.pj V3 0) (.br (.pj V3 0) (.rq (.int .i64 (.pj V3 1)) (.ret [(.io .eql (.pj V3 1) (.ki 0))])) (.ret [kF])))))))):=aB
theorem e0n:tree prog [] [] [] [] 32=some (.cf 79 [V0,V1]
(.tq 0 V2
(.tq 1 V2
(.cq 16 (.pj V2 0) (.ret [(.ag (.pj V2 0))]))))):=aB
theorem d4x:tree prog [147,148,149,150,158] [] [] [⟨17,[0,1,3,7,7,7,7,119,255,511,1023,2047,2047,2047,2047,30719,65535,131071,262143,524287,524287,2097151,4194303,8388607,16777215,33554431,67108863,134217727,268435455,268435455,1073741823,2147483647,4294967295,8589934591,17179869183,34359738367,68719476735,137438953471,274877906943,549755813887,1099511627775,2199023255551,4398046511103,8796093022207,17592186044415],[0,0,0,0,3,3,3,3,2,0,0,0,5,5,5,3,2,0,0,5,5,1,0,0,0,0,0,0,5,2,1,0,0,0,0,0,0,0,0,0,0,0,0,0,0],[0,0,0,0,0,0,0,0,0,0,0,0,4,4,4,0,0,0,0,5,4,0,0,0,0,0,0,0,6,0,0,0,0,0,0,0,0,0,0,0,0,0,0,0,0],[0,1,2,3,4,5,6,7,8,9,10,11,12,13,14,15,16,17,18,19,20,21,22,23,24,25,26,27,28,29,30,31,32,33,34,35,36,37,38,39,40,41,42,43,44],[]⟩] 7=some (.cf 35 [(.ki 1)]
(.tq 0 V0
(.tq 1 V0
(.cq 2 (.pj V0 0)
(.cq 4 (.pj V0 1)
(.cf 35 [(.ki 2)]
(.tq 0 V1
(.tq 1 V1
(.cq 2 (.pj V1 0)
(.cq 4 (.pj V1 1)
(.ef false f7 3 0 [(.ki 0),(.ki 0),(.ki 1),(.ki 1)]
(.ef false f7 4 2 [(.ki 0),(.ki 1),(.ki 0),(.ki 1)]
(.cf 36 [(.ag (.pj V0 0)),(.ag (.pj V0 1)),V3]
(.tq 0 V4
(.tq 1 V4
(.ef false f7 5 2 [(.ki 0),(.ki 0),(.ki 0),(.ki 0)]
(.cf 36 [(.ag (.pj V0 0)),(.ag (.pj V0 1)),V5]
(.tq 0 V6
(.tq 1 V6
(.ef false f7 6 2 [(.ki 0),(.ki 1),(.ki 2)]
(.cf 37 [(.ag (.pj V0 0)),(.ag (.pj V0 1)),(kU 15),V7]
(.tq 0 V8
(.tq 1 V8
(.ef false f7 7 2 [(.ki 0),(.ki 1),(.ki 2)]
(.cf 37 [(.ag (.pj V0 0)),(.ag (.pj V1 1)),(kU 15),V9]
(.tq 0 V10
(.tq 1 V10
(.cf 24 [(.ag (.pj V0 0)),(.ag (.pj V0 1)),V2]
(.rb V11
(.br (.nt V11) (.ret [kF])
(.rb (.pj V4 0) (.br (.pj V4 0) (.ret [kF]) (.rq (.int .i64 (.pj V4 1)) (.br (.io .neq (.pj V4 1) (.ki 0)) (.ret [kF])
(.rb (.pj V6 0) (.br (.pj V6 0) (.ret [kF]) (.rq (.int .i64 (.pj V6 1)) (.br (.io .neq (.pj V6 1) (.ki 0)) (.ret [kF])
(.ef false f7 8 21 [(.ki 0),(.ki 1),(.ki 2)]
(.cf 38 [(.pj V8 0),V12]
(.rb V13
(.br (.nt V13) (.ret [kF]) (.rq (.int .i64 (.pj V8 1)) (.br (.io .neq (.pj V8 1) (.ki 0)) (.ret [kF])
(.ef false f7 8 31 [(.ki 1)]
(.cf 38 [(.pj V10 0),V14]
(.rb V15
(.br (.nt V15) (.ret [kF]) (.rq (.int .i64 (.pj V10 1)) (.br (.io .neq (.pj V10 1) (.ki 0)) (.ret [kF])
(.cf 12 [(.ag (.pj V0 0)),(.ag (.pj V0 1)),V2]
(.tq 0 V16
(.tq 1 V16
(.tq 2 V16
(.cf 32 [(.ki 1),(.ki 3)]
(.cq 16 V17
(.ef false f7 12 3 [(.ki 1),(.ki 1),(.ki 1),(.ki 0)]
(.cf 16 [(.ag (.pj V0 0)),(.ag (.pj V0 1)),V2,V18]
(.tq 0 V19
(.tq 1 V19
(.cq 16 (.pj V19 0)
(.cf 16 [(.ag (.pj V0 0)),(.ag (.pj V1 1)),V2,V2]
(.tq 0 V20
(.tq 1 V20
(.cq 16 (.pj V20 0)
(.ef false f7 14 2 [(.ki 0),(.ki 1),(.ki 0),(.ki 1)]
(.cf 19 [(.ag (.pj V0 0)),(.ag (.pj V0 1)),V21,(.z 63)]
(.tq 0 V22
(.tq 1 V22
(.tq 2 V22
(.tq 3 V22
(.ef false f7 15 0 [(.ki 13),(.ki 13)]
(.cq 1 V23
(.cf 12 [(.cat (.ki 13) 1 (.z 35)),(.pn (.cat V23 1 (.cat (.z 3) 1 (.cat (.z 3) 1 (.z 3)))) 3 1 (.ki 1)),(.k (.slice none 0 0))]
(.tq 0 V24
(.tq 1 V24
(.tq 2 V24
(.rq (.int .i64 (.pj V16 2)) (.br (.io .eql (.pj V16 2) (.ki 0))
(.mq f7 17 4 [(.ki 0),(.ki 0),(.ki 0),(.ki 1)]
(.mq f7 17 5 [(.ki 0),(.ki 0),(.ki 1),(.ki 1)]
(.mq f7 17 6 [(.ki 0),(.ki 1),(.ki 1),(.ki 1)]
(.mq f7 17 7 [V25,V26,V27]
(.ct 14 [(.pj V16 0),V28]
(.rb V29
(.br V29
(.mq f7 17 15 [(.ag V17),(.ag V17),(.ag V17)]
(.ct 15 [(.pj V16 1),V30]
(.rb V31
(.br V31
(.pm f7 17 21 [(.ag (.pj V19 0)),(.ag V17)]
(.rb V32
(.br V32
(.rq (.int .i64 (.pj V19 1)) (.br (.io .eql (.pj V19 1) (.ki 0))
(.ct 32 [(.ki 1),(.ki 1)]
(.pm f7 17 30 [(.ag (.pj V20 0)),V33]
(.rb V34
(.br V34
(.rq (.int .i64 (.pj V20 1)) (.br (.io .eql (.pj V20 1) (.ki 0)) (.rq (.int .i64 (.pj V22 3)) (.br (.io .eql (.pj V22 3) (.ki 8)) (.rq (.int .i64 (.pj V24 2)) (.ret [(.io .eql (.pj V24 2) (.ki 3))])) (.ret [kF]))) (.ret [kF]))) (.ret [kF]))))) (.ret [kF]))) (.ret [kF])))) (.ret [kF]))))) (.ret [kF])))))))) (.ret [kF])))))))))))))))))))))))))))))))))))))))))))))))))))))))))))))))))))))))))))))))):=aB
end Go.Z

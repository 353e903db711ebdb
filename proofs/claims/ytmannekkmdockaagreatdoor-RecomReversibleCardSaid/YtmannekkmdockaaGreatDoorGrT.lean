/- MADE BY rxgen.py (mkGT.py): trees of chapter 32. -/
import Derived.Test.YtmannekkmdockaaGreatDoorProg
import Derived.Test.YtmannekkmdockaaGreatDoorRxW
namespace Go.Proofs.YtmannekkmdockaaGreatDoor
open Go.Proofs.Tryz
open Go.RowKit Go.RX
set_option maxRecDepth 100000
theorem c1t:tree prog [] [] [] [] 139=some (.ri V1
(.ru V0
(.rq (.nn (.cv .u64 V1))
(.ret [(.uo .eql (.uo .and (.uo .shr V0 (.cv .u64 V1)) (.k (.int .u64 (1)))) (.k (.int .u64 (1))))])))):=by kernel_rfl
theorem c1u:tree prog [] [] [] [] 40=some (.ri V0
(.rq (.nn (.cv .u64 V0))
(.ret [(.uo .shl (.k (.int .u64 (1))) (.cv .u64 V0))]))):=by kernel_rfl
theorem c1v:tree prog [] [] [⟨0,3,[],[]⟩] [] 141=some (.loop [(.ki 0),(.ki 0)]
(.ri V2
(.br (.io .lss V2 (.ki 64))
(.call false 139 [V0,V2]
(.rq (.bool V3)
(.br V3
(.ri V1
(.next 0 [(.io .add V1 (.ki 1)),(.io .add V2 (.ki 1))]))
(.next 0 [V1,(.io .add V2 (.ki 1))]))))
(.ret [V1])))):=by kernel_rfl
theorem c1w:tree prog [] [] [⟨0,3,[],[]⟩,⟨0,5,[],[]⟩] [⟨7,[0,1,0,7,15,31,0,64,0,448,960,1984,63,8191],[0,5,0,1,1,1,0,5,0,1,1,1,0,0],[0,0,0,0,0,0,0,0,0,0,0,0,0,0],[0,1,2,3,4,5,6,7,8,9,10,11,12,13],[]⟩] 140=some (.rq (.cells 2 V0)
(.call false 40 [V2]
(.pm f140 2 2 [(.cell V0 1 0 noI)]
(.loop [V4,(.ki 0)]
(.ri V7
(.ri V5
(.br (.io .lss V7 V5)
(.loop [V6,(.ki 0)]
(.pm f140 5 3 [(.cell V0 1 0 noI)]
(.ri V9
(.ri V10
(.br (.io .lss V9 V10)
(.pm f140 7 3 [(.cell V0 1 0 noI),V9]
(.pm f140 7 4 [V11,(.ki 0)]
(.pm f140 7 5 [V12]
(.pm f140 7 9 [(.cell V0 1 0 noI),V9]
(.pm f140 7 10 [V14,(.ki 1)]
(.pm f140 7 11 [V15]
(.ri V3
(.br (.io .neq V9 V3)
(.call false 139 [V1,V13]
(.rq (.bool V17)
(.br V17
(.call false 139 [V1,V16]
(.rq (.bool V18)
(.br V18
(.call false 139 [V8,V13]
(.rq (.bool V19)
(.br V19
(.call false 40 [V13]
(.ru V8
(.ru V20
(.call false 40 [V16]
(.ru V21
(.next 1 [(.uo .or (.uo .or V8 V20) V21),(.io .add V9 (.ki 1))]))))))
(.call false 139 [V8,V16]
(.rq (.bool V20)
(.br V20
(.call false 40 [V13]
(.ru V8
(.ru V21
(.call false 40 [V16]
(.ru V22
(.next 1 [(.uo .or (.uo .or V8 V21) V22),(.io .add V9 (.ki 1))]))))))
(.next 1 [V8,(.io .add V9 (.ki 1))])))))))
(.next 1 [V8,(.io .add V9 (.ki 1))]))))
(.next 1 [V8,(.io .add V9 (.ki 1))]))))
(.next 1 [V8,(.io .add V9 (.ki 1))])))))))))
(.next 0 [V8,(.io .add V7 (.ki 1))]))))))
(.ret [V6])))))))):=by kernel_rfl
theorem c1x:tree prog [] [] [⟨0,4,[],[]⟩] [] 85=some (.rq (.cells 2 V0)
(.loop [(.k (.slice none 0 0)),(.k (.int .u64 (0))),(.ki 0)]
(.ri V4
(.rq (.int .i64 (.cell V0 0 0 noI))
(.br (.io .lss V4 (.cell V0 0 0 noI))
(.call false 139 [V1,V4]
(.rq (.bool V5)
(.br V5
(.call false 139 [V3,V4]
(.rq (.bool V6)
(.br (.nt V6)
(.call false 140 [(.ag V0),V1,V4,(.k (.int .i64 (-1)))]
(.ef false f85 8 2 [V7]
(.ef false f85 8 3 [V2,V8]
(.ru V3
(.ru V7
(.next 0 [V9,(.uo .or V3 V7),(.io .add V4 (.ki 1))]))))))
(.next 0 [V2,V3,(.io .add V4 (.ki 1))]))))
(.next 0 [V2,V3,(.io .add V4 (.ki 1))]))))
(.ret [V2])))))):=by kernel_rfl
theorem c1y:tree prog [] [] [] [] 41=some (.rq (.cells 2 V0)
(.call false 85 [(.ag V0),V1]
(.pm f41 1 3 [V2]
(.ri V3
(.ret [(.io .eql V3 (.ki 1))]))))):=by kernel_rfl
theorem c1z:tree prog [] [] [⟨3,10,[9],[]⟩,⟨2,58,[6,9],[]⟩,⟨3,12,[72],[]⟩,⟨2,72,[9],[]⟩,⟨3,16,[83],[]⟩,⟨3,19,[9],[]⟩,⟨0,5,[],[0,1,2]⟩,⟨0,8,[],[2]⟩,⟨0,16,[],[]⟩] [⟨1,[0,1,3,7,15,0,32,96,224,480,31,2047],[0,5,0,0,0,0,5,0,0,0,0,0],[0,0,0,0,0,0,0,0,0,0,0,0],[0,1,2,3,4,5,6,7,8,9,10,11],[]⟩,⟨18,[0,1,0,7,15,31,63,0,128,511,0,1024,0,7168,15360,31744,64512,0,131072,523264,1023,2097151],[0,5,0,1,1,1,0,0,5,0,0,5,0,1,1,1,0,0,5,0,0,0],[0,0,0,0,0,0,0,0,2,0,0,0,0,0,0,0,0,0,2,0,0,0],[0,1,2,3,4,5,6,7,8,9,10,11,12,13,14,15,16,17,18,19,20,21],[]⟩] 39=some (.rq (.cells 4 V0)
(.rq (.int .u8 (.cell V0 0 0 noI))
(.rq (.int .u8 (.cell V0 1 0 noI))
(.loop [(.ki 0),(.ki 0),V0,(.z 37),(.cat (.io .mul (.io .add (.ki 1) (.cv .i64 (.op2 .rem .u8 (.cell V0 0 0 noI) (.k (.int .u8 (4)))))) (.io .add (.ki 1) (.cv .i64 (.op2 .rem .u8 (.cell V0 1 0 noI) (.k (.int .u8 (3))))))) 1 (.z 35))]
(.ri V2
(.rq (.int .i64 (.cell V5 0 0 noI))
(.br (.io .lss V2 (.cell V5 0 0 noI))
(.loop [V1,(.io .add V2 (.ki 1)),V5]
(.ri V7
(.rq (.int .i64 (.cell V8 0 0 noI))
(.br (.io .lss V7 (.cell V8 0 0 noI))
(.join 1
(.br (.io .eql V7 (.io .add V2 (.io .add (.ki 1) (.cv .i64 (.op2 .rem .u8 (.cell V0 0 0 noI) (.k (.int .u8 (4))))))))
(.next 2 [(.k (.bool true))])
(.br (.io .eql V7 (.io .add V2 (.ki 1)))
(.rq (.nz (.io .add (.ki 1) (.cv .i64 (.op2 .rem .u8 (.cell V0 0 0 noI) (.k (.int .u8 (4)))))))
(.next 2 [(.io .neq (.io .rem V7 (.io .add (.ki 1) (.cv .i64 (.op2 .rem .u8 (.cell V0 0 0 noI) (.k (.int .u8 (4))))))) (.ki 0))]))
(.next 2 [(.k (.bool false))])))
(.join 2
(.rq (.bool V9)
(.br V9
(.join 1
(.ri V6
(.br (.io .eql (.io .rem V6 (.ki 2)) (.ki 1))
(.rq (.int .u16 (.cell V3 2 0 noI))
(.rq (.nn (.cv .u64 (.io .rem (.io .quo V6 (.ki 2)) (.ki 16))))
(.next 3 [(.op2 .eql .u16 (.op2 .and .u16 (.op2 .shr .u16 (.cell V3 2 0 noI) (.cv .u64 (.io .rem (.io .quo V6 (.ki 2)) (.ki 16)))) (.k (.int .u16 (1)))) (.k (.int .u16 (1))))])))
(.next 3 [(.k (.bool false))])))
(.join 1
(.rq (.bool V10)
(.br V10
(.next 3 [(.k (.bool false))])
(.next 3 [V9])))
(.ri V6
(.next 2 [(.io .add V6 (.ki 1)),V11]))))
(.next 2 [V6,V9])))
(.loop [V11,(.ki 0)]
(.join 1
(.pm f39 16 3 [(.cell V3 3 0 noI)]
(.ri V13
(.ri V14
(.br (.io .lss V13 V14)
(.next 3 [(.io .lss V13 (.ki 3))])
(.next 3 [(.k (.bool false))])))))
(.rq (.bool V14)
(.br V14
(.pm f39 18 3 [(.cell V3 3 0 noI),V13]
(.pm f39 18 4 [V15,(.ki 0)]
(.pm f39 18 5 [V16]
(.rq (.int .u8 V17)
(.rq (.nz (.cell V8 0 0 noI))
(.pm f39 18 13 [(.cell V3 3 0 noI),V13]
(.pm f39 18 14 [V18,(.ki 1)]
(.pm f39 18 15 [V19]
(.rq (.int .u8 V20)
(.join 1
(.rq (.bool V12)
(.br V12
(.next 3 [(.k (.bool true))])
(.br (.io .eql (.io .rem (.cv .i64 V17) (.cell V8 0 0 noI)) V2)
(.br (.io .eql (.io .rem (.cv .i64 V20) (.cell V8 0 0 noI)) V7)
(.next 3 [(.k (.bool true))])
(.br (.io .eql (.io .rem (.cv .i64 V17) (.cell V8 0 0 noI)) V7)
(.next 3 [(.io .eql (.io .rem (.cv .i64 V20) (.cell V8 0 0 noI)) V2)])
(.next 3 [(.k (.bool false))])))
(.br (.io .eql (.io .rem (.cv .i64 V17) (.cell V8 0 0 noI)) V7)
(.next 3 [(.io .eql (.io .rem (.cv .i64 V20) (.cell V8 0 0 noI)) V2)])
(.next 3 [(.k (.bool false))])))))
(.ri V13
(.next 2 [V21,(.io .add V13 (.ki 1))]))))))))))))
(.rq (.bool V12)
(.br V12
(.rq (.cells 1 V2)
(.rq (.cells 1 V7)
(.ef false f39 21 5 [(.put (.put (.z 99) 0 1 V2 0 noI) 1 1 V7 0 noI)]
(.ef false f39 21 6 [(.cell V8 1 0 noI),V15]
(.rq (.cells 1 V16)
(.next 1 [V10,(.io .add V7 (.ki 1)),(.cat (.sub V8 0 1 0 noI) 1 V16)]))))))
(.next 1 [V10,(.io .add V7 (.ki 1)),V8])))))))))
(.next 0 [V6,(.io .add V2 (.ki 1)),V3,V4,V8])))))
(.ret [(.ag V5)])))))))):=by kernel_rfl
theorem c1A:tree prog [] [] [⟨0,4,[],[]⟩] [⟨6,[0,0,3,7,0,0,48,112,255],[0,0,1,1,0,0,1,1,0],[0,0,0,0,0,0,0,0,0],[0,1,2,3,4,5,6,7,8],[]⟩] 57=some (.pm f57 1 1 [V0]
(.pm f57 1 3 [V1]
(.ri V2
(.ri V3
(.br (.io .neq V2 V3)
(.ret [(.k (.bool false))])
(.loop [(.k (.bool false)),(.ki 0)]
(.pm f57 4 2 [V0]
(.ri V5
(.ri V6
(.br (.io .lss V5 V6)
(.pm f57 6 2 [V0,V5]
(.pm f57 6 3 [V7]
(.pm f57 6 6 [V1,V5]
(.pm f57 6 7 [V9]
(.ri V8
(.ri V10
(.br (.io .neq V8 V10)
(.ret [(.k (.bool false))])
(.next 0 [V4,(.io .add V5 (.ki 1))]))))))))
(.ret [(.k (.bool true))]))))))))))):=by kernel_rfl
theorem c1B:tree prog [] [] [] [] 142=some (.rq (.cells 2 V0)
(.ri V2
(.br (.io .geq V2 (.ki 0))
(.pm f142 1 6 [(.cell V0 1 0 noI)]
(.ri V3
(.br (.io .lss V2 V3)
(.pm f142 1 14 [(.cell V0 1 0 noI),V2]
(.pm f142 1 15 [V4,(.ki 0)]
(.pm f142 1 16 [V5]
(.call false 139 [V1,V6]
(.rq (.bool V7)
(.br V7
(.pm f142 1 24 [(.cell V0 1 0 noI),V2]
(.pm f142 1 25 [V8,(.ki 1)]
(.pm f142 1 26 [V9]
(.call false 139 [V1,V10]
(.ret [V11])))))
(.ret [(.k (.bool false))])))))))
(.ret [(.k (.bool false))]))))
(.ret [(.k (.bool false))])))):=by kernel_rfl
theorem c1C:tree prog [] [] [⟨0,3,[],[]⟩,⟨0,6,[],[]⟩] [⟨8,[0,1,0,0,12,28,63,127,255,0,512,0,0,6144,14336,32256,65024,130560,511,524287],[0,5,0,0,1,1,1,1,1,0,5,0,0,1,1,1,1,1,0,0],[0,0,0,0,0,0,0,0,0,0,0,0,0,0,0,0,0,0,0,0],[0,1,2,3,4,5,6,7,8,9,10,11,12,13,14,15,16,17,18,19],[]⟩] 143=some (.rq (.cells 2 V0)
(.call false 40 [V2]
(.loop [V3,(.ki 0)]
(.ri V5
(.br (.io .lss V5 (.ki 64))
(.loop [V4,(.ki 0)]
(.pm f143 6 2 [V1]
(.ri V7
(.ri V8
(.br (.io .lss V7 V8)
(.pm f143 8 4 [V1,V7]
(.pm f143 8 5 [V9]
(.pm f143 8 6 [(.cell V0 1 0 noI),V10]
(.pm f143 8 7 [V11,(.ki 0)]
(.pm f143 8 8 [V12]
(.pm f143 8 13 [V1,V7]
(.pm f143 8 14 [V14]
(.pm f143 8 15 [(.cell V0 1 0 noI),V15]
(.pm f143 8 16 [V16,(.ki 1)]
(.pm f143 8 17 [V17]
(.call false 139 [V6,V13]
(.rq (.bool V19)
(.br V19
(.call false 40 [V13]
(.ru V6
(.ru V20
(.call false 40 [V18]
(.ru V21
(.next 1 [(.uo .or (.uo .or V6 V20) V21),(.io .add V7 (.ki 1))]))))))
(.call false 139 [V6,V18]
(.rq (.bool V20)
(.br V20
(.call false 40 [V13]
(.ru V6
(.ru V21
(.call false 40 [V18]
(.ru V22
(.next 1 [(.uo .or (.uo .or V6 V21) V22),(.io .add V7 (.ki 1))]))))))
(.next 1 [V6,(.io .add V7 (.ki 1))])))))))))))))))))
(.next 0 [V6,(.io .add V5 (.ki 1))]))))))
(.ret [V4])))))):=by kernel_rfl
theorem c1D:tree prog [64,68,999998] [] [⟨0,8,[],[]⟩] [⟨10,[0,0,0,7,15,31,63,63,63,319,63,1855,3903,7999,16383,63,32831,63,229439,491583,1015871,2097151,4194303],[5,0,0,2,0,0,5,0,0,5,0,1,1,1,2,0,5,0,1,1,1,8,0],[0,0,0,0,0,0,0,0,0,0,0,0,0,0,0,0,0,0,0,0,0,0,0],[0,1,2,3,4,5,6,7,8,9,10,11,12,13,15,16,17,18,19,20,14],[21,22]⟩,⟨11,[0,0,0,0,0,24,0,64,248,510,1023,2047],[0,5,0,3,0,2,0,3,8,8,8,0],[0,0,0,0,0,0,0,0,0,0,0,0],[0,1,2,4,6,3,5,7],[8,9,10,11]⟩] 86=some (.rq (.cells 2 V0)
(.pm f86 1 1 [V2]
(.call false 141 [V1]
(.ri V4
(.ri V3
(.br (.io .eql V3 (.io .sub V4 (.ki 1)))
(.ef false f86 2 0 []
(.ef false f86 2 2 [V5,V2]
(.ef false f86 2 3 [V6]
(.ret [V7]))))
(.pm f86 4 1 [V2]
(.ri V5
(.br (.io .gtr V5 (.ki 0))
(.pm f86 5 2 [V2]
(.ri V6
(.pm f86 5 4 [V2,(.io .sub V6 (.ki 1))]
(.pm f86 5 5 [V7]
(.ri V8
(.loop [(.k (.slice none 0 0)),(.io .add V8 (.ki 1))]
(.pm f86 8 3 [(.cell V0 1 0 noI)]
(.ri V10
(.ri V11
(.br (.io .lss V10 V11)
(.call true 142 [(.ag V0),V1,V10]
(.rq (.bool V12)
(.br (.nt V12)
(.next 0 [V9,(.io .add V10 (.ki 1))])
(.pm f86 10 11 [(.cell V0 1 0 noI),V10]
(.pm f86 10 12 [V13,(.ki 0)]
(.pm f86 10 13 [V14]
(.pm f86 10 18 [(.cell V0 1 0 noI),V10]
(.pm f86 10 19 [V16,(.ki 1)]
(.pm f86 10 20 [V17]
(.call true 143 [(.ag V0),V2,V15]
(.call false 139 [V19,V18]
(.rq (.bool V20)
(.br V20
(.next 0 [V9,(.io .add V10 (.ki 1))])
(.mq f86 11 3 []
(.ef true f86 11 5 [V21,V2]
(.mq f86 11 7 [V10]
(.ef false f86 11 8 [V22,V23]
(.call false 86 [(.ag V0),V1,V24]
(.ef false f86 11 10 [V9,V25]
(.next 0 [V26,(.io .add V10 (.ki 1))]))))))))))))))))))))
(.ret [V9])))))))))))
(.loop [(.k (.slice none 0 0)),(.ki 0)]
(.pm f86 8 3 [(.cell V0 1 0 noI)]
(.ri V7
(.ri V8
(.br (.io .lss V7 V8)
(.call true 142 [(.ag V0),V1,V7]
(.rq (.bool V9)
(.br (.nt V9)
(.next 0 [V6,(.io .add V7 (.ki 1))])
(.pm f86 10 11 [(.cell V0 1 0 noI),V7]
(.pm f86 10 12 [V10,(.ki 0)]
(.pm f86 10 13 [V11]
(.pm f86 10 18 [(.cell V0 1 0 noI),V7]
(.pm f86 10 19 [V13,(.ki 1)]
(.pm f86 10 20 [V14]
(.call true 143 [(.ag V0),V2,V12]
(.call false 139 [V16,V15]
(.rq (.bool V17)
(.br V17
(.next 0 [V6,(.io .add V7 (.ki 1))])
(.mq f86 11 3 []
(.ef true f86 11 5 [V18,V2]
(.mq f86 11 7 [V7]
(.ef false f86 11 8 [V19,V20]
(.call false 86 [(.ag V0),V1,V21]
(.ef false f86 11 10 [V6,V22]
(.next 0 [V23,(.io .add V7 (.ki 1))]))))))))))))))))))))
(.ret [V6]))))))))))))))):=by kernel_rfl
theorem c1E:tree prog [] [] [] [] 42=some (.rq (.cells 2 V0)
(.call false 86 [(.ag V0),V1,(.k (.slice none 0 0))]
(.ret [V2]))):=by kernel_rfl
end Go.Proofs.YtmannekkmdockaaGreatDoor

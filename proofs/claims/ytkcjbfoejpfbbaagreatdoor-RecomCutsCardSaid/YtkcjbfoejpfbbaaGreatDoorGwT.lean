/- MADE BY rxgen.py (mkGT.py): trees of chapter 32. -/
import Derived.Test.YtkcjbfoejpfbbaaGreatDoorProg
import Derived.Test.YtkcjbfoejpfbbaaGreatDoorRxY
namespace Go.Proofs.YtkcjbfoejpfbbaaGreatDoor
open Go.Proofs.Tryz
open Go.RowKit Go.RX
set_option maxRecDepth 100000
noncomputable def c0Z:Tree:=(.pm f131 1 1 [V0]
(.pm f131 1 2 [V2]
(.pm f131 1 3 [V3]
(.ri V4
(.br (.io .neq V4 (.ki 0))
(.ret [(.ki 0)])
(.pm f131 3 1 [V0]
(.pm f131 3 2 [V5]
(.pm f131 3 3 [V6]
(.call false 183 [V7,V1]
(.rq (.tup 0 V8)
(.rq (.tup 1 V8)
(.rq (.tup 2 V8)
(.rq (.cells 1 (.proj V8 1))
(.pm f131 4 4 [V0]
(.pm f131 4 5 [V9]
(.ef false f131 4 6 [V10,(.ag (.proj V8 1))]
(.pm f131 4 7 [V0]
(.pm f131 4 8 [V12]
(.ef false f131 4 9 [V13,(.proj V8 2)]
(.ret [(.proj V8 0)]))))))))))))))))))))
theorem c9Y:tree prog [] [] [] [] 131=some c0Z:=by kernel_rfl
noncomputable def c1a:Tree:=(.rq (.cells 1 V0)
(.ri V1
(.br (.io .lss V1 (.ki 1))
(.ret [(.ki 0),(.z 66),(.ki 2)])
(.call false 223 [(.ag V0)]
(.call false 224 [V2,(.cv .u64 V1)]
(.rq (.tup 0 V3)
(.rq (.tup 1 V3)
(.rq (.int .i64 (.proj V3 1))
(.br (.io .neq (.proj V3 1) (.ki 0))
(.ret [(.ki 0),(.z 66),(.proj V3 1)])
(.rq (.int .u64 (.proj V3 0))
(.pm f183 7 3 [V2]
(.pm f183 7 4 [V4]
(.pm f183 7 5 [V5]
(.pm f183 7 6 [V6]
(.rq (.cells 1 V7)
(.ret [(.cv .i64 (.proj V3 0)),(.ag V7),(.ki 0)]))))))))))))))))
theorem c9Z:tree prog [] [] [] [⟨7,[0,1,0,4,12,28,60,3,255,511],[0,0,0,1,1,1,1,0,6,0],[0,0,0,0,0,0,0,0,1,0],[0,1,2,3,4,5,6,7],[8,9]⟩] 183=some c1a:=by kernel_rfl
noncomputable def c1b:Tree:=(.rq (.cells 1 V0)
(.pub 300 (.ag V0)
(.ret [V1])))
theorem d0a:tree prog [6] [] [] [] 223=some c1b:=by kernel_rfl
noncomputable def c1c:Tree:=(.rq (.cells 1 V1)
(.pm f224 1 1 [V0]
(.pm f224 1 2 [V2]
(.ef false f224 1 3 [V3]
(.rq (.int .u64 (.cell V1 0 0 noI))
(.rq (.nz (.cell V1 0 0 noI))
(.call false 248 [V4]
(.rf V5 1 [(.z 34),(.z 47)]
(.ru V6
(.br (.uo .leq V6 (.uo .sub (.op1 .neg .u64 (.uo .rem (.op1 .neg .u64 (.cell V1 0 0 noI)) (.cell V1 0 0 noI))) (.k (.int .u64 (1)))))
(.next 1 [(.uo .rem V6 (.cell V1 0 0 noI)),(.ki 0)])
(.br (.uo .eql (.uo .rem (.op1 .neg .u64 (.cell V1 0 0 noI)) (.cell V1 0 0 noI)) (.k (.int .u64 (0))))
(.next 1 [(.uo .rem V6 (.cell V1 0 0 noI)),(.ki 0)])
(.next 0 [V7,V8]))))
(.ret [(.k (.int .u64 (0))),(.ki 9)])
(.ret [(.cell V6 0 0 noI),(.cell V7 0 0 noI)])))))))))
theorem d0b:tree prog [] [] [⟨4,5,[],[1,2]⟩] [] 224=some c1c:=by kernel_rfl
noncomputable def c1d:Tree:=(.pm f247 1 1 [V0]
(.pm f247 1 2 [V1]
(.pm f247 1 3 [V2]
(.pm f247 1 4 [V3]
(.ru V4
(.pm f247 1 6 [V0]
(.pm f247 1 7 [V5]
(.pm f247 1 8 [V6]
(.ef false f247 1 9 [V7,(.uo .add V4 (.k (.int .u64 (11400714819323198485))))]
(.pm f247 2 1 [V0]
(.pm f247 2 2 [V9]
(.pm f247 2 3 [V10]
(.pm f247 2 4 [V11]
(.ru V12
(.ret [(.uo .xor (.uo .mul (.uo .xor (.uo .mul (.uo .xor V12 (.uo .shr V12 (.k (.int .u64 (30))))) (.k (.int .u64 (13787848793156543929)))) (.uo .shr (.uo .mul (.uo .xor V12 (.uo .shr V12 (.k (.int .u64 (30))))) (.k (.int .u64 (13787848793156543929)))) (.k (.int .u64 (27))))) (.k (.int .u64 (10723151780598845931)))) (.uo .shr (.uo .mul (.uo .xor (.uo .mul (.uo .xor V12 (.uo .shr V12 (.k (.int .u64 (30))))) (.k (.int .u64 (13787848793156543929)))) (.uo .shr (.uo .mul (.uo .xor V12 (.uo .shr V12 (.k (.int .u64 (30))))) (.k (.int .u64 (13787848793156543929)))) (.k (.int .u64 (27))))) (.k (.int .u64 (10723151780598845931)))) (.k (.int .u64 (31)))))])))))))))))))))
theorem d0c:tree prog [] [] [] [] 247=some c1d:=by kernel_rfl
noncomputable def c1e:Tree:=(.rq (.cells 1 V0)
(.pub 309 V0
(.ef false f248 1 0 [V1]
(.ret [V2]))))
theorem d0d:tree prog [1] [] [] [] 248=some c1e:=by kernel_rfl
noncomputable def b4D:Tree:=(.loop [(.ki 0)]
(.ri V2
(.br (.io .lss V2 (.ki 200))
(.pm f264 2 1 [V1]
(.ef false f264 2 2 [V3]
(.ef false f264 2 3 [V0,V4]
(.rq (.bool V5)
(.br (.nt V5)
(.ret [])
(.next 0 [(.io .add V2 (.ki 1))]))))))
(.ret []))))
theorem c4Z:tree prog [] [] [⟨0,1,[],[]⟩] [] 264=some b4D:=by kernel_rfl
noncomputable def c1f:Tree:=(.ef false f69 1 1 [V0]
(.pm f69 2 1 [V0]
(.pm f69 2 2 [V3]
(.pm f69 2 3 [V4]
(.pm f69 2 4 [V5]
(.pm f69 2 5 [V6]
(.call false 132 [V7]
(.pm f69 2 7 [V8]
(.pm f69 3 1 [V9,(.ki 1)]
(.loop [(.k (.slice none 0 0)),(.ki 0)]
(.ri V12
(.ri V10
(.br (.io .lss V12 V10)
(.pm f69 5 1 [V0]
(.pm f69 5 2 [V13]
(.pm f69 5 3 [V14]
(.pm f69 5 4 [V15]
(.pm f69 5 5 [V16]
(.call false 132 [V17]
(.ef false f69 5 9 [V2,V9]
(.pm f69 5 10 [V18,V19]
(.pm f69 5 11 [V20]
(.rq (.cells 2 V21)
(.pm f69 6 2 [V0]
(.pm f69 6 3 [V22]
(.pm f69 6 4 [V23]
(.pm f69 6 5 [V24]
(.pm f69 6 6 [V25]
(.call false 111 [V1,V26]
(.rq (.tup 0 V27)
(.rq (.tup 1 V27)
(.pm f69 7 3 [(.proj V27 0),(.cell V21 0 0 noI)]
(.pm f69 7 4 [V28]
(.pm f69 7 8 [(.proj V27 0),(.cell V21 1 0 noI)]
(.pm f69 7 9 [V30]
(.ru V29
(.ru V31
(.pm f69 8 1 [V0]
(.pm f69 8 2 [V32]
(.pm f69 8 3 [V33]
(.pm f69 8 4 [V34]
(.call false 39 [V35,(.uo .or V29 V31)]
(.rq (.tup 0 V36)
(.rq (.tup 1 V36)
(.rq (.bool (.proj V36 0))
(.br (.nt (.proj V36 0))
(.ret [V1])
(.pm f69 9 4 [V0]
(.pm f69 9 5 [V37]
(.pm f69 9 6 [V38]
(.ri V39
(.br (.io .neq V39 (.ki 0))
(.ret [V1])
(.pm f69 10 1 [V0]
(.pm f69 10 2 [V40]
(.pm f69 10 3 [V41]
(.pm f69 10 4 [V42]
(.pm f69 10 7 [V0]
(.pm f69 10 8 [V44]
(.pm f69 10 9 [V45]
(.call true 133 [V43,(.uo .or V29 V31),V46]
(.rq (.tup 0 V47)
(.rq (.tup 1 V47)
(.rq (.tup 2 V47)
(.rq (.cells 1 (.proj V47 1))
(.pm f69 11 4 [V0]
(.pm f69 11 5 [V48]
(.ef false f69 11 6 [V49,(.ag (.proj V47 1))]
(.pm f69 11 7 [V0]
(.pm f69 11 8 [V51]
(.ef false f69 11 9 [V52,(.proj V47 2)]
(.pm f69 12 2 [V0]
(.pm f69 12 3 [V54]
(.pm f69 12 4 [V55]
(.pm f69 12 5 [V56]
(.pm f69 12 6 [V57]
(.ri V58
(.ef false f69 12 8 [V2,(.io .sub V58 (.ki 1))]
(.pm f69 13 1 [V0]
(.pm f69 13 2 [V60]
(.pm f69 13 3 [V61]
(.call false 65 [V62,(.uo .or V29 V31),(.proj V47 0)]
(.pm f69 14 2 [V63]
(.ri V59
(.ri V64
(.br (.io .geq V59 V64)
(.ret [V1])
(.pm f69 14 6 [V0]
(.pm f69 14 7 [V65]
(.pm f69 14 8 [V66]
(.ri V67
(.br (.io .neq V67 (.ki 0))
(.ret [V1])
(.pm f69 15 1 [V0]
(.pm f69 15 2 [V68]
(.pm f69 15 3 [V69]
(.pm f69 15 4 [V70]
(.pm f69 15 9 [V63,V59]
(.pm f69 15 10 [V72]
(.call true 38 [V71,(.uo .or V29 V31),(.proj V47 0),V73]
(.rq (.tup 0 V74)
(.rq (.tup 1 V74)
(.rq (.tup 2 V74)
(.pm f69 16 2 [V0]
(.pm f69 16 3 [V75]
(.pm f69 16 4 [V76]
(.call false 134 [V77,(.proj V74 0),(.proj V74 1)]
(.ef false f69 16 8 [V2,V78]
(.ri V79
(.br (.io .eql V79 (.ki 0))
(.call false 135 [V1,(.cell V21 0 0 noI),(.cell V21 1 0 noI),(.proj V74 0)]
(.ret [V80]))
(.next 0 [V11,(.io .add V12 (.ki 1))]))))))))))))))))))))))))))))))))))))))))))))))))))))))))))))))))))))))))))))))))))))))))))))))
(.ret [V1]))))))))))))))
theorem d0e:tree prog [] [] [⟨0,4,[],[]⟩] [⟨7,[0,0,2,7,15,0,0,64,224,480,1023,2047],[0,0,5,1,1,0,0,5,1,1,0,0],[0,0,0,0,0,0,0,0,0,0,0,0],[0,1,2,3,4,5,6,7,8,9,10,11],[]⟩,⟨10,[0,1,3,7,15,0,0,64,192,448,1023,2047,4095,4095,4095,0,40959,114687,262143],[0,1,1,1,1,0,0,1,1,1,2,0,0,0,0,3,0,4,0],[0,0,0,0,0,0,0,0,0,0,0,0,0,0,0,0,0,0,0],[0,1,2,3,4,5,6,7,8,9,10,11,12,13,14,15,16],[17,18]⟩,⟨15,[0,1,3,7,15,0,0,0,0,384,896,2047,4095,8191,8191,8191,16383,98303,262143],[0,1,1,1,1,0,0,0,0,1,1,2,0,0,0,0,0,0,0],[0,0,0,0,0,0,0,0,0,0,0,0,0,0,0,0,0,0,0],[0,1,2,3,4,5,6,7,8,9,10,11,12,13,14,15,16,17,18],[]⟩] 69=some c1f:=by kernel_rfl
end Go.Proofs.YtkcjbfoejpfbbaaGreatDoor

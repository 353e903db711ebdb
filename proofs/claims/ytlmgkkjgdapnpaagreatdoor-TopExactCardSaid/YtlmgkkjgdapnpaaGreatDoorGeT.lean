/- MADE BY rxgen.py (mkGT.py): trees of chapter 32. -/
import Derived.Test.YtlmgkkjgdapnpaaGreatDoorProg
import Derived.Test.YtlmgkkjgdapnpaaGreatDoorRxW
namespace Go.Proofs.YtlmgkkjgdapnpaaGreatDoor
open Go.Proofs.Tryz
open Go.RowKit Go.RX
set_option maxRecDepth 100000
theorem d0v:a0w prog [] [] [] [] 75=some (.call false 123 [V0,(.k (.bool false))]
(.rq (.bool V1)
(.ret [(.nt V1)]))):=by kernel_rfl
theorem d0w:a0w prog [5] [] [] [] 125=some (.rq (.cells 1 V2)
(.pub 3 V2
(.pm f125 1 1 [V0]
(.ri V4
(.ri V1
(.br (.io .eql V4 V1)
(.ef false f125 1 6 [V3]
(.call false 115 [V0,V5]
(.rq (.bool V6)
(.ret [(.nt V6)]))))
(.ret [(.k (.bool false))]))))))):=by kernel_rfl
theorem c5q:a0w prog [] [] [] [] 186=some (.ri V0
(.br (.io .lss V0 (.ki 0))
(.ret [(.k (.bool true))])
(.pm f186 1 4 [V1]
(.ri V2
(.ret [(.io .gtr V0 V2)]))))):=by kernel_rfl
theorem d0x:a0w prog [] [] [⟨2,8,[5,6],[]⟩] [⟨4,[0,1,3,0,8,24,56,0,128,384,896,0,2048,6144,0,16384,0,114688,0,262144,0,1048576,0,4194304,16515968,0,33554432,0,134217728,0,1073480576,0,2147483648,0,8589934592,0,68719215488,137438953471,274877906943,549755813887],[0,5,1,0,5,1,0,0,5,2,1,0,5,0,0,5,0,0,0,5,0,5,0,5,2,0,5,0,5,0,2,0,5,0,5,0,2,2,2,0],[0,1,0,0,1,0,0,0,1,0,0,0,1,0,0,1,0,0,0,1,0,0,0,1,0,0,1,0,0,0,0,0,1,0,0,0,0,0,0,0],[0,1,2,3,4,5,6,7,8,11,12,13,14,15,16,17,18,19,20,21,22,23,25,26,27,28,29,31,32,33,34,35,9,10,24,30,36,37,38,39],[]⟩] 76=some (.rq (.cells 4 V0)
(.rq (.cells 6 V1)
(.join 2
(.rq (.bool (.cell V1 5 0 noI))
(.br (.cell V1 5 0 noI)
(.next 0 [(.ki 0),(.ki 0)])
(.next 0 [(.ki 1000000000),(.ki 63)])))
(.pm f76 4 2 [(.cell V1 0 0 noI),(.k (.string ⟨#[]⟩))]
(.pm f76 4 5 [(.cell V1 0 0 noI)]
(.ri V5
(.rq (.int .i64 (.cell V1 1 0 noI))
(.ri V2
(.call true 124 [(.cell V1 0 0 noI),(.k (.string ⟨#[65,66,67,68,69,70,71,72,73,74,75,76,77,78,79,80,81,82,83,84,85,86,87,88,89,90,97,98,99,100,101,102,103,104,105,106,107,108,109,110,111,112,113,114,115,116,117,118,119,120,121,122,48,49,50,51,52,53,54,55,56,57,45,95]⟩))]
(.pm f76 4 10 [V6,(.k (.string ⟨#[]⟩))]
(.call true 125 [(.cell V1 2 0 noI),(.cell V0 0 0 noI),(.cell V1 1 0 noI)]
(.call true 125 [(.cell V1 3 0 noI),(.cell V0 1 0 noI),V2]
(.call true 125 [(.cell V1 4 0 noI),(.cell V0 2 0 noI),V3]
(.ef true f76 4 37 [V4,(.io .leq V5 (.ki 12)),V7,(.io .geq (.cell V1 1 0 noI) (.ki 0)),(.io .leq (.cell V1 1 0 noI) V2),V8,V9,V10]
(.call true 75 [V11]
(.ret [V12])))))))))))))))):=by kernel_rfl
theorem d0y:a0w prog [] [] [⟨3,9,[68],[]⟩,⟨0,7,[],[]⟩] [⟨9,[0,0,3,0,0,16,56,120,0,256,775,1799,3847,7943,0,16384,50951,116487,247559,509703,1033991,2097151,4194303,8388607],[5,5,2,0,0,5,1,0,0,5,0,0,0,0,0,0,0,0,5,0,0,2,2,0],[0,1,0,0,0,1,0,0,0,1,0,0,0,0,0,0,0,0,1,0,0,0,0,0],[0,1,3,4,5,6,7,8,9,14,15,2,10,11,12,13,16,17,18,19,20,21,22,23],[]⟩] 26=some (.rq (.cells 4 V0)
(.pm f26 1 2 [(.cell V0 3 0 noI)]
(.rq (.int .i64 (.cell V0 0 0 noI))
(.rq (.int .i64 (.cell V0 1 0 noI))
(.rq (.int .i64 (.cell V0 2 0 noI))
(.ri V1
(.ef false f26 2 22 [(.io .geq (.cell V0 0 0 noI) (.ki 0)),(.io .leq (.cell V0 0 0 noI) (.ki 6)),(.io .geq (.cell V0 1 0 noI) (.ki 0)),(.io .leq (.cell V0 1 0 noI) (.ki 12)),(.io .geq (.cell V0 2 0 noI) (.ki 0)),(.io .leq (.cell V0 2 0 noI) (.ki 3)),(.io .gtr V1 (.ki 0)),(.io .leq V1 (.ki 64))]
(.call false 75 [V2]
(.rq (.bool V3)
(.br (.nt V3)
(.ret [(.ki 161)])
(.ef false f26 4 0 []
(.pm f26 6 2 [(.cell V0 3 0 noI)]
(.loop [(.ki 0),(.k (.bool false)),(.ki 0)]
(.ri V8
(.ri V5
(.br (.io .lss V8 V5)
(.pm f26 8 1 [(.cell V0 3 0 noI),V8]
(.pm f26 8 2 [V9]
(.rq (.cells 6 V10)
(.join 1
(.pm f26 9 6 [V4,(.cell V10 0 0 noI)]
(.rq (.bool V11)
(.call true 76 [(.ag V0),(.ag V10)]
(.rq (.bool (.cell V10 5 0 noI))
(.br (.cell V10 5 0 noI)
(.br (.io .gtr V8 (.ki 0))
(.ef true f26 9 21 [V12,(.nt V11),(.k (.bool true)),(.k (.bool true))]
(.call true 75 [V13]
(.rq (.bool V14)
(.next 1 [(.nt V14)]))))
(.ef true f26 9 21 [V12,(.nt V11),(.k (.bool true)),(.nt (.cell V10 5 0 noI))]
(.call true 75 [V13]
(.rq (.bool V14)
(.next 1 [(.nt V14)])))))
(.rq (.bool V7)
(.br (.io .gtr V8 (.ki 0))
(.ef true f26 9 21 [V12,(.nt V11),(.nt V7),(.k (.bool true))]
(.call true 75 [V13]
(.rq (.bool V14)
(.next 1 [(.nt V14)]))))
(.ef true f26 9 21 [V12,(.nt V11),(.nt V7),(.nt (.cell V10 5 0 noI))]
(.call true 75 [V13]
(.rq (.bool V14)
(.next 1 [(.nt V14)])))))))))))
(.rq (.bool V11)
(.br V11
(.ret [(.ki 161)])
(.ef false f26 11 3 [V4,(.cell V10 0 0 noI),(.k (.bool true))]
(.next 0 [V6,(.cell V10 5 0 noI),(.io .add V8 (.ki 1))]))))))))
(.ret [(.ki 0)]))))))))))))))))):=by kernel_rfl
theorem d0z:a0w prog [] [] [] [] 27=some (.rq (.cells 4 V0)
(.call false 77 [(.cell V0 3 0 noI),(.k (.func (.func 78) #[] #[]))]
(.ri V1
(.br (.io .geq V1 (.ki 0))
(.pm f27 3 3 [(.cell V0 3 0 noI),V1]
(.ret [V2]))
(.ret [(.cell V0 3 0 noI)]))))):=by kernel_rfl
theorem b3D:(opr f27 3 3).op= .slice 33 (.tmp 10) none (some (.tmp 11)) none:=by kernel_rfl
theorem c5r:a0w prog [] [] [] [] 78=some (.rq (.cells 6 V0)
(.ret [(.cell V0 5 0 noI)])):=by kernel_rfl
theorem d0A:a0w prog [] [] [] [] 6=some (.rq (.cells 4 V0)
(.call false 26 [(.ag V0)]
(.ri V1
(.br (.io .neq V1 (.ki 0))
(.ret [(.ki 0),V1])
(.call false 27 [(.ag V0)]
(.pm f6 4 2 [V2]
(.ret [V3,(.ki 0)]))))))):=by kernel_rfl
theorem d0B:a0w prog [] [] [⟨0,2,[],[]⟩] [] 77=some (.pm f77 1 1 [V0]
(.loop [(.ki 0),(.ki 0)]
(.ri V4
(.ri V2
(.br (.io .lss V4 V2)
(.pm f77 4 3 [V0,V4]
(.pm f77 4 4 [V5]
(.ef false f77 4 5 [V1,V6]
(.rq (.bool V7)
(.br V7
(.ret [V4])
(.next 0 [V3,(.io .add V4 (.ki 1))]))))))
(.ret [(.k (.int .i64 (-1)))])))))):=by kernel_rfl
theorem d0C:a0w prog [] [] [] [] 123=some (.call false 178 [V0,V1]
(.ri V2
(.ret [(.io .geq V2 (.ki 0))]))):=by kernel_rfl
theorem d0D:a0w prog [] [] [⟨0,2,[],[]⟩] [] 178=some (.pm f178 1 1 [V0]
(.loop [(.ki 0),(.ki 0)]
(.ri V4
(.ri V2
(.br (.io .lss V4 V2)
(.pm f178 4 3 [V0,V4]
(.pm f178 4 4 [V5]
(.rq (.bool V1)
(.rq (.bool V6)
(.br (.eqb false V1 V6)
(.ret [V4])
(.next 0 [V3,(.io .add V4 (.ki 1))]))))))
(.ret [(.k (.int .i64 (-1)))])))))):=by kernel_rfl
theorem d4K:a0w prog [] [] [] [] 79=some (.call false 80 [V0]
(.ret [V1])):=by kernel_rfl
theorem d0E:a0w prog [] [] [] [] 128=some (.pm f128 1 1 [V0,(.k (.slice none 0 0))]
(.rq (.bool V1)
(.br V1
(.ret [(.k (.slice none 0 0))])
(.ef false f128 3 0 []
(.ef false f128 3 2 [V2,V0]
(.ret [V3])))))):=by kernel_rfl
theorem d0F:a0w prog [] [] [] [] 66=some (.rq (.cells 2 V0)
(.rq (.cells 4 V1)
(.call false 65 [(.ag V0)]
(.ri V2
(.br (.io .neq V2 (.ki 0))
(.ret [V2])
(.rq (.int .i64 (.cell V0 0 0 noI))
(.br (.io .gtr (.cell V0 0 0 noI) (.ki 12))
(.ret [(.ki 3)])
(.pm f66 6 2 [(.cell V1 0 0 noI)]
(.ri V3
(.br (.io .neq V3 (.cell V0 0 0 noI))
(.ret [(.ki 2)])
(.call false 115 [(.cell V1 0 0 noI),(.k (.func (.func 116) #[] #[]))]
(.rq (.bool V4)
(.br V4
(.ret [(.ki 2)])
(.rq (.int .i64 (.cell V1 3 0 noI))
(.br (.io .lss (.cell V1 3 0 noI) (.ki 1))
(.ret [(.ki 2)])
(.br (.io .gtr (.cell V1 3 0 noI) (.ki 8))
(.ret [(.ki 2)])
(.rq (.int .i64 (.cell V1 1 0 noI))
(.br (.io .lss (.cell V1 1 0 noI) (.ki 0))
(.ret [(.ki 2)])
(.rq (.int .i64 (.cell V1 2 0 noI))
(.br (.io .lss (.cell V1 2 0 noI) (.cell V1 1 0 noI))
(.ret [(.ki 2)])
(.ret [(.ki 0)]))))))))))))))))))))):=by kernel_rfl
theorem c5s:a0w prog [] [] [] [] 116=some (.ri V0
(.br (.io .lss V0 (.ki 0))
(.ret [(.k (.bool true))])
(.ret [(.io .gtr V0 (.ki 1000000000))]))):=by kernel_rfl
theorem d0G:a0w prog [1] [] [] [] 82=some (.rq (.cells 1 V0)
(.pub 57 V0
(.ef false f82 1 0 [V1]
(.ret [V2])))):=by kernel_rfl
theorem c5t:a0w prog [] [] [⟨0,2,[],[]⟩] [] 127=some (.pm f127 0 0 [V1]
(.loop [V2]
(.ef false f127 2 2 [V0,V3]
(.rq (.bool V4)
(.br (.nt V4)
(.ret [])
(.ru V3
(.br (.uo .eql V3 (.k (.int .u64 (0))))
(.ret [])
(.pm f127 1 2 [V1]
(.ru V5
(.next 0 [(.uo .and (.uo .sub V3 (.k (.int .u64 (1)))) V5)])))))))))):=by kernel_rfl
theorem d0H:a0w prog [7,18,19,33] [] [⟨0,7,[],[]⟩,⟨0,14,[],[]⟩,⟨0,20,[],[]⟩] [⟨4,[0,1,0,4,12,28,63,127,0,511],[0,5,0,5,0,2,0,3,3,8],[0,0,0,0,0,0,0,0,0,0],[0,1,2,3,4,5,6,7,8],[9]⟩,⟨9,[0,0,2,7,15,0,32,96,255,511,1023],[0,0,5,1,1,0,5,0,0,1,8],[0,0,2,0,0,0,2,0,0,0,0],[0,1,2,3,4,5,6,7,8,9],[10]⟩,⟨10,[0,0,2,7,15,0,32,96,255,511,1023],[0,0,5,1,1,0,5,0,0,1,8],[0,0,2,0,0,0,2,0,0,0,0],[0,1,2,3,4,5,6,7,8,9],[10]⟩,⟨17,[0,0,0,0,0,16,56,124,252,0,512,0,3584,7680,16380,32767,65535],[0,0,0,0,0,0,0,1,1,0,5,0,1,1,0,1,8],[0,0,0,0,0,0,0,0,0,0,1,0,0,0,0,0,0],[0,1,2,3,4,5,6,7,8,9,10,11,12,13,14,15],[16]⟩,⟨18,[0,0,3,7,0,16,63,127,255,255,1023,2047,255,4351,16383,32767],[0,0,1,1,0,5,0,0,0,0,1,1,0,5,0,0],[0,0,0,0,0,1,0,0,0,0,0,0,0,1,0,0],[0,1,2,3,4,5,6,7,8,9,10,11,12,13,14,15],[]⟩,⟨19,[0,1,0,4,3,31],[0,0,0,0,0,0],[0,0,0,0,0,0],[0,1,2,3,4,5],[]⟩] 28=some (.rq (.cells 2 V0)
(.rq (.cells 4 V1)
(.call false 66 [(.ag V0),(.ag V1)]
(.ri V2
(.br (.io .neq V2 (.ki 0))
(.ret [(.k (.pointer none)),V2])
(.rq (.num (.cell V0 0 0 noI))
(.rq (.nn (.cell V0 0 0 noI))
(.ef true f28 4 5 [(.io .shl (.ki 1) (.cell V0 0 0 noI)),(.io .shl (.ki 1) (.cell V0 0 0 noI))]
(.rq (.cells 1 (.cell V0 0 0 noI))
(.rq (.cells 1 V3)
(.pub 171 (.put (.cat (.cell V0 0 0 noI) 1 (.cat (.z 168) 1 (.z 169))) 1 1 V3 0 noI)
(.pub 93 (.z 93)
(.ef false f28 4 9 [V5,V4]
(.ef false f28 5 2 [(.cell V0 0 0 noI),(.cell V0 0 0 noI)]
(.pm f28 6 2 [(.cell V0 1 0 noI)]
(.loop [(.ki 0)]
(.ri V9
(.ri V8
(.br (.io .lss V9 V8)
(.pm f28 8 0 [(.cell V0 1 0 noI),V9]
(.pm f28 8 1 [V10]
(.rq (.cells 2 V11)
(.pm f28 9 3 [V7,(.cell V11 0 0 noI)]
(.pm f28 9 4 [V12]
(.rq (.num (.cell V11 1 0 noI))
(.rq (.nn (.cell V11 1 0 noI))
(.ru V13
(.pm f28 9 9 [V7,(.cell V11 0 0 noI)]
(.ef false f28 9 10 [V14,(.uo .or V13 (.uo .shl (.k (.int .u64 (1))) (.cell V11 1 0 noI)))]
(.pm f28 10 3 [V7,(.cell V11 1 0 noI)]
(.pm f28 10 4 [V16]
(.rq (.num (.cell V11 0 0 noI))
(.rq (.nn (.cell V11 0 0 noI))
(.ru V17
(.pm f28 10 9 [V7,(.cell V11 1 0 noI)]
(.ef false f28 10 10 [V18,(.uo .or V17 (.uo .shl (.k (.int .u64 (1))) (.cell V11 0 0 noI)))]
(.next 0 [(.io .add V9 (.ki 1))]))))))))))))))))))
(.ef false f28 12 3 [(.io .shl (.ki 1) (.cell V0 0 0 noI)),(.io .shl (.ki 1) (.cell V0 0 0 noI))]
(.loop [(.ki 1)]
(.ri V11
(.br (.io .lss V11 (.io .shl (.ki 1) (.cell V0 0 0 noI)))
(.call false 79 [(.cv .u64 V11)]
(.pm f28 17 7 [V10,(.io .and V11 (.io .sub V11 (.ki 1)))]
(.pm f28 17 8 [V13]
(.pm f28 17 12 [(.cell V1 0 0 noI),V12]
(.pm f28 17 13 [V15]
(.ri V14
(.ri V16
(.pm f28 17 15 [V10,V11]
(.ef false f28 17 16 [V17,(.io .add V14 V16)]
(.pm f28 18 2 [V10,V11]
(.pm f28 18 3 [V19]
(.ri V20
(.rq (.int .i64 (.cell V1 1 0 noI))
(.br (.io .lss V20 (.cell V1 1 0 noI))
(.next 1 [(.io .add V11 (.ki 1))])
(.pm f28 18 10 [V10,V11]
(.pm f28 18 11 [V21]
(.ri V22
(.rq (.int .i64 (.cell V1 2 0 noI))
(.br (.io .gtr V22 (.cell V1 2 0 noI))
(.next 1 [(.io .add V11 (.ki 1))])
(.rq (.num V12)
(.rq (.nn V12)
(.loop [(.uo .shl (.k (.int .u64 (1))) V12),(.uo .shl (.k (.int .u64 (1))) V12)]
(.ru V24
(.br (.uo .neq V24 (.k (.int .u64 (0))))
(.call false 80 [V24]
(.pm f28 23 2 [V7,V25]
(.pm f28 23 3 [V26]
(.ru V27
(.ru V23
(.next 2 [(.uo .or V23 (.uo .andNot (.uo .and V27 (.cv .u64 V11)) V23)),(.uo .or (.uo .and V24 (.uo .sub V24 (.k (.int .u64 (1))))) (.uo .andNot (.uo .and V27 (.cv .u64 V11)) V23))]))))))
(.pm f28 26 0 [V5]
(.pm f28 26 1 [V25]
(.pm f28 26 2 [V26]
(.pm f28 26 3 [V27]
(.ru V23
(.pm f28 26 9 [V28,V11]
(.ef false f28 26 10 [V29,(.uo .eql V23 (.cv .u64 V11))]
(.next 1 [(.io .add V11 (.ki 1))]))))))))))))))))))))))))))))))))
(.ef false f28 27 0 []
(.pub 175 (.z 175)
(.ef false f28 27 2 [V13,V12]
(.pub 176 (.z 176)
(.ef false f28 29 0 [V13,V5,V15]
(.ef false f28 29 1 [V15,V16]
(.pm f28 30 0 [V5]
(.ef false f28 30 1 [V15,V5]
(.pm f28 30 2 [V18]
(.pm f28 30 3 [V20]
(.ef false f28 30 4 [V21,V19]
(.pm f28 31 0 [V5]
(.ret [V23,(.ki 0)])))))))))))))))))))))))))))))))))))):=by kernel_rfl
theorem c5u:a0w prog [999999] [] [⟨4,12,[],[3]⟩] [⟨9,[0,0,2,7,0,0,48,127],[5,5,0,0,3,3,8,8],[0,0,0,0,0,0,3,3],[0,1,2,3,4,5],[6,7]⟩,⟨12,[0,1,3,7,0,0,48,127,255],[1,1,1,1,0,5,0,1,1],[0,0,0,0,0,4,0,0,0],[0,1,2,3,4,5,6,7,8],[]⟩,⟨13,[0,0,0,0,12,0,60,0,128,510,1023,2047],[5,1,5,0,0,5,0,5,0,8,0,6],[3,0,0,0,0,4,0,1,0,0,0,3],[0,1,2,3,4,5,6,7,8],[9,10,11]⟩] 81=some (.rq (.cells 1 V0)
(.rq (.cells 1 V1)
(.rq (.int .u64 (.cell V0 0 0 noI))
(.br (.uo .eql (.cell V0 0 0 noI) (.k (.int .u64 (0))))
(.rq (.int .i64 (.cell V1 0 0 noI))
(.br (.io .eql (.cell V1 0 0 noI) (.ki 0))
(.ret [(.ki 1)])
(.ret [(.ki 0)])))
(.rq (.int .i64 (.cell V1 0 0 noI))
(.br (.io .eql (.cell V1 0 0 noI) (.ki 0))
(.ret [(.ki 0)])
(.rq (.cells 1 (.cell V0 0 0 noI))
(.pm f81 6 0 [V2]
(.pm f81 6 2 [V5,(.put (.put (.z 177) 0 1 (.cell V0 0 0 noI) 0 noI) 1 1 (.cv .u64 (.cell V1 0 0 noI)) 0 noI)]
(.rq (.tup 0 V6)
(.rq (.tup 1 V6)
(.rq (.bool (.proj V6 1))
(.br (.proj V6 1)
(.ret [(.proj V6 0)])
(.call false 82 [(.uo .andNot (.cell V0 0 0 noI) (.uo .and (.cell V0 0 0 noI) (.op1 .neg .u64 (.cell V0 0 0 noI))))]
(.rf V7 1 [(.ki 0)]
(.pm f81 12 0 [V3]
(.pm f81 12 1 [V10]
(.pm f81 12 2 [V11]
(.pm f81 12 3 [V12]
(.ru V8
(.pm f81 12 7 [V13,(.uo .or V8 (.uo .and (.cell V0 0 0 noI) (.op1 .neg .u64 (.cell V0 0 0 noI))))]
(.pm f81 12 8 [V14]
(.rq (.bool V15)
(.br V15
(.pm f81 13 1 [V4]
(.ef false f81 13 9 [V16,(.uo .andNot (.uo .andNot (.cell V0 0 0 noI) V8) (.uo .and (.cell V0 0 0 noI) (.op1 .neg .u64 (.cell V0 0 0 noI)))),(.io .sub (.cell V1 0 0 noI) (.ki 1))]
(.rq (.int .i64 (.cell V9 0 0 noI))
(.ri V17
(.next 0 [(.io .add (.cell V9 0 0 noI) V17)])))))
(.next 0 [V9]))))))))))
(.pm f81 14 0 [V2]
(.ef false f81 14 3 [V9,(.put (.put (.z 177) 0 1 (.cell V0 0 0 noI) 0 noI) 1 1 (.cv .u64 (.cell V1 0 0 noI)) 0 noI),(.cell V8 0 0 noI)]
(.ret [(.cell V8 0 0 noI)])))
(.dead 818)))))))))))))))):=by kernel_rfl
theorem b4H:a0w prog [999999] [] [⟨4,7,[],[3]⟩] [⟨7,[0,1,3,7,0,16,48,0,240,511,1023],[1,1,1,1,5,1,1,0,0,1,1],[0,0,0,0,0,0,0,0,0,0,0],[0,1,2,3,4,5,6,7,8,9,10],[]⟩,⟨8,[0,0,2,6,14,0,32,0,0,384,0,1024,4094,8191,16383],[5,1,1,1,1,5,1,5,0,0,5,0,8,0,6],[3,0,0,0,0,0,0,1,0,0,2,0,0,0,3],[0,1,2,3,4,5,6,7,8,9,10,11],[12,13,14]⟩] 83=some (.rq (.cells 1 V0)
(.rq (.cells 1 V1)
(.rq (.cells 1 V2)
(.pm f83 1 1 [(.cell V0 0 0 noI)]
(.ri V5
(.br (.io .eql V5 (.ki 0))
(.pm f83 2 0 [V3]
(.ef false f83 2 3 [V6,(.cell V1 0 0 noI),(.cell V2 0 0 noI)]
(.ret [V7])))
(.pm f83 4 1 [(.cell V0 0 0 noI)]
(.ri V6
(.rq (.int .i64 (.cell V2 0 0 noI))
(.br (.io .leq V6 (.cell V2 0 0 noI))
(.call false 82 [(.cell V1 0 0 noI)]
(.rf V7 1 [(.ki 0)]
(.pm f83 7 0 [V4]
(.pm f83 7 1 [V10]
(.pm f83 7 2 [V11]
(.pm f83 7 3 [V12]
(.pm f83 7 5 [(.cell V0 0 0 noI),(.ki 0)]
(.pm f83 7 6 [V14]
(.ru V15
(.ru V8
(.pm f83 7 9 [V13,(.uo .or V15 V8)]
(.pm f83 7 10 [V16]
(.rq (.bool V17)
(.br V17
(.pm f83 8 1 [V4]
(.pm f83 8 2 [V18]
(.pm f83 8 3 [V19]
(.pm f83 8 4 [V20]
(.pm f83 8 6 [(.cell V0 0 0 noI),(.ki 1)]
(.rq (.int .u64 (.cell V1 0 0 noI))
(.ef false f83 8 12 [V21,V22,(.uo .andNot (.cell V1 0 0 noI) V8),(.io .sub (.cell V2 0 0 noI) (.ki 1))]
(.rq (.int .i64 (.cell V9 0 0 noI))
(.ri V23
(.next 0 [(.io .add (.cell V9 0 0 noI) V23)]))))))))))
(.next 0 [V9])))))))))))))
(.ret [(.cell V8 0 0 noI)])
(.dead 818)))
(.ret [(.ki 0)]))))))))))):=by kernel_rfl
theorem b1E:(opr f83 8 6).op= .slice 111 (.tmp 41) (some (.const (.int .i64 (1)))) none none:=by kernel_rfl
theorem d0I:a0w prog [] [] [] [⟨4,[0,0,3,7,0,16,63,127,255],[0,0,1,1,0,0,0,1,8],[0,0,0,0,0,0,0,0,0],[0,1,2,3,4,5,6,7],[8]⟩] 84=some (.call false 128 [V0]
(.pm f84 2 2 [V3]
(.ri V2
(.ri V4
(.br (.io .eql V2 V4)
(.ef false f84 3 1 [(.k (.int .u64 (0)))]
(.ef false f84 3 2 [V3,V5]
(.pm f84 4 2 [V6,V2]
(.pm f84 4 3 [V7]
(.rq (.num V1)
(.rq (.nn V1)
(.ru V8
(.pm f84 4 7 [V6,V2]
(.ef false f84 4 8 [V9,(.uo .or V8 (.uo .shl (.k (.int .u64 (1))) V1))]
(.ret [V6]))))))))))
(.pm f84 4 2 [V3,V2]
(.pm f84 4 3 [V5]
(.rq (.num V1)
(.rq (.nn V1)
(.ru V6
(.pm f84 4 7 [V3,V2]
(.ef false f84 4 8 [V7,(.uo .or V6 (.uo .shl (.k (.int .u64 (1))) V1))]
(.ret [V3]))))))))))))):=by kernel_rfl
theorem d0J:a0w prog [] [] [⟨0,4,[],[]⟩,⟨0,9,[],[]⟩] [⟨6,[0,1,3,7,15,0,32,96,255,511],[0,1,1,1,0,0,0,0,0,0],[0,0,0,0,0,0,0,0,0,0],[0,1,2,3,4,5,6,7,8,9],[]⟩] 30=some (.pm f30 3 1 [V0]
(.pm f30 3 2 [V3]
(.pm f30 3 3 [V4]
(.loop [(.k (.slice none 0 0)),(.k (.slice none 0 0)),V2,(.ki 0)]
(.ri V9
(.ri V5
(.br (.io .lss V9 V5)
(.pm f30 6 1 [V0]
(.pm f30 6 2 [V10]
(.pm f30 6 3 [V11]
(.rq (.num V12)
(.rq (.nn V12)
(.rq (.nn (.io .add V9 (.ki 1)))
(.loop [V6,V7,V8,(.ki 0)]
(.call false 84 [V14,V9,V16]
(.pm f30 10 1 [V0]
(.pm f30 10 2 [V18]
(.pm f30 10 3 [V19]
(.ef false f30 10 7 [V20,V17,(.uo .sub (.uo .shl (.k (.int .u64 (1))) V12) (.uo .shl (.k (.int .u64 (1))) (.io .add V9 (.ki 1)))),V1]
(.ri V15
(.ri V21
(.br (.io .lss V15 V21)
(.ef false f30 12 2 [V16]
(.ef false f30 12 3 [V13,V22]
(.next 0 [V23,V17,V15,(.io .add V9 (.ki 1))])))
(.ri V16
(.next 1 [V13,V14,(.io .sub V15 V21),(.io .add V16 (.ki 1))])))))))))))))))))
(.ret [V6])))))))):=by kernel_rfl
theorem d0K:a0w prog [999999] [] [] [⟨1,[0,1,3,7,0,16,48,112,240,496,0,2047,4095],[0,1,1,1,0,1,1,1,0,0,0,8,0],[0,0,0,0,0,0,0,0,0,0,0,0,0],[0,1,2,3,4,5,6,7,8,9,10],[11,12]⟩] 29=some (.pm f29 1 1 [V0]
(.pm f29 1 2 [V2]
(.pm f29 1 3 [V3]
(.pm f29 1 5 [V0]
(.pm f29 1 6 [V5]
(.pm f29 1 7 [V6]
(.rq (.num V7)
(.rq (.nn V7)
(.ef false f29 1 11 [V4,(.k (.slice none 0 0)),(.uo .sub (.uo .shl (.k (.int .u64 (1))) V7) (.k (.int .u64 (1)))),V1]
(.ret [V8])))))))))):=by kernel_rfl
theorem d0L:a0w prog [] [] [⟨0,9,[],[]⟩] [] 7=some (.rq (.cells 2 V0)
(.rq (.cells 4 V1)
(.call false 28 [(.ag V0),(.ag V1)]
(.rq (.tup 0 V2)
(.rq (.tup 1 V2)
(.rq (.int .i64 (.proj V2 1))
(.br (.io .neq (.proj V2 1) (.ki 0))
(.ret [(.k (.slice none 0 0)),(.proj V2 1)])
(.call false 29 [(.proj V2 0),(.cell V1 3 0 noI)]
(.ri V3
(.br (.io .gtr V3 (.ki 400))
(.ret [(.k (.slice none 0 0)),(.ki 3)])
(.loop [(.k (.slice none 0 0)),(.ki 0)]
(.ri V5
(.br (.io .lss V5 V3)
(.call false 30 [(.proj V2 0),(.cell V1 3 0 noI),V5]
(.ef false f7 11 6 [V6]
(.ef false f7 11 7 [V4,V7]
(.next 0 [V8,(.io .add V5 (.ki 1))]))))
(.ret [V4,(.ki 0)])))))))))))))):=by kernel_rfl
end Go.Proofs.YtlmgkkjgdapnpaaGreatDoor

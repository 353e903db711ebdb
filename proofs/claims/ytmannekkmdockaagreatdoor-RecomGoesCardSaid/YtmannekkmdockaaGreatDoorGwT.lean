/- Trees of functions. -/
import Derived.Test.YtmannekkmdockaaGreatDoorProg
import Derived.Test.YtmannekkmdockaaGreatDoorRxW
namespace Go.Proofs.Z
open Go.Proofs.Tryz
open Go.RowKit Go.RX
set_option maxRecDepth 100000
theorem d2F:tree prog [] [] [] [] 110=some (.pm f110 1 1 [V0]
(.pm f110 1 2 [V2]
(.pm f110 1 3 [V3]
(.ri V4
(.br (.io .neq V4 (.ki 0)) (.ret [(.ki 0)])
(.pm f110 3 1 [V0]
(.pm f110 3 2 [V5]
(.pm f110 3 3 [V6]
(.call false 180 [V7,V1]
(.rq (.tup 0 V8) (.rq (.tup 1 V8) (.rq (.tup 2 V8) (.rq (.cells 1 (.proj V8 1))
(.pm f110 4 4 [V0]
(.pm f110 4 5 [V9]
(.ef false f110 4 6 [V10,(.ag (.proj V8 1))]
(.pm f110 4 7 [V0]
(.pm f110 4 8 [V12]
(.ef false f110 4 9 [V13,(.proj V8 2)]
(.ret [(.proj V8 0)])))))))))))))))))))):=by kernel_rfl
theorem d2G:tree prog [] [] [] [⟨7,[0,1,0,4,12,28,60,3,255,511],[0,0,0,1,1,1,1,0,6,0],[0,0,0,0,0,0,0,0,1,0],[0,1,2,3,4,5,6,7],[8,9]⟩] 180=some (.rq (.cells 1 V0)
(.ri V1
(.br (.io .lss V1 (.ki 1)) (.ret [(.ki 0),(.z 63),(.ki 2)]) (.call false 221 [(.ag V0)]
(.call false 222 [V2,(.cv .u64 V1)]
(.rq (.tup 0 V3) (.rq (.tup 1 V3) (.rq (.int .i64 (.proj V3 1)) (.br (.io .neq (.proj V3 1) (.ki 0)) (.ret [(.ki 0),(.z 63),(.proj V3 1)]) (.rq (.int .u64 (.proj V3 0))
(.pm f180 7 3 [V2]
(.pm f180 7 4 [V4]
(.pm f180 7 5 [V5]
(.pm f180 7 6 [V6]
(.rq (.cells 1 V7) (.ret [(.cv .i64 (.proj V3 0)),(.ag V7),(.ki 0)])))))))))))))))):=by kernel_rfl
theorem d2H:tree prog [6] [] [] [] 221=some (.rq (.cells 1 V0) (.pub 305 (.ag V0) (.ret [V1]))):=by kernel_rfl
@[reducible] def KI:SV:= .uo .rem (.op1 .neg .u64 (.cell V1 0 0 noI)) (.cell V1 0 0 noI)
theorem d2I:tree prog [] [] [⟨4,5,[],[1,2]⟩] [] 222=some (.rq (.cells 1 V1)
(.pm f222 1 1 [V0]
(.pm f222 1 2 [V2]
(.ef false f222 1 3 [V3]
(.rq (.int .u64 (.cell V1 0 0 noI)) (.rq (.nz (.cell V1 0 0 noI)) (.call false 249 [V4]
(.rf V5 1 [(.z 54),(.z 43)]
(.ru V6
(.br (.uo .leq V6 (.uo .sub (.op1 .neg .u64 KI) (kU 1))) (.next 1 [(.uo .rem V6 (.cell V1 0 0 noI)),(.ki 0)]) (.br (.uo .eql KI (kU 0)) (.next 1 [(.uo .rem V6 (.cell V1 0 0 noI)),(.ki 0)]) (.next 0 [V7,V8])))) (.ret [(kU 0),(.ki 9)]) (.ret [(.cell V6 0 0 noI),(.cell V7 0 0 noI)]))))))))):=by kernel_rfl
theorem KJ:(opr f222 1 3).op= .makeFunc (.func 248) #[(.tmp 11)] #[]:=by kernel_rfl
@[reducible] def KL:SV:= .uo .mul (.uo .xor (.uo .mul (.uo .xor V12 (.uo .shr V12 (kU 30))) (kU 13787848793156543929)) (.uo .shr (.uo .mul (.uo .xor V12 (.uo .shr V12 (kU 30))) (kU 13787848793156543929)) (kU 27))) (kU 10723151780598845931)
theorem d2J:tree prog [] [] [] [] 248=some (.pm f248 1 1 [V0]
(.pm f248 1 2 [V1]
(.pm f248 1 3 [V2]
(.pm f248 1 4 [V3]
(.ru V4
(.pm f248 1 6 [V0]
(.pm f248 1 7 [V5]
(.pm f248 1 8 [V6]
(.ef false f248 1 9 [V7,(.uo .add V4 (kU 11400714819323198485))]
(.pm f248 2 1 [V0]
(.pm f248 2 2 [V9]
(.pm f248 2 3 [V10]
(.pm f248 2 4 [V11]
(.ru V12
(.ret [(.uo .xor KL (.uo .shr KL (kU 31)))]))))))))))))))):=by kernel_rfl
theorem d2K:tree prog [1] [] [] [] 249=some (.rq (.cells 1 V0) (.pub 286 V0
(.ef false f249 1 0 [V1]
(.ret [V2])))):=by kernel_rfl
theorem c7d:tree prog [] [] [⟨0,1,[],[]⟩] [] 268=some (.loop [(.ki 0)]
(.ri V2
(.br (.io .lss V2 (.ki 200))
(.pm f268 2 1 [V1]
(.ef false f268 2 2 [V3]
(.ef false f268 2 3 [V0,V4]
(.rq (.bool V5) (.br (.nt V5) (.ret []) (.next 0 [(.io .add V2 (.ki 1))])))))) (.ret [])))):=by kernel_rfl
theorem d2L:tree prog [] [] [⟨0,4,[],[]⟩] [⟨7,[0,0,2,7,15,0,0,64,224,480,1023,2047],[0,0,5,1,1,0,0,5,1,1,0,0],[0,0,0,0,0,0,0,0,0,0,0,0],[0,1,2,3,4,5,6,7,8,9,10,11],[]⟩,⟨10,[0,1,3,7,15,0,0,64,192,448,1023,2047,4095,4095,4095,0,40959,114687,262143],[0,1,1,1,1,0,0,1,1,1,2,0,0,0,0,3,0,4,0],[0,0,0,0,0,0,0,0,0,0,0,0,0,0,0,0,0,0,0],[0,1,2,3,4,5,6,7,8,9,10,11,12,13,14,15,16],[17,18]⟩,⟨15,[0,1,3,7,15,0,0,0,0,384,896,2047,4095,8191,8191,8191,16383,98303,262143],[0,1,1,1,1,0,0,0,0,1,1,2,0,0,0,0,0,0,0],[0,0,0,0,0,0,0,0,0,0,0,0,0,0,0,0,0,0,0],[0,1,2,3,4,5,6,7,8,9,10,11,12,13,14,15,16,17,18],[]⟩] 62=some (.ef false f62 1 1 [V0]
(.pm f62 2 1 [V0]
(.pm f62 2 2 [V3]
(.pm f62 2 3 [V4]
(.pm f62 2 4 [V5]
(.pm f62 2 5 [V6]
(.call false 111 [V7]
(.pm f62 2 7 [V8]
(.pm f62 3 1 [V9,(.ki 1)]
(.loop [(.k (.slice none 0 0)),(.ki 0)]
(.ri V12
(.ri V10
(.br (.io .lss V12 V10)
(.pm f62 5 1 [V0]
(.pm f62 5 2 [V13]
(.pm f62 5 3 [V14]
(.pm f62 5 4 [V15]
(.pm f62 5 5 [V16]
(.call false 111 [V17]
(.ef false f62 5 9 [V2,V9]
(.pm f62 5 10 [V18,V19]
(.pm f62 5 11 [V20]
(.rq (.cells 2 V21)
(.pm f62 6 2 [V0]
(.pm f62 6 3 [V22]
(.pm f62 6 4 [V23]
(.pm f62 6 5 [V24]
(.pm f62 6 6 [V25]
(.call false 25 [V1,V26]
(.rq (.tup 0 V27) (.rq (.tup 1 V27)
(.pm f62 7 3 [(.proj V27 0),(.cell V21 0 0 noI)]
(.pm f62 7 4 [V28]
(.pm f62 7 8 [(.proj V27 0),(.cell V21 1 0 noI)]
(.pm f62 7 9 [V30]
(.ru V29
(.ru V31
(.pm f62 8 1 [V0]
(.pm f62 8 2 [V32]
(.pm f62 8 3 [V33]
(.pm f62 8 4 [V34]
(.call false 112 [V35,(.uo .or V29 V31)]
(.rq (.tup 0 V36) (.rq (.tup 1 V36) (.rq (.bool (.proj V36 0)) (.br (.nt (.proj V36 0)) (.ret [V1])
(.pm f62 9 4 [V0]
(.pm f62 9 5 [V37]
(.pm f62 9 6 [V38]
(.ri V39
(.br (.io .neq V39 (.ki 0)) (.ret [V1])
(.pm f62 10 1 [V0]
(.pm f62 10 2 [V40]
(.pm f62 10 3 [V41]
(.pm f62 10 4 [V42]
(.pm f62 10 7 [V0]
(.pm f62 10 8 [V44]
(.pm f62 10 9 [V45]
(.call true 113 [V43,(.uo .or V29 V31),V46]
(.rq (.tup 0 V47) (.rq (.tup 1 V47) (.rq (.tup 2 V47) (.rq (.cells 1 (.proj V47 1))
(.pm f62 11 4 [V0]
(.pm f62 11 5 [V48]
(.ef false f62 11 6 [V49,(.ag (.proj V47 1))]
(.pm f62 11 7 [V0]
(.pm f62 11 8 [V51]
(.ef false f62 11 9 [V52,(.proj V47 2)]
(.pm f62 12 2 [V0]
(.pm f62 12 3 [V54]
(.pm f62 12 4 [V55]
(.pm f62 12 5 [V56]
(.pm f62 12 6 [V57]
(.ri V58
(.ef false f62 12 8 [V2,(.io .sub V58 (.ki 1))]
(.pm f62 13 1 [V0]
(.pm f62 13 2 [V60]
(.pm f62 13 3 [V61]
(.call false 84 [V62,(.uo .or V29 V31),(.proj V47 0)]
(.pm f62 14 2 [V63]
(.ri V59
(.ri V64
(.br (.io .geq V59 V64) (.ret [V1])
(.pm f62 14 6 [V0]
(.pm f62 14 7 [V65]
(.pm f62 14 8 [V66]
(.ri V67
(.br (.io .neq V67 (.ki 0)) (.ret [V1])
(.pm f62 15 1 [V0]
(.pm f62 15 2 [V68]
(.pm f62 15 3 [V69]
(.pm f62 15 4 [V70]
(.pm f62 15 9 [V63,V59]
(.pm f62 15 10 [V72]
(.call true 114 [V71,(.uo .or V29 V31),(.proj V47 0),V73]
(.rq (.tup 0 V74) (.rq (.tup 1 V74) (.rq (.tup 2 V74)
(.pm f62 16 2 [V0]
(.pm f62 16 3 [V75]
(.pm f62 16 4 [V76]
(.call false 115 [V77,(.proj V74 0),(.proj V74 1)]
(.ef false f62 16 8 [V2,V78]
(.ri V79
(.br (.io .eql V79 (.ki 0)) (.call false 116 [V1,(.cell V21 0 0 noI),(.cell V21 1 0 noI),(.proj V74 0)]
(.ret [V80])) (.next 0 [V11,(.io .add V12 (.ki 1))])))))))))))))))))))))))))))))))))))))))))))))))))))))))))))))))))))))))))))))))))))))))))))))) (.ret [V1])))))))))))))):=by kernel_rfl
end Go.Proofs.Z

/- Trees of functions. -/
import Derived.Test.YtmannekkmdockaaGreatDoorGrT
open Int renaming natCast_nonneg->mW
open List renaming filter_append->cT,filter_cons->bX,length_append->aJ,range->bL,range_succ->gQ
open Nat renaming le_succ_of_le->nH,lt_succ_iff_lt_or_eq->iR,zero_le->bI
namespace Go.Proofs.Z
open Go.Proofs.Tryz
open Go.RowKit Go.RX
set_option maxRecDepth 100000
theorem c3c:tree prog [] [] [⟨0,4,[],[]⟩] [⟨6,[0,0,3,7,0,0,48,112,255,511],[0,0,1,1,0,0,1,1,2,0],[0,0,0,0,0,0,0,0,0,0],[0,1,2,3,4,5,6,7,8,9],[]⟩] 14=some (.pm f14 1 1 [V0]
(.pm f14 1 3 [V1]
(.ri V2
(.ri V3
(.br (.io .neq V2 V3) (.ret [(.k (.bool false))]) (.loop [(.k (.bool false)),(.ki 0)]
(.pm f14 4 2 [V0]
(.ri V5
(.ri V6
(.br (.io .lss V5 V6)
(.pm f14 6 2 [V0,V5]
(.pm f14 6 3 [V7]
(.pm f14 6 6 [V1,V5]
(.pm f14 6 7 [V9]
(.call true 57 [V8,V10]
(.rq (.bool V11) (.br (.nt V11) (.ret [(.k (.bool false))]) (.next 0 [V4,(.io .add V5 (.ki 1))])))))))) (.ret [(.k (.bool true))]))))))))))):=by kernel_rfl
@[reducible] def z2_:SV:= .io .add (.proj V16 1) (.cv .i64 (.op2 .rem .u8 (.cell V0 8 0 noI) (kB 6)))
@[reducible] def z3_:SV:= .io .add (.ki 1) (.cv .i64 (.op2 .rem .u8 (.cell V0 6 0 noI) (kB 4)))
theorem c3d:tree prog [] [] [⟨2,35,[7],[4]⟩,⟨2,62,[10],[]⟩,⟨2,75,[12],[]⟩,⟨2,111,[17],[]⟩,⟨0,14,[],[]⟩,⟨0,24,[],[5]⟩] [⟨31,[0,0,2,6,14,30,63,127,0,0,512,1536,3584,7680,16128,255,33023,131071,262143],[0,0,0,5,0,0,0,1,0,0,0,5,0,0,0,0,6,0,6],[0,0,0,0,0,0,0,0,0,0,0,0,0,0,0,0,5,0,5],[0,1,2,3,4,5,6,7,8,9,10,11,12,13,14,15],[16,17,18]⟩,⟨32,[0,0,0,1,11,31],[5,5,0,6,6,0],[4,5,0,1,2,0],[0,1,2],[3,4,5]⟩] 8=some (.rq (.cells 10 V0) (.rq (.int .u8 (.cell (.sub V0 0 4 0 noI) 0 0 noI)) (.call false 39 [(.cat (.op2 .rem .u8 (.cell (.sub V0 0 4 0 noI) 0 0 noI) (kB 3)) 1 (.sub (.sub V0 0 4 0 noI) 1 3 0 noI))]
(.rq (.cells 2 V1) (.call false 40 [(.cell V1 0 0 noI)]
(.ru V2
(.call false 41 [(.ag V1),(.uo .sub V2 (kU 1))]
(.rq (.bool V3) (.join 2
(.br (.nt V3)
(.ef false f8 6 4 [(.put (.put (.z 99) 0 1 (.ki 0) 0 noI) 1 1 (.ki 1) 0 noI),(.put (.put (.z 99) 0 1 (.ki 0) 0 noI) 1 1 (.ki 2) 0 noI),(.put (.put (.z 99) 0 1 (.ki 1) 0 noI) 1 1 (.ki 3) 0 noI),(.put (.put (.z 99) 0 1 (.ki 2) 0 noI) 1 1 (.ki 3) 0 noI)]
(.rq (.cells 1 V4) (.next 0 [(kU 15),(.cat (.ki 4) 1 V4)]))) (.next 0 [(.uo .sub V2 (kU 1)),V1])) (.call false 42 [(.ag V5),V4]
(.rq (.int .u8 (.cell V0 9 0 noI))
(.pm f8 9 5 [V6]
(.ri V7
(.rq (.nz V7)
(.pm f8 9 7 [V6,(.io .rem (.cv .i64 (.cell V0 9 0 noI)) V7)]
(.pm f8 9 8 [V8]
(.rq (.int .u8 (.cell V0 6 0 noI)) (.rq (.int .i64 (.cell V5 0 0 noI)) (.join 1
(.br (.io .gtr z3_ (.cell V5 0 0 noI)) (.next 0 [(.cell V5 0 0 noI)]) (.next 0 [z3_])) (.loop [V9,(.ki 0)]
(.ri V10
(.ri V12
(.br (.io .lss V12 (.io .sub V10 (.ki 1)))
(.pm f8 17 3 [(.cell V0 5 0 noI)]
(.ri V13
(.join 1
(.br (.io .lss V12 V13)
(.pm f8 18 3 [(.cell V0 5 0 noI),V12]
(.pm f8 18 4 [V14]
(.rq (.int .u8 V15)
(.pm f8 18 7 [V11]
(.ri V16
(.rq (.nz V16) (.next 1 [(.io .rem (.cv .i64 V15) V16)]))))))) (.next 1 [(.ki 0)]))
(.ef false f8 19 0 []
(.pm f8 19 3 [V11,V14]
(.ef false f8 19 4 [V15,V16]
(.ri V14
(.pm f8 20 4 [V11,(.io .add V14 (.ki 1))]
(.ef false f8 20 5 [V17,V18]
(.next 0 [V19,(.io .add V12 (.ki 1))])))))))))) (.call false 43 [(.ag V5),V11]
(.rq (.cells 1 V10) (.loop [(.ki 0),(.cat (.z 32) 1 (.cat (.z 3) 1 (.cat (.z 3) 1 V10)))]
(.ri V14
(.br (.io .lss V14 (.cell V5 0 0 noI))
(.pm f8 27 3 [(.cell V0 4 0 noI)]
(.ri V16
(.join 1
(.br (.io .lss V14 V16)
(.pm f8 28 3 [(.cell V0 4 0 noI),V14]
(.pm f8 28 4 [V17]
(.rq (.int .u8 V18) (.next 2 [(.cv .i64 (.op2 .rem .u8 V18 (kB 10)))])))) (.next 2 [(.ki 1)]))
(.ef false f8 29 3 [V17]
(.ef false f8 29 4 [(.cell V15 0 0 noI),V18]
(.rq (.cells 1 V19) (.next 1 [(.io .add V14 (.ki 1)),(.cat V19 1 (.sub V15 1 3 0 noI))]))))))) (.call false 44 [(.ag V15),V13]
(.rq (.tup 0 V16) (.rq (.tup 1 V16) (.rq (.int .u8 (.cell V0 7 0 noI)) (.rq (.int .i64 (.proj V16 0))
(.pm f8 31 7 [(.ki 0),(.io .sub (.proj V16 0) (.cv .i64 (.op2 .rem .u8 (.cell V0 7 0 noI) (kB 6))))]
(.rq (.int .u8 (.cell V0 8 0 noI)) (.rq (.int .i64 (.proj V16 1)) (.rq (.cells 1 V17) (.rq (.cells 4 (.cat (.sub V15 0 1 0 noI) 1 (.cat V17 1 (.cat z2_ 1 (.sub (.sub V15 2 2 0 noI) 1 1 0 noI))))) (.ret [(.ag V5),(.cat (.sub V15 0 1 0 noI) 1 (.cat V17 1 (.cat z2_ 1 (.sub (.sub V15 2 2 0 noI) 1 1 0 noI)))),V13]))))))))))))))))))))))))))))))))))))))):=by kernel_rfl
theorem a9w:(opr f8 19 3).op= .slice 32 (.tmp 86) none (some (.tmp 87)) none:=by kernel_rfl
theorem a9x:(opr f8 20 4).op= .slice 32 (.tmp 91) (some (.tmp 93)) none none:=by kernel_rfl
theorem c3e:tree prog [] [] [⟨0,3,[],[]⟩,⟨0,8,[],[0]⟩,⟨0,13,[],[]⟩] [⟨15,[0,1,0,0,0,16,56,124,252,511,1023,0,4095],[0,5,0,0,0,1,0,1,1,1,1,3,4],[0,0,0,0,0,0,0,0,0,0,0,0,0],[0,1,2,3,4,5,6,7,8,9,10,11],[12]⟩,⟨17,[0,0,2,0,0,16,0,0,71,327,1023,2047],[0,0,5,0,0,5,0,0,1,8,7,8],[0,0,1,0,0,1,0,0,0,0,0,0],[0,1,2,3,4,5,6,7,8],[9,10,11]⟩] 43=some (.rq (.cells 2 V0)
(.ef false f43 1 2 [(.cell V0 0 0 noI),(.cell V0 0 0 noI)]
(.loop [(.ki 0)]
(.ri V3
(.rq (.int .i64 (.cell V0 0 0 noI)) (.br (.io .lss V3 (.cell V0 0 0 noI))
(.pm f43 5 2 [V2,V3]
(.ef false f43 5 3 [V4,(kI (-1))]
(.next 0 [(.io .add V3 (.ki 1))]))) (.loop [(.ki 0),(.ki 0),V0]
(.ri V5
(.rq (.int .i64 (.cell V6 0 0 noI)) (.br (.io .lss V5 (.cell V6 0 0 noI))
(.pm f43 10 2 [V2,V5]
(.pm f43 10 3 [V7]
(.ri V8
(.br (.io .geq V8 (.ki 0)) (.next 1 [V4,(.io .add V5 (.ki 1)),V6])
(.pm f43 11 3 [V2,V5]
(.ef false f43 11 4 [V9,V4]
(.loop [(.ki 0)]
(.pm f43 13 2 [V1]
(.pm f43 13 4 [V1]
(.ri V12
(.ri V13
(.ri V11
(.br (.io .lss V11 (.io .mul V12 V13))
(.pm f43 15 5 [V1]
(.ri V14
(.rq (.nz V14)
(.pm f43 15 7 [V1,(.io .rem V11 V14)]
(.pm f43 15 8 [V15]
(.pm f43 15 9 [(.cell V6 1 0 noI),V16]
(.pm f43 15 10 [V17]
(.rq (.cells 2 V18)
(.pm f43 16 3 [V2,(.cell V18 0 0 noI)]
(.pm f43 16 4 [V19]
(.ri V20
(.ri V4
(.br (.io .eql V20 V4)
(.pm f43 17 8 [V2,(.cell V18 0 0 noI)]
(.ef false f43 17 9 [V21,V4]
(.pm f43 17 10 [V2,(.cell V18 1 0 noI)]
(.ef false f43 17 11 [V23,V4]
(.next 2 [(.io .add V11 (.ki 1))])))))
(.pm f43 16 11 [V2,(.cell V18 1 0 noI)]
(.pm f43 16 12 [V21]
(.ri V22
(.br (.io .eql V22 V4)
(.pm f43 17 8 [V2,(.cell V18 0 0 noI)]
(.ef false f43 17 9 [V23,V4]
(.pm f43 17 10 [V2,(.cell V18 1 0 noI)]
(.ef false f43 17 11 [V25,V4]
(.next 2 [(.io .add V11 (.ki 1))]))))) (.next 2 [(.io .add V11 (.ki 1))]))))))))))))))))))
(.ri V4
(.next 1 [(.io .add V4 (.ki 1)),(.io .add V5 (.ki 1)),V6]))))))))))))))) (.ret [V2]))))))))))):=by kernel_rfl
theorem c3f:tree prog [] [] [⟨0,3,[],[1]⟩,⟨0,8,[],[]⟩] [⟨5,[0,0,3,7,0,0,48,112,240,496,0,1024,0,7168,15360,32752,65535,131071],[0,0,1,1,0,0,1,1,0,5,0,5,0,1,1,0,0,6],[0,0,0,0,0,0,0,0,0,1,0,0,0,0,0,0,0,1],[0,1,2,3,4,5,6,7,8,9,10,11,12,13,14,15,16],[17]⟩,⟨6,[0,1,0,4,3,31],[0,5,0,5,0,0],[0,1,0,1,0,0],[0,1,2,3,4,5],[]⟩,⟨10,[0,0,2,6,15,0,0,64,192,480,31,2047],[0,0,0,5,1,0,0,0,5,1,0,0],[0,0,0,1,0,0,0,0,1,0,0,0],[0,1,2,3,4,5,6,7,8,9,10,11],[]⟩] 44=some (.rq (.cells 4 V0) (.loop [(.ki 0),(.z 167)]
(.pm f44 3 2 [V1]
(.ri V2
(.ri V4
(.br (.io .lss V2 V4)
(.pm f44 5 2 [V1,V2]
(.pm f44 5 3 [V5]
(.pm f44 5 6 [V1,V2]
(.pm f44 5 7 [V7]
(.rq (.num V8) (.rq (.lt 8 V8)
(.pm f44 5 13 [(.cell V0 0 0 noI),V2]
(.pm f44 5 14 [V9]
(.rq (.int .i64 (.cell V3 0 1 V8))
(.ri V10
(.rq (.num V6) (.rq (.lt 8 V6) (.next 0 [(.io .add V2 (.ki 1)),(.put V3 0 1 (.io .add (.cell V3 0 1 V8) V10) 1 V6)]))))))))))))) (.loop [(.cell V3 0 0 noI),(.cell V3 0 0 noI),(.ki 1)]
(.ri V7
(.rq (.int .i64 (.cell V0 3 0 noI)) (.br (.io .lss V7 (.cell V0 3 0 noI)) (.rq (.num V7) (.rq (.lt 8 V7)
(.pm f44 10 4 [V5,(.cell V3 0 1 V7)]
(.pm f44 10 9 [V6,(.cell V3 0 1 V7)]
(.next 1 [V8,V9,(.io .add V7 (.ki 1))]))))) (.ret [V5,V6]))))))))))):=by kernel_rfl
theorem d3W:tree prog [] [] [] [] 35=some (.ef false f35 1 3 [(.put (.put (.z 99) 0 1 (.ki 0) 0 noI) 1 1 (.ki 1) 0 noI),(.put (.put (.z 99) 0 1 (.ki 1) 0 noI) 1 1 (.ki 2) 0 noI),(.put (.put (.z 99) 0 1 (.ki 2) 0 noI) 1 1 (.ki 3) 0 noI)]
(.rq (.cells 1 V1)
(.ef false f35 1 5 [(.ki 1),(.ki 1),(.ki 1),(.ki 1)]
(.rq (.cells 1 V2) (.rq (.cells 1 V0) (.rq (.cells 4 (.put (.cat (.sub (.put (.cat V2 1 (.cat (.z 3) 1 (.cat (.z 3) 1 (.z 3)))) 1 1 V0 0 noI) 0 2 0 noI) 2 (.cat (.ki 3) 1 (.sub (.put (.cat V2 1 (.cat (.z 3) 1 (.cat (.z 3) 1 (.z 3)))) 1 1 V0 0 noI) 3 1 0 noI))) 3 1 (.ki 2) 0 noI)) (.ret [(.cat (.ki 4) 1 V1),(.put (.cat (.sub (.put (.cat V2 1 (.cat (.z 3) 1 (.cat (.z 3) 1 (.z 3)))) 1 1 V0 0 noI) 0 2 0 noI) 2 (.cat (.ki 3) 1 (.sub (.put (.cat V2 1 (.cat (.z 3) 1 (.cat (.z 3) 1 (.z 3)))) 1 1 V0 0 noI) 3 1 0 noI))) 3 1 (.ki 2) 0 noI)]))))))):=by kernel_rfl
theorem d3X:tree prog [] [] [] [] 24=some (.rq (.cells 2 V0) (.rq (.cells 4 V1) (.call false 36 [(.ag V0),(.ag V1),V2]
(.rq (.tup 0 V3) (.rq (.tup 1 V3) (.rq (.bool (.proj V3 0)) (.br (.proj V3 0) (.rq (.int .i64 (.proj V3 1)) (.ret [(.io .eql (.proj V3 1) (.ki 0))])) (.ret [(.k (.bool false))])))))))):=by kernel_rfl
theorem d9Z:tree prog [] [] [] [] 32=some (.call false 79 [V0,V1]
(.rq (.tup 0 V2) (.rq (.tup 1 V2) (.rq (.cells 16 (.proj V2 0)) (.ret [(.ag (.proj V2 0))]))))):=by kernel_rfl
theorem d3Y:tree prog [147,148,149,150,158] [] [] [⟨17,[0,1,3,7,7,7,7,119,255,511,1023,2047,2047,2047,2047,30719,65535,131071,262143,524287,524287,2097151,4194303,8388607,16777215,33554431,67108863,134217727,268435455,268435455,1073741823,2147483647,4294967295,8589934591,17179869183,34359738367,68719476735,137438953471,274877906943,549755813887,1099511627775,2199023255551,4398046511103,8796093022207,17592186044415],[0,0,0,0,3,3,3,3,2,0,0,0,5,5,5,3,2,0,0,5,5,1,0,0,0,0,0,0,5,2,1,0,0,0,0,0,0,0,0,0,0,0,0,0,0],[0,0,0,0,0,0,0,0,0,0,0,0,4,4,4,0,0,0,0,5,4,0,0,0,0,0,0,0,6,0,0,0,0,0,0,0,0,0,0,0,0,0,0,0,0],[0,1,2,3,4,5,6,7,8,9,10,11,12,13,14,15,16,17,18,19,20,21,22,23,24,25,26,27,28,29,30,31,32,33,34,35,36,37,38,39,40,41,42,43,44],[]⟩] 7=some (.call false 35 [(.ki 1)]
(.rq (.tup 0 V0) (.rq (.tup 1 V0) (.rq (.cells 2 (.proj V0 0)) (.rq (.cells 4 (.proj V0 1)) (.call false 35 [(.ki 2)]
(.rq (.tup 0 V1) (.rq (.tup 1 V1) (.rq (.cells 2 (.proj V1 0)) (.rq (.cells 4 (.proj V1 1))
(.ef false f7 3 0 [(.ki 0),(.ki 0),(.ki 1),(.ki 1)]
(.ef false f7 4 2 [(.ki 0),(.ki 1),(.ki 0),(.ki 1)]
(.call false 36 [(.ag (.proj V0 0)),(.ag (.proj V0 1)),V3]
(.rq (.tup 0 V4) (.rq (.tup 1 V4)
(.ef false f7 5 2 [(.ki 0),(.ki 0),(.ki 0),(.ki 0)]
(.call false 36 [(.ag (.proj V0 0)),(.ag (.proj V0 1)),V5]
(.rq (.tup 0 V6) (.rq (.tup 1 V6)
(.ef false f7 6 2 [(.ki 0),(.ki 1),(.ki 2)]
(.call false 37 [(.ag (.proj V0 0)),(.ag (.proj V0 1)),(kU 15),V7]
(.rq (.tup 0 V8) (.rq (.tup 1 V8)
(.ef false f7 7 2 [(.ki 0),(.ki 1),(.ki 2)]
(.call false 37 [(.ag (.proj V0 0)),(.ag (.proj V1 1)),(kU 15),V9]
(.rq (.tup 0 V10) (.rq (.tup 1 V10) (.call false 24 [(.ag (.proj V0 0)),(.ag (.proj V0 1)),V2]
(.rq (.bool V11) (.br (.nt V11) (.ret [(.k (.bool false))]) (.rq (.bool (.proj V4 0)) (.br (.proj V4 0) (.ret [(.k (.bool false))]) (.rq (.int .i64 (.proj V4 1)) (.br (.io .neq (.proj V4 1) (.ki 0)) (.ret [(.k (.bool false))]) (.rq (.bool (.proj V6 0)) (.br (.proj V6 0) (.ret [(.k (.bool false))]) (.rq (.int .i64 (.proj V6 1)) (.br (.io .neq (.proj V6 1) (.ki 0)) (.ret [(.k (.bool false))])
(.ef false f7 8 21 [(.ki 0),(.ki 1),(.ki 2)]
(.call false 38 [(.proj V8 0),V12]
(.rq (.bool V13) (.br (.nt V13) (.ret [(.k (.bool false))]) (.rq (.int .i64 (.proj V8 1)) (.br (.io .neq (.proj V8 1) (.ki 0)) (.ret [(.k (.bool false))])
(.ef false f7 8 31 [(.ki 1)]
(.call false 38 [(.proj V10 0),V14]
(.rq (.bool V15) (.br (.nt V15) (.ret [(.k (.bool false))]) (.rq (.int .i64 (.proj V10 1)) (.br (.io .neq (.proj V10 1) (.ki 0)) (.ret [(.k (.bool false))]) (.call false 12 [(.ag (.proj V0 0)),(.ag (.proj V0 1)),V2]
(.rq (.tup 0 V16) (.rq (.tup 1 V16) (.rq (.tup 2 V16) (.call false 32 [(.ki 1),(.ki 3)]
(.rq (.cells 16 V17)
(.ef false f7 12 3 [(.ki 1),(.ki 1),(.ki 1),(.ki 0)]
(.call false 16 [(.ag (.proj V0 0)),(.ag (.proj V0 1)),V2,V18]
(.rq (.tup 0 V19) (.rq (.tup 1 V19) (.rq (.cells 16 (.proj V19 0)) (.call false 16 [(.ag (.proj V0 0)),(.ag (.proj V1 1)),V2,V2]
(.rq (.tup 0 V20) (.rq (.tup 1 V20) (.rq (.cells 16 (.proj V20 0))
(.ef false f7 14 2 [(.ki 0),(.ki 1),(.ki 0),(.ki 1)]
(.call false 19 [(.ag (.proj V0 0)),(.ag (.proj V0 1)),V21,(.z 63)]
(.rq (.tup 0 V22) (.rq (.tup 1 V22) (.rq (.tup 2 V22) (.rq (.tup 3 V22)
(.ef false f7 15 0 [(.ki 13),(.ki 13)]
(.rq (.cells 1 V23) (.call false 12 [(.cat (.ki 13) 1 (.z 35)),(.put (.cat V23 1 (.cat (.z 3) 1 (.cat (.z 3) 1 (.z 3)))) 3 1 (.ki 1) 0 noI),(.k (.slice none 0 0))]
(.rq (.tup 0 V24) (.rq (.tup 1 V24) (.rq (.tup 2 V24) (.rq (.int .i64 (.proj V16 2)) (.br (.io .eql (.proj V16 2) (.ki 0))
(.mq f7 17 4 [(.ki 0),(.ki 0),(.ki 0),(.ki 1)]
(.mq f7 17 5 [(.ki 0),(.ki 0),(.ki 1),(.ki 1)]
(.mq f7 17 6 [(.ki 0),(.ki 1),(.ki 1),(.ki 1)]
(.mq f7 17 7 [V25,V26,V27]
(.call true 14 [(.proj V16 0),V28]
(.rq (.bool V29) (.br V29
(.mq f7 17 15 [(.ag V17),(.ag V17),(.ag V17)]
(.call true 15 [(.proj V16 1),V30]
(.rq (.bool V31) (.br V31
(.pm f7 17 21 [(.ag (.proj V19 0)),(.ag V17)]
(.rq (.bool V32) (.br V32
(.rq (.int .i64 (.proj V19 1)) (.br (.io .eql (.proj V19 1) (.ki 0)) (.call true 32 [(.ki 1),(.ki 1)]
(.pm f7 17 30 [(.ag (.proj V20 0)),V33]
(.rq (.bool V34) (.br V34
(.rq (.int .i64 (.proj V20 1)) (.br (.io .eql (.proj V20 1) (.ki 0)) (.rq (.int .i64 (.proj V22 3)) (.br (.io .eql (.proj V22 3) (.ki 8)) (.rq (.int .i64 (.proj V24 2)) (.ret [(.io .eql (.proj V24 2) (.ki 3))])) (.ret [(.k (.bool false))]))) (.ret [(.k (.bool false))]))) (.ret [(.k (.bool false))]))))) (.ret [(.k (.bool false))]))) (.ret [(.k (.bool false))])))) (.ret [(.k (.bool false))]))))) (.ret [(.k (.bool false))])))))))) (.ret [(.k (.bool false))])))))))))))))))))))))))))))))))))))))))))))))))))))))))))))))))))))))))))))))))):=by kernel_rfl
end Go.Proofs.Z
/- Chapter 32: the reference of graphs and plans. -/
namespace Go.Proofs.Z
open Go.Proofs.Tryz
open Go.RowKit Go.RX Go.GS
section
variable {G:Value->PH->Prop} {nx:List (List Value->PH->Prop)} {ρ:List Value} {H:PH} {o1 o2 o3:Oper} {x y x2 x3:Operand} {id i id2 i2 id3 i3:Nat} {args args2 args3:List SV} {t:Tree} {v:Value} {k:IntKind} {j:Nat} {es:List (Nat×Nat)} {e:Nat×Nat}
theorem ME {m:Nat} {c:Value} (hm:m<2) (hc:(ec e)[m]? =some c) (tZ:o1.op= .indexAddr 35 x y) (uA:o2.op= .indexAddr 99 x2 (.const (.int .i64 (m:Nat)))) (ho3:o3.op= .load 3 x3) (hx:g9 [x,y] [v,.int k (j:Nat)] x=v) (hy:g9 [x,y] [v,.int k (j:Nat)] y= .int k (j:Nat))
  (rR:∀p,g9 [x2,.const (.int .i64 (m:Nat))] [p,.int .i64 (m:Nat)] x2=p) (wH:∀p,g9 [x2,.const (.int .i64 (m:Nat))] [p,.int .i64 (m:Nat)] (.const (.int .i64 (m:Nat)))= .int .i64 (m:Nat)) (yL:∀p,g9 [x3] [p] x3=p) (h:SG H v es) (hj:es[j]? =some e) (ha:args.map (D prog ρ)=[v,.int k (j:Nat)]) (rX:∀p,args2.map (D prog (ρ++[p]))=[p,.int .i64 (m:Nat)]) (zF:∀p p',args3.map (D prog (ρ++[p]++[p']))=[p'])
  (n:∀p p',den prog G t nx (ρ++[p]++[p']++[c]) H):den prog G (.prim id i o1 args (.prim id2 i2 o2 args2 (.prim id3 i3 o3 args3 t))) nx ρ H:=by
 refine vu el_edge tZ hx hy h hj ha fun p hp=> ?_;obtain⟨b,q,cs,T',fz,rfl,h2,h3,h4⟩:=hp;have hl:(ec e).length=2:=rfl;have hi:=(fh (P:=prog) (len:=2) (e:=3) (b:=b) (q:=q) uA (rR _) (wH _) ar_2.und sc_int.has (by omega) (by omega)).rds H;rw[sc_int.cel,Int.toNat_natCast,Nat.mul_one]at hi;refine r7 hi (rX _) ?_;refine w9 sc_int ho3 (yL _) h2 ?_ (zF _ _) (n _ _);rw[<-Array.getElem?_toList];rw[<-h4,List.getElem?_take_of_lt (by rw[hl];exact hm),List.getElem?_drop]at hc;exact hc
theorem Vt (tZ:o1.op= .indexAddr 35 x y) (uA:o2.op= .indexAddr 99 x2 (.const (.int .i64 0))) (ho3:o3.op= .load 3 x3) (hx:g9 [x,y] [v,.int k (j:Nat)] x=v) (hy:g9 [x,y] [v,.int k (j:Nat)] y= .int k (j:Nat))
  (rR:∀p,g9 [x2,.const (.int .i64 0)] [p,.int .i64 0] x2=p) (wH:∀p,g9 [x2,.const (.int .i64 0)] [p,.int .i64 0] (.const (.int .i64 0))= .int .i64 0) (yL:∀p,g9 [x3] [p] x3=p) (h:SG H v es) (hj:es[j]? =some e) (ha:args.map (D prog ρ)=[v,.int k (j:Nat)]) (rX:∀p,args2.map (D prog (ρ++[p]))=[p,.int .i64 0]) (zF:∀p p',args3.map (D prog (ρ++[p]++[p']))=[p'])
  (n:∀p p',den prog G t nx (ρ++[p]++[p']++[ii (e.1:Nat)]) H):den prog G (.prim id i o1 args (.prim id2 i2 o2 args2 (.prim id3 i3 o3 args3 t))) nx ρ H:=
 ME (m:=0) (by decide) rfl tZ uA ho3 hx hy rR wH yL h hj ha rX zF n
theorem Vu (tZ:o1.op= .indexAddr 35 x y) (uA:o2.op= .indexAddr 99 x2 (.const (.int .i64 1))) (ho3:o3.op= .load 3 x3) (hx:g9 [x,y] [v,.int k (j:Nat)] x=v) (hy:g9 [x,y] [v,.int k (j:Nat)] y= .int k (j:Nat))
  (rR:∀p,g9 [x2,.const (.int .i64 1)] [p,.int .i64 1] x2=p) (wH:∀p,g9 [x2,.const (.int .i64 1)] [p,.int .i64 1] (.const (.int .i64 1))= .int .i64 1) (yL:∀p,g9 [x3] [p] x3=p) (h:SG H v es) (hj:es[j]? =some e) (ha:args.map (D prog ρ)=[v,.int k (j:Nat)]) (rX:∀p,args2.map (D prog (ρ++[p]))=[p,.int .i64 1]) (zF:∀p p',args3.map (D prog (ρ++[p]++[p']))=[p'])
  (n:∀p p',den prog G t nx (ρ++[p]++[p']++[ii (e.2:Nat)]) H):den prog G (.prim id i o1 args (.prim id2 i2 o2 args2 (.prim id3 i3 o3 args3 t))) nx ρ H:=
 ME (m:=1) (by decide) rfl tZ uA ho3 hx hy rR wH yL h hj ha rX zF n
end
theorem Ic {s n:Nat} (hs:s<M64) (hn:n<=64):Det prog 139 [uv s,ii (n:Nat)] (.bool (bit s n)):=by
 have e:=gy (P:=prog) (ρ:=[uv s,ii (n:Nat)]) (a:= .v 1) (n:=n) rfl (Nat.lt_of_le_of_lt hn (by decide));refine Fv mixed c2Q (by kernel_rfl) rfl (j6 ⟨_,rfl⟩ (j6 ⟨_,rfl⟩ (j6 ?_ (Cf ?_ rfl))))
 ·show 0<=intOf (D prog [uv s,ii (n:Nat)] (.cv .u64 (.v 1)));rw[e];exact mW n
 ·exact Rm rfl hs e hn
theorem Jc {n:Nat} (hn:n<64):Det prog 40 [ii (n:Nat)] (uv (2^n)):=by
 have e:=gy (P:=prog) (ρ:=[ii (n:Nat)]) (a:= .v 0) (n:=n) rfl (Nat.lt_trans hn (by decide));refine Fv mixed c2R (by kernel_rfl) rfl (j6 ⟨_,rfl⟩ (j6 ?_ (Cf ?_ rfl)))
 ·show 0<=intOf (D prog [ii (n:Nat)] (.cv .u64 (.v 0)));rw[e];exact mW n
 ·exact Ez e hn
section
variable {H:PH} {u v w wts:Value} {p wl:List Int} {n:Nat} {es:List (Nat×Nat)} {lo hi ds:Int} {set x:Nat}
theorem b9n (hs:set<M64):Asks prog 141 [uv set] H (ii (card set)):=by
 refine j3 mixed c2S ?_;refine Dq (α:=Nat) (fun i=>[ii ((((bL i).filter (bit set)).length:Nat)),ii (i:Nat)]) (fun i=>i<=64) (fun i=>64-i) (0) rfl (bI _) fun i hQ=> ?_;refine d4 ?_;refine i0 (b:=decide (((i:Nat):Int)<64)) rfl (fun h=> ?_) (fun h=> ?_)
 ·replace h:=oDt h;refine Am (Ic hs (by omega)) rfl ?_;have pP:=List.length_filter_le (bit set) (bL i);rw[List.length_range]at pP;refine d4 ?_;refine i0 (b:=bit set i) rfl (fun h2=> ?_) (fun h2=> ?_)
  ·skip
   refine d4 ?_;exact⟨i+1,by omega,(j4 (by rw[i9 rfl (by omega),gQ,cT,aJ,bX,if_pos h2];rfl) (i9 rfl (by omega))),⟨by omega,rfl⟩⟩
  ·skip
   exact⟨i+1,by omega,(j4 (by rw[gQ,cT,aJ,bX,if_neg (by simp[h2])];rfl) (i9 rfl (by omega))),⟨by omega,rfl⟩⟩
 ·replace h:=oDf h;have he:i=64:=by omega
  subst he;exact g8 rfl ⟨rfl,rfl⟩
end
end Go.Proofs.Z
/- Chapter 32: the reference of graphs and plans, part 2. -/
namespace Go.GS
theorem yn (set:Nat) (L:List (Nat×Nat)) (e:Nat×Nat) (s:Nat):rnd set (L++[e]) s=rst set (rnd set L s) e:=by
 unfold rnd;rw[List.foldl_append];rfl
theorem MF {set s:Nat} {e:Nat×Nat} (h1:bit set e.1=true) (h2:bit set e.2=true) (h3:bit s e.1=true\/bit s e.2=true):rst set s e=s|||2^e.1|||2^e.2:=by
 unfold rst;rw[if_pos (by rcases h3 with h3|h3<;>simp[h1,h2,h3])]
theorem yo {set s:Nat} {e:Nat×Nat} (h:bit set e.1=false\/bit set e.2=false\/(bit s e.1=false/\bit s e.2=false)):rst set s e=s:=by
 unfold rst;rw[if_neg];rcases h with h|h|h<;>simp[h]
theorem GV.e64 {n:Nat} {es:List (Nat×Nat)} (h:GV n es):∀e∈es,e.1<64/\e.2<64:=fun e he=>by
 have:=h.ed e he;have:=h.n64;omega
theorem d7t {n:Nat} {es:List (Nat×Nat)} (h:GV n es) {set x:Nat} (hx:bit set x=true) (qK:x<64):CL es set x (Ai set es es.length (2^x)):=
 Zq hx (Jz h.e64 (An qK) _).1 (ye _ _ _)
theorem e0a {s n:Nat} (hs:s<2^n) (hn:n<=64):(bL n).filter (bit s)=els s:=by
 unfold els;have h1:(64:Nat)=n+(64-n):=by omega
 rw[h1,List.range_add,cT];have:((bL (64-n)).map (n+ ·)).filter (bit s)=[]:=by
  rw[List.filter_eq_nil_iff];intro a ha;rw[List.mem_map]at ha;obtain⟨b,_,rfl⟩:=ha;have:=Nat.testBit_lt_two_pow (Nat.lt_of_lt_of_le hs (Nat.pow_le_pow_right (n:=2) (by decide) (Nat.le_add_right n b)));unfold bit;rw[this];simp
 rw[this,List.append_nil]
end Go.GS
namespace Go.Proofs.Z
open Go.Proofs.Tryz
open Go.RowKit Go.RX Go.GS
section
variable {H:PH} {u v w wts:Value} {p wl:List Int} {n:Nat} {es:List (Nat×Nat)} {lo hi ds:Int} {set x:Nat}
theorem b9o (hw:SG H w es) (hg:GV n es) (hs:set<M64) (hx:x<64):Asks prog 140 [gv n w,uv set,ii (x:Nat),ii (-1)] H (uv (Ai set es es.length (2^x))):=by
 refine j3 mixed c2T ?_;have qK:=hg.n64;have zI:=hg.len;refine d9 (Ap hw) ?_;refine Am (Jc hx) rfl ?_;simp only[cA,nA];refine j7 el_edge hw ?_;refine Dq (α:=Nat) (fun r=>[uv (Ai set es r (2^x)),ii (r:Nat)]) (fun r=>r<=es.length) (fun r=>es.length-r) (0) rfl (bI _) fun r hQ=> ?_;simp only[cA,nA];refine d4 (d4 ?_);refine i0 (b:=decide (((r:Nat):Int)<(es.length:Nat))) rfl (fun h=> ?_) (fun h=> ?_)
 ·replace h:=oDt h;have hS:=(Jz (set:=set) hg.e64 (An hx) r).1;generalize hSe:Ai set es r (2^x)=S at hS;refine Dq (α:=Nat) (fun j=>[uv (rnd set (es.take j) S),ii (j:Nat)]) (fun j=>j<=es.length) (fun j=>es.length-j) (0) rfl (bI _) fun j wI=> ?_;simp only[cA,nA];refine j7 el_edge hw ?_;refine d4 (d4 ?_);refine i0 (b:=decide (((j:Nat):Int)<(es.length:Nat))) rfl (fun h2=> ?_) (fun h2=> ?_)
  ·replace h2:=oDt h2;have rG:j<es.length:=by omega
   obtain⟨e,he,hde⟩:=t7 rG;obtain⟨he1,he2⟩:=hg.mem he;have hR:=Zp (set:=set) (L:=es.take j) (fun a ha=>hg.e64 a (List.mem_of_mem_take ha)) hS;have qA:rnd set (es.take (j+1)) S=rst set (rnd set (es.take j) S) e:=by rw[take_snoc he,yn]
   generalize rnd set (es.take j) S=R at hR qA;refine Vt rfl rfl rfl rfl rfl (fun _=>rfl) (fun _=>rfl) (fun _=>rfl) hw he rfl (fun _=>rfl) (fun _ _=>rfl) fun _ _=> ?_;simp only[cA,nA];refine Vu rfl rfl rfl rfl rfl (fun _=>rfl) (fun _=>rfl) (fun _=>rfl) hw he rfl (fun _=>rfl) (fun _ _=>rfl) fun _ _=> ?_;simp only[cA,nA];refine d4 ?_;refine Gn (by show Value.bool (((j:Nat):Int) != -1)=_;exact(bN _ _).trans (congrArg Value.bool (oDd (by omega)))) ?_;refine Am (Ic hs (by omega)) rfl ?_;simp only[cA,nA];refine d4 ?_;refine i0 (b:=bit set e.1) rfl (fun b1=> ?_) (fun b1=> ?_)
   ·skip
    refine Am (Ic hs (by omega)) rfl ?_;simp only[cA,nA];refine d4 ?_;refine i0 (b:=bit set e.2) rfl (fun b2=> ?_) (fun b2=> ?_)
    ·skip
     refine Am (Ic hR (by omega)) rfl ?_;simp only[cA,nA];refine d4 ?_;refine i0 (b:=bit R e.1) rfl (fun b3=> ?_) (fun b3=> ?_)
     ·skip
      refine Am (Jc (n:=e.1) (by omega)) rfl ?_;simp only[cA,nA];refine d4 (d4 ?_);refine Am (Jc (n:=e.2) (by omega)) rfl ?_;simp only[cA,nA];refine d4 ?_;exact⟨j+1,by omega,(j4 (by rw[qA,MF b1 b2 (.inl b3)];exact Cb (Cb rfl rfl hR (An (by omega))) rfl (Hv hR (An (by omega))) (An (by omega))) (i9 rfl (by omega))),⟨by omega,rfl⟩⟩
     ·skip
      refine Am (Ic hR (by omega)) rfl ?_;simp only[cA,nA];refine d4 ?_;refine i0 (b:=bit R e.2) rfl (fun b4=> ?_) (fun b4=> ?_)
      ·skip
       refine Am (Jc (n:=e.1) (by omega)) rfl ?_;simp only[cA,nA];refine d4 (d4 ?_);refine Am (Jc (n:=e.2) (by omega)) rfl ?_;simp only[cA,nA];refine d4 ?_;exact⟨j+1,by omega,(j4 (by rw[qA,MF b1 b2 (.inr b4)];exact Cb (Cb rfl rfl hR (An (by omega))) rfl (Hv hR (An (by omega))) (An (by omega))) (i9 rfl (by omega))),⟨by omega,rfl⟩⟩
      ·skip
       exact⟨j+1,by omega,(j4 (by rw[qA,yo (.inr (.inr ⟨b3,b4⟩))];rfl) (i9 rfl (by omega))),⟨by omega,rfl⟩⟩
    ·skip
     exact⟨j+1,by omega,(j4 (by rw[qA,yo (.inr (.inl b2))];rfl) (i9 rfl (by omega))),⟨by omega,rfl⟩⟩
   ·skip
    exact⟨j+1,by omega,(j4 (by rw[qA,yo (.inl b1)];rfl) (i9 rfl (by omega))),⟨by omega,rfl⟩⟩
  ·replace h2:=oDf h2;have vT:j=es.length:=by omega
   exact⟨r+1,by omega,(j4 (by rw[show Ai set es (r+1) (2^x)=rnd set es S from by rw[<-hSe];rfl,vT,List.take_length];rfl) (i9 rfl (by omega))),⟨by omega,rfl⟩⟩
 ·replace h:=oDf h;have hre:r=es.length:=by omega
  exact g8 rfl ⟨rfl,by rw[hre];rfl⟩
theorem b9p (hw:SG H w es) (hg:GV n es) (hs:set<2^n):Con prog 85 [gv n w,uv set] H fun u H'=>PH.le H H'/\∃l,SU H' u l/\(l.length=1↔Cn es set):=by
 refine j3 mixed c2U ?_;have qK:=hg.n64;have qF:=Ci qK hs;refine d9 (Ap hw) ?_;refine s9 (α:=Value×Nat×List Nat×Nat) (fun⟨v,done,l,i⟩=>[v,uv done,ii (i:Nat)]) (fun⟨v,done,l,i⟩=>fun H'=>PH.le H H'/\SO H H' 54 1 (fun s:Nat=>[uv s]) v l/\done<M64/\i<=n/\l.length<=i/\(∀y,y<i->bit set y=true->bit done y=true)/\CS es set (sdf set done) l.length) (fun⟨v,done,l,i⟩=>n-i) ((.slice none 0 0,0,[],0)) rfl (⟨PH.le.refl _,SO.nil _ _ _ _ _,by decide,bI _,Nat.le_refl _,fun y hy=>by omega,.inl ⟨rfl,Ax fun y=>by rw[Ad,Bz];simp⟩⟩) fun⟨v,done,l,i⟩ H' hQ=> ?_;simp only[cA,nA];obtain⟨l1,o1,hd,hi,hli,qG,hC⟩:=hQ;refine d4 (d4 ?_);refine i0 (b:=decide (((i:Nat):Int)<(n:Nat))) rfl (fun h=> ?_) (fun h=> ?_)
 ·replace h:=oDt h;refine Am (Ic qF (by omega)) rfl ?_;simp only[cA,nA];refine d4 ?_;refine i0 (b:=bit set i) rfl (fun h1=> ?_) (fun h1=> ?_)
  ·skip
   refine Am (Ic hd (by omega)) rfl ?_;simp only[cA,nA];refine d4 ?_;refine i0 (b:= !bit done i) rfl (fun h2=> ?_) (fun h2=> ?_)
   ·skip
    have h2:bit done i=false:=by simpa using h2
    have uR:=d7t hg h1 (by omega);refine Aq (b9o (hw.mono l1) hg qF (by omega)) rfl ?_;simp only[cA,nA];generalize Ai set es es.length (2^i)=part at uR;refine Iz el_u64 rfl rfl rfl (fun _=>rfl) (fun _=>rfl) l1 o1 (by omega) rfl (fun _=>rfl) rfl fun q v2 H2 l2 o2=> ?_;simp only[cA,nA];refine d4 (d4 ?_);exact⟨(v2,done|||part,l++[part],i+1),by show n-(i+1)<n-i;omega,(Cc rfl (Cb rfl rfl hd uR.1) (i9 rfl (by omega))),⟨l2,o2,Hv hd uR.1,by show i+1<=n;omega,by rw[aJ];simp only[List.length_cons,List.length_nil];show _<=i+1;omega,fun y hy hb=>by rw[Ac];rcases iR.1 hy with hy|hy;(rw[qG y hy hb];rfl);(subst hy;rw[(uR.2 y).2 .base];simp),by rw[aJ];have hn:=hC.next (by rw[Ad,h1,h2];rfl) h1 uR;rw[show sdf set (done|||part)=sdf (sdf set done) part from Ax fun y=>by rw[Ad,Ad,Ad,Ac];cases bit set y<;>cases bit done y<;>cases bit part y<;>rfl];exact hn⟩⟩
   ·skip
    have h2:bit done i=true:=by simpa using h2
    exact⟨(v,done,l,i+1),by show n-(i+1)<n-i;omega,(Cc rfl rfl (i9 rfl (by omega))),⟨l1,o1,hd,by show i+1<=n;omega,nH hli,fun y hy hb=>by rcases iR.1 hy with hy|hy;(exact qG y hy hb);(subst hy;exact h2),hC⟩⟩
  ·skip
   exact⟨(v,done,l,i+1),by show n-(i+1)<n-i;omega,(Cc rfl rfl (i9 rfl (by omega))),⟨l1,o1,hd,by show i+1<=n;omega,nH hli,fun y hy hb=>by rcases iR.1 hy with hy|hy;(exact qG y hy hb);(subst hy;rw[h1]at hb;cases hb),hC⟩⟩
 ·replace h:=oDf h;have h0:sdf set done=0:=Ax fun y=>by
   rw[Ad,Bz];cases hy:bit set y with
   |false=>rfl
   |true=>rw[qG y (by have:=Zg hs hy;omega) hy];rfl
  rw[h0]at hC;exact g8 rfl ⟨l1,l,o1.se,hC.end⟩
theorem b5t (hw:SG H w es) (hg:GV n es) (hs:set<2^n):Ao prog 41 [gv n w,uv set] H (.bool (cnB es set)):=by
 refine j3 mixed c2V ?_;refine d9 (Ap hw) ?_;refine i6 (b9p hw hg hs) rfl ?_;rintro u H2 ⟨l2,l,hl,hc⟩;refine nmI ?_;have e:cnB es set=decide (l.length=1):=by rw[Bool.eq_iff_iff,cnB_iff,<-hc];simp
 refine j7 el_u64 hl ?_;refine d4 ?_;exact g8 rfl ⟨l2,by rw[e];show Value.bool (((l.length:Nat):Int)==1)=_;rw[bE];exact congrArg Value.bool (decide_eq_decide.2 (by omega))⟩
end
end Go.Proofs.Z

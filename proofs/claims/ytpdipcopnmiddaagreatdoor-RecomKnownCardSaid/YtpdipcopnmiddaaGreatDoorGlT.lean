/- MADE BY rxgen.py (mkGT.py): trees of chapter 32. -/
import Derived.Test.YtpdipcopnmiddaaGreatDoorProg
import Derived.Test.YtpdipcopnmiddaaGreatDoorRxY
namespace Go.Proofs.YtpdipcopnmiddaaGreatDoor
open Go.RowKit Go.RX
set_option maxRecDepth 100000
noncomputable def tt_r32sam : Tree := (.pm Tryz.f16 1 1 [V0]
(.pm Tryz.f16 1 3 [V1]
(.ri V2
(.ri V3
(.br (.io .neq V2 V3)
(.ret [(.k (.bool false))])
(.loop [(.k (.bool false)),(.ki 0)]
(.pm Tryz.f16 4 2 [V0]
(.ri V5
(.ri V6
(.br (.io .lss V5 V6)
(.pm Tryz.f16 6 2 [V0,V5]
(.pm Tryz.f16 6 3 [V7]
(.pm Tryz.f16 6 6 [V1,V5]
(.pm Tryz.f16 6 7 [V9]
(.call true 36 [V8,V10]
(.rq (.bool V11)
(.br (.nt V11)
(.ret [(.k (.bool false))])
(.next 0 [V4,(.io .add V5 (.ki 1))]))))))))
(.ret [(.k (.bool true))])))))))))))
theorem tr_r32sam : tree Tryz.prog [] [] [⟨0,4,[],[]⟩] [⟨6,[0,0,3,7,0,0,48,112,255,511],[0,0,1,1,0,0,1,1,2,0],[0,0,0,0,0,0,0,0,0,0],[0,1,2,3,4,5,6,7,8,9],[]⟩] 16 = some tt_r32sam := by kernel_rfl
theorem np_r32sam : npf Tryz.prog 16 = some 2 := by kernel_rfl
noncomputable def tt_llin : Tree := (.ef false Tryz.f5 1 3 [(.put (.put (.z 31) 0 1 (.ki 0) 0 noI) 1 1 (.ki 1) 0 noI),(.put (.put (.z 31) 0 1 (.ki 1) 0 noI) 1 1 (.ki 2) 0 noI),(.put (.put (.z 31) 0 1 (.ki 2) 0 noI) 1 1 (.ki 3) 0 noI)]
(.rq (.cells 1 V1)
(.ef false Tryz.f5 1 5 [(.ki 1),(.ki 1),(.ki 1),(.ki 1)]
(.rq (.cells 1 V2)
(.rq (.cells 1 V0)
(.rq (.cells 4 (.put (.cat (.sub (.put (.cat V2 1 (.cat (.z 3) 1 (.cat (.z 3) 1 (.z 3)))) 1 1 V0 0 noI) 0 2 0 noI) 2 (.cat (.ki 3) 1 (.sub (.put (.cat V2 1 (.cat (.z 3) 1 (.cat (.z 3) 1 (.z 3)))) 1 1 V0 0 noI) 3 1 0 noI))) 3 1 (.ki 2) 0 noI))
(.ret [(.cat (.ki 4) 1 V1),(.put (.cat (.sub (.put (.cat V2 1 (.cat (.z 3) 1 (.cat (.z 3) 1 (.z 3)))) 1 1 V0 0 noI) 0 2 0 noI) 2 (.cat (.ki 3) 1 (.sub (.put (.cat V2 1 (.cat (.z 3) 1 (.cat (.z 3) 1 (.z 3)))) 1 1 V0 0 noI) 3 1 0 noI))) 3 1 (.ki 2) 0 noI)])))))))
theorem tr_llin : tree Tryz.prog [] [] [] [] 5 = some tt_llin := by kernel_rfl
theorem np_llin : npf Tryz.prog 5 = some 1 := by kernel_rfl
noncomputable def tt_lall : Tree := (.rq (.cells 2 V0)
(.rq (.cells 4 V1)
(.call false 7 [(.ag V0),(.ag V1),V2]
(.rq (.tup 0 V3)
(.rq (.tup 1 V3)
(.rq (.bool (.proj V3 0))
(.br (.proj V3 0)
(.rq (.int .i64 (.proj V3 1))
(.ret [(.io .eql (.proj V3 1) (.ki 0))]))
(.ret [(.k (.bool false))]))))))))
theorem tr_lall : tree Tryz.prog [] [] [] [] 14 = some tt_lall := by kernel_rfl
theorem np_lall : npf Tryz.prog 14 = some 3 := by kernel_rfl
noncomputable def tt_lq : Tree := (.call false 35 [V0,V1]
(.rq (.tup 0 V2)
(.rq (.tup 1 V2)
(.rq (.cells 16 (.proj V2 0))
(.ret [(.ag (.proj V2 0))])))))
theorem tr_lq : tree Tryz.prog [] [] [] [] 12 = some tt_lq := by kernel_rfl
theorem np_lq : npf Tryz.prog 12 = some 2 := by kernel_rfl
noncomputable def tt_lwor : Tree := (.call false 5 [(.ki 1)]
(.rq (.tup 0 V0)
(.rq (.tup 1 V0)
(.rq (.cells 2 (.proj V0 0))
(.rq (.cells 4 (.proj V0 1))
(.call false 5 [(.ki 2)]
(.rq (.tup 0 V1)
(.rq (.tup 1 V1)
(.rq (.cells 2 (.proj V1 0))
(.rq (.cells 4 (.proj V1 1))
(.ef false Tryz.f4 3 0 [(.ki 0),(.ki 0),(.ki 1),(.ki 1)]
(.ef false Tryz.f4 4 2 [(.ki 0),(.ki 1),(.ki 0),(.ki 1)]
(.call false 7 [(.ag (.proj V0 0)),(.ag (.proj V0 1)),V3]
(.rq (.tup 0 V4)
(.rq (.tup 1 V4)
(.ef false Tryz.f4 5 2 [(.ki 0),(.ki 0),(.ki 0),(.ki 0)]
(.call false 7 [(.ag (.proj V0 0)),(.ag (.proj V0 1)),V5]
(.rq (.tup 0 V6)
(.rq (.tup 1 V6)
(.ef false Tryz.f4 6 2 [(.ki 0),(.ki 1),(.ki 2)]
(.call false 8 [(.ag (.proj V0 0)),(.ag (.proj V0 1)),(.k (.int .u64 (15))),V7]
(.rq (.tup 0 V8)
(.rq (.tup 1 V8)
(.ef false Tryz.f4 7 2 [(.ki 0),(.ki 1),(.ki 2)]
(.call false 8 [(.ag (.proj V0 0)),(.ag (.proj V1 1)),(.k (.int .u64 (15))),V9]
(.rq (.tup 0 V10)
(.rq (.tup 1 V10)
(.call false 14 [(.ag (.proj V0 0)),(.ag (.proj V0 1)),V2]
(.rq (.bool V11)
(.br (.nt V11)
(.ret [(.k (.bool false))])
(.rq (.bool (.proj V4 0))
(.br (.proj V4 0)
(.ret [(.k (.bool false))])
(.rq (.int .i64 (.proj V4 1))
(.br (.io .neq (.proj V4 1) (.ki 0))
(.ret [(.k (.bool false))])
(.rq (.bool (.proj V6 0))
(.br (.proj V6 0)
(.ret [(.k (.bool false))])
(.rq (.int .i64 (.proj V6 1))
(.br (.io .neq (.proj V6 1) (.ki 0))
(.ret [(.k (.bool false))])
(.ef false Tryz.f4 8 21 [(.ki 0),(.ki 1),(.ki 2)]
(.call false 15 [(.proj V8 0),V12]
(.rq (.bool V13)
(.br (.nt V13)
(.ret [(.k (.bool false))])
(.rq (.int .i64 (.proj V8 1))
(.br (.io .neq (.proj V8 1) (.ki 0))
(.ret [(.k (.bool false))])
(.ef false Tryz.f4 8 31 [(.ki 1)]
(.call false 15 [(.proj V10 0),V14]
(.rq (.bool V15)
(.br (.nt V15)
(.ret [(.k (.bool false))])
(.rq (.int .i64 (.proj V10 1))
(.br (.io .neq (.proj V10 1) (.ki 0))
(.ret [(.k (.bool false))])
(.call false 10 [(.ag (.proj V0 0)),(.ag (.proj V0 1)),V2]
(.rq (.tup 0 V16)
(.rq (.tup 1 V16)
(.rq (.tup 2 V16)
(.call false 12 [(.ki 1),(.ki 3)]
(.rq (.cells 16 V17)
(.ef false Tryz.f4 12 3 [(.ki 1),(.ki 1),(.ki 1),(.ki 0)]
(.call false 11 [(.ag (.proj V0 0)),(.ag (.proj V0 1)),V2,V18]
(.rq (.tup 0 V19)
(.rq (.tup 1 V19)
(.rq (.cells 16 (.proj V19 0))
(.call false 11 [(.ag (.proj V0 0)),(.ag (.proj V1 1)),V2,V2]
(.rq (.tup 0 V20)
(.rq (.tup 1 V20)
(.rq (.cells 16 (.proj V20 0))
(.ef false Tryz.f4 14 2 [(.ki 0),(.ki 1),(.ki 0),(.ki 1)]
(.call false 9 [(.ag (.proj V0 0)),(.ag (.proj V0 1)),V21,(.z 42)]
(.rq (.tup 0 V22)
(.rq (.tup 1 V22)
(.rq (.tup 2 V22)
(.rq (.tup 3 V22)
(.ef false Tryz.f4 15 0 [(.ki 13),(.ki 13)]
(.rq (.cells 1 V23)
(.call false 10 [(.cat (.ki 13) 1 (.z 23)),(.put (.cat V23 1 (.cat (.z 3) 1 (.cat (.z 3) 1 (.z 3)))) 3 1 (.ki 1) 0 noI),(.k (.slice none 0 0))]
(.rq (.tup 0 V24)
(.rq (.tup 1 V24)
(.rq (.tup 2 V24)
(.rq (.int .i64 (.proj V16 2))
(.br (.io .eql (.proj V16 2) (.ki 0))
(.mq Tryz.f4 17 4 [(.ki 0),(.ki 0),(.ki 0),(.ki 1)]
(.mq Tryz.f4 17 5 [(.ki 0),(.ki 0),(.ki 1),(.ki 1)]
(.mq Tryz.f4 17 6 [(.ki 0),(.ki 1),(.ki 1),(.ki 1)]
(.mq Tryz.f4 17 7 [V25,V26,V27]
(.call true 16 [(.proj V16 0),V28]
(.rq (.bool V29)
(.br V29
(.mq Tryz.f4 17 15 [(.ag V17),(.ag V17),(.ag V17)]
(.call true 17 [(.proj V16 1),V30]
(.rq (.bool V31)
(.br V31
(.pm Tryz.f4 17 21 [(.ag (.proj V19 0)),(.ag V17)]
(.rq (.bool V32)
(.br V32
(.rq (.int .i64 (.proj V19 1))
(.br (.io .eql (.proj V19 1) (.ki 0))
(.call true 12 [(.ki 1),(.ki 1)]
(.pm Tryz.f4 17 30 [(.ag (.proj V20 0)),V33]
(.rq (.bool V34)
(.br V34
(.rq (.int .i64 (.proj V20 1))
(.br (.io .eql (.proj V20 1) (.ki 0))
(.rq (.int .i64 (.proj V22 3))
(.br (.io .eql (.proj V22 3) (.ki 8))
(.rq (.int .i64 (.proj V24 2))
(.ret [(.io .eql (.proj V24 2) (.ki 3))]))
(.ret [(.k (.bool false))])))
(.ret [(.k (.bool false))])))
(.ret [(.k (.bool false))])))))
(.ret [(.k (.bool false))])))
(.ret [(.k (.bool false))]))))
(.ret [(.k (.bool false))])))))
(.ret [(.k (.bool false))]))))))))
(.ret [(.k (.bool false))]))))))))))))))))))))))))))))))))))))))))))))))))))))))))))))))))))))))))))))))))
theorem tr_lwor : tree Tryz.prog [147,148,149,150,158] [] [] [⟨17,[0,1,3,7,7,7,7,119,255,511,1023,2047,2047,2047,2047,30719,65535,131071,262143,524287,524287,2097151,4194303,8388607,16777215,33554431,67108863,134217727,268435455,268435455,1073741823,2147483647,4294967295,8589934591,17179869183,34359738367,68719476735,137438953471,274877906943,549755813887,1099511627775,2199023255551,4398046511103,8796093022207,17592186044415],[0,0,0,0,3,3,3,3,2,0,0,0,5,5,5,3,2,0,0,5,5,1,0,0,0,0,0,0,5,2,1,0,0,0,0,0,0,0,0,0,0,0,0,0,0],[0,0,0,0,0,0,0,0,0,0,0,0,4,4,4,0,0,0,0,5,4,0,0,0,0,0,0,0,6,0,0,0,0,0,0,0,0,0,0,0,0,0,0,0,0],[0,1,2,3,4,5,6,7,8,9,10,11,12,13,14,15,16,17,18,19,20,21,22,23,24,25,26,27,28,29,30,31,32,33,34,35,36,37,38,39,40,41,42,43,44],[]⟩] 4 = some tt_lwor := by kernel_rfl
theorem np_lwor : npf Tryz.prog 4 = some 0 := by kernel_rfl
end Go.Proofs.YtpdipcopnmiddaaGreatDoor


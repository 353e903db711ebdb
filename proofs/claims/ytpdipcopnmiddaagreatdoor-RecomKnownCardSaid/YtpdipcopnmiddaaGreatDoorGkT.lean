/- MADE BY rxgen.py (mkGT.py): trees of chapter 32. -/
import Derived.Test.YtpdipcopnmiddaaGreatDoorProg
import Derived.Test.YtpdipcopnmiddaaGreatDoorRxY
namespace Go.Proofs.YtpdipcopnmiddaaGreatDoor
open Go.RowKit Go.RX
set_option maxRecDepth 100000
noncomputable def tt_lRK : Tree := (.call false 4 []
(.rq (.bool V0)
(.br (.nt V0)
(.ret [(.k (.bool false))])
(.call false 5 [(.ki 1)]
(.rq (.tup 0 V1)
(.rq (.tup 1 V1)
(.rq (.cells 2 (.proj V1 0))
(.rq (.cells 4 (.proj V1 1))
(.ef false Tryz.f3 4 1 [(.put (.put (.z 31) 0 1 (.ki 1) 0 noI) 1 1 (.ki 0) 0 noI)]
(.rq (.cells 1 V2)
(.join 1
(.call false 6 [(.ag (.proj V1 0)),(.ag (.proj V1 1))]
(.ri V3
(.br (.io .eql V3 (.ki 0))
(.call false 6 [(.cat (.ki 2) 1 V2),(.cat (.z 26) 1 (.cat (.z 3) 1 (.cat (.z 3) 1 (.z 3))))]
(.ri V4
(.next 0 [(.io .eql V4 (.ki 180))])))
(.next 0 [(.k (.bool false))]))))
(.mq Tryz.f3 6 1 [(.ki 3),(.ki 3)]
(.rq (.cells 1 V4)
(.mq Tryz.f3 6 3 [(.ki 4),(.ki 4)]
(.rq (.cells 1 V5)
(.mq Tryz.f3 6 5 [(.ki 4),(.ki 4)]
(.rq (.cells 1 V6)
(.mq Tryz.f3 6 7 [(.ki 4),(.ki 4)]
(.rq (.cells 1 V7)
(.mq Tryz.f3 6 9 [(.ki 4),(.ki 4)]
(.rq (.cells 1 V8)
(.mq Tryz.f3 6 11 [(.ki 0),(.ki 0),(.ki 0),(.k (.int .i64 (-1)))]
(.rq (.cells 1 V9)
(.mq Tryz.f3 6 13 [(.ki 0),(.ki 0),(.ki 0),(.ki 1000000001)]
(.rq (.cells 1 V10)
(.mq Tryz.f3 6 15 [(.cat (.z 26) 1 (.cat (.z 3) 1 (.cat (.z 3) 1 (.z 3)))),(.cat (.sub (.put (.cat V4 1 (.cat (.z 3) 1 (.cat (.z 3) 1 (.z 3)))) 2 1 (.ki 9) 0 noI) 0 3 0 noI) 3 (.ki 1)),(.put (.cat (.sub (.put (.cat V5 1 (.cat (.z 3) 1 (.cat (.z 3) 1 (.z 3)))) 1 1 (.k (.int .i64 (-1))) 0 noI) 0 2 0 noI) 2 (.cat (.ki 9) 1 (.sub (.put (.cat V5 1 (.cat (.z 3) 1 (.cat (.z 3) 1 (.z 3)))) 1 1 (.k (.int .i64 (-1))) 0 noI) 3 1 0 noI))) 3 1 (.ki 1) 0 noI),(.cat (.sub (.put (.cat V6 1 (.cat (.z 3) 1 (.cat (.z 3) 1 (.z 3)))) 1 1 (.ki 1) 0 noI) 0 3 0 noI) 3 (.ki 1)),(.cat V7 1 (.cat (.z 3) 1 (.cat (.z 3) 1 (.z 3)))),(.put (.cat V8 1 (.cat (.z 3) 1 (.cat (.z 3) 1 (.z 3)))) 3 1 (.ki 9) 0 noI),(.cat (.sub (.put (.cat V9 1 (.cat (.z 3) 1 (.cat (.z 3) 1 (.z 3)))) 2 1 (.ki 9) 0 noI) 0 3 0 noI) 3 (.ki 1)),(.cat (.sub (.put (.cat V10 1 (.cat (.z 3) 1 (.cat (.z 3) 1 (.z 3)))) 2 1 (.ki 9) 0 noI) 0 3 0 noI) 3 (.ki 1))]
(.pm Tryz.f3 6 16 [V11]
(.loop [(.k (.bool false)),(.ki 0)]
(.ri V14
(.ri V12
(.br (.io .lss V14 V12)
(.pm Tryz.f3 8 0 [V11,V14]
(.pm Tryz.f3 8 1 [V15]
(.rq (.cells 4 V16)
(.call false 7 [(.ag (.proj V1 0)),(.ag V16),(.k (.slice none 0 0))]
(.rq (.tup 0 V17)
(.rq (.tup 1 V17)
(.call false 8 [(.ag (.proj V1 0)),(.ag V16),(.k (.int .u64 (0))),(.k (.slice none 0 0))]
(.rq (.tup 0 V18)
(.rq (.tup 1 V18)
(.call false 9 [(.ag (.proj V1 0)),(.ag V16),(.k (.slice none 0 0)),(.z 42)]
(.rq (.tup 0 V19)
(.rq (.tup 1 V19)
(.rq (.tup 2 V19)
(.rq (.tup 3 V19)
(.rq (.cells 1 (.proj V19 2))
(.call false 10 [(.ag (.proj V1 0)),(.ag V16),(.k (.slice none 0 0))]
(.rq (.tup 0 V20)
(.rq (.tup 1 V20)
(.rq (.tup 2 V20)
(.call false 11 [(.ag (.proj V1 0)),(.ag V16),(.k (.slice none 0 0)),(.k (.slice none 0 0))]
(.rq (.tup 0 V21)
(.rq (.tup 1 V21)
(.rq (.cells 16 (.proj V21 0))
(.join 1
(.call false 6 [(.ag (.proj V1 0)),(.ag V16)]
(.ri V22
(.br (.io .neq V22 (.ki 320))
(.next 1 [(.k (.bool true))])
(.rq (.int .i64 (.proj V17 1))
(.br (.io .neq (.proj V17 1) (.ki 320))
(.next 1 [(.k (.bool true))])
(.rq (.int .i64 (.proj V18 1))
(.br (.io .neq (.proj V18 1) (.ki 320))
(.next 1 [(.k (.bool true))])
(.rq (.int .i64 (.proj V19 3))
(.br (.io .neq (.proj V19 3) (.ki 320))
(.next 1 [(.k (.bool true))])
(.rq (.int .i64 (.proj V20 2))
(.br (.io .neq (.proj V20 2) (.ki 320))
(.next 1 [(.k (.bool true))])
(.rq (.int .i64 (.proj V21 1))
(.next 1 [(.io .neq (.proj V21 1) (.ki 320))])))))))))))))
(.rq (.bool V22)
(.br V22
(.ret [(.k (.bool false))])
(.next 0 [V13,(.io .add V14 (.ki 1))])))))))))))))))))))))))))))
(.ef false Tryz.f3 17 0 [(.ki 1000000000),(.ki 0),(.ki 0),(.ki 0)]
(.rq (.cells 1 V15)
(.rq (.cells 4 (.put (.cat (.sub (.put (.cat V15 1 (.cat (.z 3) 1 (.cat (.z 3) 1 (.z 3)))) 1 1 (.ki 0) 0 noI) 0 2 0 noI) 2 (.cat (.ki 4611686018427387904) 1 (.sub (.put (.cat V15 1 (.cat (.z 3) 1 (.cat (.z 3) 1 (.z 3)))) 1 1 (.ki 0) 0 noI) 3 1 0 noI))) 3 1 (.ki 8) 0 noI))
(.ef false Tryz.f3 18 0 [(.ki 0),(.ki 0),(.ki 1),(.ki 1)]
(.call false 8 [(.ag (.proj V1 0)),(.ag (.proj V1 1)),(.k (.int .u64 (0))),(.k (.slice none 0 0))]
(.rq (.tup 0 V17)
(.rq (.tup 1 V17)
(.ef false Tryz.f3 20 2 [(.ki 0),(.ki 1)]
(.call false 8 [(.ag (.proj V1 0)),(.ag (.proj V1 1)),(.k (.int .u64 (15))),V18]
(.rq (.tup 0 V19)
(.rq (.tup 1 V19)
(.ef false Tryz.f3 21 3 [(.ki 0),(.ki 0),(.ki 0),(.ki 0)]
(.call false 11 [(.ag (.proj V1 0)),(.ag (.proj V1 1)),V16,V20]
(.rq (.tup 0 V21)
(.rq (.tup 1 V21)
(.rq (.cells 16 (.proj V21 0))
(.ef false Tryz.f3 22 2 [(.ki 0),(.ki 1),(.ki 1),(.ki 2)]
(.call false 11 [(.ag (.proj V1 0)),(.ag (.proj V1 1)),V22,V16]
(.rq (.tup 0 V23)
(.rq (.tup 1 V23)
(.rq (.cells 16 (.proj V23 0))
(.ef false Tryz.f3 23 3 [(.put (.put (.z 31) 0 1 (.ki 0) 0 noI) 1 1 (.ki 1) 0 noI),(.put (.put (.z 31) 0 1 (.ki 1) 0 noI) 1 1 (.ki 2) 0 noI),(.put (.put (.z 31) 0 1 (.ki 2) 0 noI) 1 1 (.ki 3) 0 noI)]
(.rq (.cells 1 V24)
(.ef false Tryz.f3 23 5 [(.ki 1),(.ki 1),(.ki 1),(.ki 1)]
(.rq (.cells 1 V25)
(.ef false Tryz.f3 23 7 [(.ki 0),(.ki 1),(.ki 2),(.ki 2)]
(.ef false Tryz.f3 23 8 [(.ki 0),(.ki 0),(.ki 1),(.ki 2)]
(.call false 11 [(.cat (.ki 4) 1 V24),(.put (.cat (.sub (.put (.cat V25 1 (.cat (.z 3) 1 (.cat (.z 3) 1 (.z 3)))) 1 1 (.ki 1) 0 noI) 0 2 0 noI) 2 (.cat (.ki 3) 1 (.sub (.put (.cat V25 1 (.cat (.z 3) 1 (.cat (.z 3) 1 (.z 3)))) 1 1 (.ki 1) 0 noI) 3 1 0 noI))) 3 1 (.ki 3) 0 noI),V26,V27]
(.rq (.tup 0 V28)
(.rq (.tup 1 V28)
(.rq (.cells 16 (.proj V28 0))
(.join 1
(.rq (.bool V3)
(.br V3
(.call true 6 [(.ag (.proj V1 0)),(.put (.cat (.sub (.put (.cat V15 1 (.cat (.z 3) 1 (.cat (.z 3) 1 (.z 3)))) 1 1 (.ki 0) 0 noI) 0 2 0 noI) 2 (.cat (.ki 4611686018427387904) 1 (.sub (.put (.cat V15 1 (.cat (.z 3) 1 (.cat (.z 3) 1 (.z 3)))) 1 1 (.ki 0) 0 noI) 3 1 0 noI))) 3 1 (.ki 8) 0 noI)]
(.ri V29
(.br (.io .eql V29 (.ki 0))
(.rq (.int .i64 (.proj V17 1))
(.br (.io .eql (.proj V17 1) (.ki 2))
(.rq (.int .i64 (.proj V19 1))
(.br (.io .eql (.proj V19 1) (.ki 300))
(.rq (.int .i64 (.proj V21 1))
(.br (.io .eql (.proj V21 1) (.ki 8))
(.rq (.int .i64 (.proj V23 1))
(.br (.io .eql (.proj V23 1) (.ki 8))
(.call true 12 [(.ki 0),(.ki 1)]
(.pm Tryz.f3 24 26 [(.ag (.proj V28 0)),V30]
(.rq (.bool V31)
(.br V31
(.rq (.int .i64 (.proj V28 1))
(.next 1 [(.io .eql (.proj V28 1) (.ki 0))]))
(.next 1 [(.k (.bool false))])))))
(.next 1 [(.k (.bool false))])))
(.next 1 [(.k (.bool false))])))
(.next 1 [(.k (.bool false))])))
(.next 1 [(.k (.bool false))])))
(.next 1 [(.k (.bool false))]))))
(.next 1 [(.k (.bool false))])))
(.ef false Tryz.f3 26 1 [(.ki 1),(.ki 1),(.ki 1),(.ki 1)]
(.rq (.cells 1 V30)
(.ef false Tryz.f3 26 3 [(.ki 0),(.ki 0),(.ki 0),(.ki 0)]
(.call false 9 [(.ag (.proj V1 0)),(.put (.cat (.sub (.put (.cat V30 1 (.cat (.z 3) 1 (.cat (.z 3) 1 (.z 3)))) 1 1 (.ki 0) 0 noI) 0 2 0 noI) 2 (.cat (.ki 9) 1 (.sub (.put (.cat V30 1 (.cat (.z 3) 1 (.cat (.z 3) 1 (.z 3)))) 1 1 (.ki 0) 0 noI) 3 1 0 noI))) 3 1 (.ki 1) 0 noI),V31,(.ag (.k (.int .u64 (99))))]
(.rq (.tup 0 V32)
(.rq (.tup 1 V32)
(.rq (.tup 2 V32)
(.rq (.tup 3 V32)
(.rq (.cells 1 (.proj V32 2))
(.ef false Tryz.f3 27 1 [(.ki 1)]
(.rq (.cells 1 V33)
(.ef false Tryz.f3 27 3 [(.ki 0)]
(.call false 9 [(.cat (.ki 1) 1 (.z 23)),(.cat (.sub (.put (.cat V33 1 (.cat (.z 3) 1 (.cat (.z 3) 1 (.z 3)))) 2 1 (.ki 9) 0 noI) 0 3 0 noI) 3 (.ki 1)),V34,(.ag (.k (.int .u64 (99))))]
(.rq (.tup 0 V35)
(.rq (.tup 1 V35)
(.rq (.tup 2 V35)
(.rq (.tup 3 V35)
(.rq (.cells 1 (.proj V35 2))
(.join 1
(.rq (.bool V29)
(.br V29
(.ef false Tryz.f3 28 3 [(.ki 0),(.ki 0),(.ki 0),(.ki 0)]
(.call false 13 [(.proj V32 0),V36]
(.rq (.bool V37)
(.br V37
(.rq (.bool (.proj V32 1))
(.br (.nt (.proj V32 1))
(.pm Tryz.f3 28 13 [(.ag (.proj V32 2)),(.ag (.k (.int .u64 (99))))]
(.rq (.bool V38)
(.br V38
(.rq (.int .i64 (.proj V32 3))
(.br (.io .eql (.proj V32 3) (.ki 0))
(.ef false Tryz.f3 28 21 [(.ki 0)]
(.call false 13 [(.proj V35 0),V39]
(.rq (.bool V40)
(.br V40
(.pm Tryz.f3 28 27 [(.ag (.proj V35 2)),(.ag (.k (.int .u64 (99))))]
(.rq (.bool V41)
(.br V41
(.rq (.int .i64 (.proj V35 3))
(.next 1 [(.io .eql (.proj V35 3) (.ki 0))]))
(.next 1 [(.k (.bool false))]))))
(.next 1 [(.k (.bool false))])))))
(.next 1 [(.k (.bool false))])))
(.next 1 [(.k (.bool false))]))))
(.next 1 [(.k (.bool false))])))
(.next 1 [(.k (.bool false))])))))
(.next 1 [(.k (.bool false))])))
(.ef false Tryz.f3 30 0 [(.ki 1),(.ki 1)]
(.rq (.cells 1 V37)
(.rq (.cells 4 (.put (.cat (.sub (.put (.cat V37 1 (.cat (.z 3) 1 (.cat (.z 3) 1 (.z 3)))) 1 1 (.ki 1) 0 noI) 0 2 0 noI) 2 (.cat (.ki 1) 1 (.sub (.put (.cat V37 1 (.cat (.z 3) 1 (.cat (.z 3) 1 (.z 3)))) 1 1 (.ki 1) 0 noI) 3 1 0 noI))) 3 1 (.ki 2) 0 noI))
(.ef false Tryz.f3 31 2 [(.ki 1),(.ki 0)]
(.call false 9 [(.cat (.ki 2) 1 (.z 23)),(.put (.cat (.sub (.put (.cat V37 1 (.cat (.z 3) 1 (.cat (.z 3) 1 (.z 3)))) 1 1 (.ki 1) 0 noI) 0 2 0 noI) 2 (.cat (.ki 1) 1 (.sub (.put (.cat V37 1 (.cat (.z 3) 1 (.cat (.z 3) 1 (.z 3)))) 1 1 (.ki 1) 0 noI) 3 1 0 noI))) 3 1 (.ki 2) 0 noI),V38,(.ag (.k (.int .u64 (99))))]
(.rq (.tup 0 V39)
(.rq (.tup 1 V39)
(.rq (.tup 2 V39)
(.rq (.tup 3 V39)
(.rq (.cells 1 (.proj V39 2))
(.ef false Tryz.f3 32 2 [(.ki 1),(.ki 0)]
(.call false 10 [(.cat (.ki 2) 1 (.z 23)),(.put (.cat (.sub (.put (.cat V37 1 (.cat (.z 3) 1 (.cat (.z 3) 1 (.z 3)))) 1 1 (.ki 1) 0 noI) 0 2 0 noI) 2 (.cat (.ki 1) 1 (.sub (.put (.cat V37 1 (.cat (.z 3) 1 (.cat (.z 3) 1 (.z 3)))) 1 1 (.ki 1) 0 noI) 3 1 0 noI))) 3 1 (.ki 2) 0 noI),V40]
(.rq (.tup 0 V41)
(.rq (.tup 1 V41)
(.rq (.tup 2 V41)
(.call true 4 []
(.rq (.bool V42)
(.br V42
(.rq (.bool V36)
(.br V36
(.ef true Tryz.f3 33 8 [(.ki 0),(.ki 1)]
(.call true 13 [(.proj V39 0),V43]
(.rq (.bool V44)
(.br V44
(.rq (.bool (.proj V39 1))
(.br (.nt (.proj V39 1))
(.pm Tryz.f3 33 18 [(.ag (.proj V39 2)),(.ag (.k (.int .u64 (99))))]
(.rq (.bool V45)
(.br V45
(.rq (.int .i64 (.proj V39 3))
(.br (.io .eql (.proj V39 3) (.ki 0))
(.pm Tryz.f3 33 26 [(.proj V41 0)]
(.ri V46
(.br (.io .eql V46 (.ki 1))
(.pm Tryz.f3 33 31 [(.proj V41 1)]
(.ri V47
(.br (.io .eql V47 (.ki 1))
(.pm Tryz.f3 33 36 [(.proj V41 1),(.ki 0)]
(.pm Tryz.f3 33 37 [V48]
(.call true 12 [(.ki 1),(.ki 1)]
(.pm Tryz.f3 33 39 [V49,V50]
(.rq (.bool V51)
(.br V51
(.rq (.int .i64 (.proj V41 2))
(.ret [(.io .eql (.proj V41 2) (.ki 0))]))
(.ret [(.k (.bool false))])))))))
(.ret [(.k (.bool false))]))))
(.ret [(.k (.bool false))]))))
(.ret [(.k (.bool false))])))
(.ret [(.k (.bool false))]))))
(.ret [(.k (.bool false))])))
(.ret [(.k (.bool false))])))))
(.ret [(.k (.bool false))])))
(.ret [(.k (.bool false))])))))))))))))))))))))))))))))))))))))))))))))))))))))))))))))))))))))))))))))))))))))))))))))))))))))
theorem tr_lRK : tree Tryz.prog [66,68,70,72,74,76,78,80] [] [⟨3,5,[4],[]⟩,⟨3,14,[143],[]⟩,⟨3,24,[4],[]⟩,⟨3,28,[4],[]⟩,⟨0,7,[],[]⟩] [⟨6,[0,0,2,0,8,0,32,0,128,0,512,0,2048,0,8192,32767,65535,0],[0,3,0,3,0,3,0,3,0,3,0,3,0,3,0,3,1,0],[0,0,0,0,0,0,0,0,0,0,0,0,0,0,0,0,0,0],[0,17,1,2,3,4,5,6,7,8,9,10,11,12,13,14,15,16],[]⟩,⟨24,[0,1,3,3,15,31,63,127,255,511,1023,2047,4095,8191,16383,32767,65535,131071,262143,524287,1048575,2097151,4194303,8388607,16777215,16777215,67108863,134217727,268435455,536870911,1073741823,2147483647,4294967295],[0,0,5,5,2,0,0,0,0,0,0,0,0,0,0,0,0,0,0,0,0,0,0,0,5,2,1,0,0,0,0,0,0],[0,0,0,3,0,0,0,0,0,0,0,0,0,0,0,0,0,0,0,0,0,0,0,0,6,0,0,0,0,0,0,0,0],[0,1,2,3,4,5,6,7,8,9,10,11,12,13,14,15,16,17,18,19,20,21,22,23,24,25,26,27,28,29,30,31,32],[]⟩,⟨33,[0,1,3,7,15,31,63,127,127,511,1023,2047,4095,8191,16383,32767,65535,65535,262143,524287,1048575,2097151,4194303,8388607,16777215,33554431,67108863,134217727,268435455,536870911,1073741823,2147483647,4294967295,8589934591,17179869183,34359738367,68719476735,137438953471,34359738367,549755813887,1099511627775,2199023255551,4398046511103,8796093022207,17592186044415,35184372088831],[0,2,0,0,0,0,0,0,2,2,0,0,0,0,0,0,5,5,1,0,0,0,0,0,0,0,1,0,0,0,0,1,0,0,0,0,1,1,2,1,0,0,0,0,0,0],[0,0,0,0,0,0,0,0,0,0,0,0,0,0,0,0,8,7,0,0,0,0,0,0,0,0,0,0,0,0,0,0,0,0,0,0,0,0,0,0,0,0,0,0,0,0],[0,1,2,3,4,5,6,7,8,9,10,11,12,13,14,15,16,17,18,19,20,21,22,23,24,25,26,27,28,29,30,31,32,33,34,35,36,37,38,39,40,41,42,43,44,45],[]⟩] 3 = some tt_lRK := by kernel_rfl
theorem np_lRK : npf Tryz.prog 3 = some 0 := by kernel_rfl
end Go.Proofs.YtpdipcopnmiddaaGreatDoor


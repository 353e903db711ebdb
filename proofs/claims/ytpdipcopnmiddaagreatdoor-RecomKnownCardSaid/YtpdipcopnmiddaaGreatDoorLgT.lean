/- MADE BY rxgen.py: the trees of wide/long.go. -/
import Derived.Test.YtpdipcopnmiddaaGreatDoorWdT
namespace Go.Proofs.YtpdipcopnmiddaaGreatDoor
open Go.RowKit Go.RX
noncomputable def tt_gtrim : Tree := (.pm Tryz.f132 1 1 [V1]
(.loop [V2]
(.join 1
(.ri V3
(.br (.io .gtr V3 (.ki 0))
(.pm Tryz.f132 2 6 [V1,(.io .sub V3 (.ki 1))]
(.pm Tryz.f132 2 7 [V4]
(.ru V5
(.next 1 [(.uo .eql V5 (.k (.int .u64 (0))))]))))
(.next 1 [(.k (.bool false))])))
(.rq (.bool V4)
(.br V4
(.ri V3
(.next 0 [(.io .sub V3 (.ki 1))]))
(.rq (.bool V0)
(.br V0
(.ri V3
(.pm Tryz.f132 4 7 [V1,V3]
(.rq (.cells 1 V5)
(.ret [(.cat (.io .gtr V3 (.ki 0)) 1 V5)]))))
(.pm Tryz.f132 4 7 [V1,V3]
(.rq (.cells 1 V5)
(.ret [(.cat (.k (.bool false)) 1 V5)]))))))))))
theorem tr_gtrim : tree Tryz.prog [] [] [⟨3,2,[17],[]⟩,⟨0,2,[],[]⟩] [] 132 = some tt_gtrim := by kernel_rfl
theorem np_gtrim : npf Tryz.prog 132 = some 2 := by kernel_rfl
noncomputable def tt_gLonger : Tree := (.rq (.cells 8 V0)
(.call false 131 [(.ag V0)]
(.pub 169 (.z 169)
(.ef false Tryz.f107 1 3 [V2,V1]
(.pm Tryz.f107 2 0 [V2]
(.pm Tryz.f107 2 1 [V4]
(.pm Tryz.f107 2 3 [V2]
(.pm Tryz.f107 2 4 [V6]
(.ef true Tryz.f107 2 2 []
(.ef true Tryz.f107 2 5 [V8,V7]
(.call true 132 [V5,V9]
(.rq (.cells 2 V10)
(.ret [(.ag V10)])))))))))))))
theorem tr_gLonger : tree Tryz.prog [3] [] [] [⟨2,[0,1,0,0,8,28,63,127],[1,1,2,1,1,2,2,6],[0,0,0,0,0,0,0,1],[0,1,3,4,2,5,6],[7]⟩] 107 = some tt_gLonger := by kernel_rfl
theorem np_gLonger : npf Tryz.prog 107 = some 1 := by kernel_rfl
noncomputable def tt_gFrom : Tree := (.call false 69 [V0]
(.call false 107 [V1]
(.rq (.cells 2 V2)
(.ret [(.ag V2)]))))
theorem tr_gFrom : tree Tryz.prog [] [] [] [] 67 = some tt_gFrom := by kernel_rfl
theorem np_gFrom : npf Tryz.prog 67 = some 1 := by kernel_rfl
noncomputable def tt_gTold : Tree := (.rq (.cells 2 V0)
(.pm Tryz.f65 1 2 [(.cell V0 1 0 noI)]
(.ri V1
(.br (.io .gtr V1 (.ki 8))
(.ret [(.z 50),(.ki 6)])
(.rq (.cells 1 (.cell V0 0 0 noI))
(.pub 169 (.z 169)
(.ef false Tryz.f65 3 4 [V2,(.cat (.cell V0 0 0 noI) 1 (.z 167))]
(.pm Tryz.f65 4 0 [V2]
(.pm Tryz.f65 4 1 [V4]
(.ef false Tryz.f65 4 4 [V5,(.cell V0 1 0 noI)]
(.pm Tryz.f65 5 0 [V2]
(.call false 106 [V7]
(.rq (.tup 0 V8)
(.rq (.tup 1 V8)
(.rq (.cells 8 (.proj V8 0))
(.ret [(.ag (.proj V8 0)),(.proj V8 1)]))))))))))))))))
theorem tr_gTold : tree Tryz.prog [4] [] [] [⟨4,[0,1,0,4,15],[1,1,1,1,4],[0,0,0,0,0],[0,1,2,3],[4]⟩] 65 = some tt_gTold := by kernel_rfl
theorem np_gTold : npf Tryz.prog 65 = some 1 := by kernel_rfl
noncomputable def tt_gcmp : Tree := (.pm Tryz.f152 1 1 [V0]
(.pm Tryz.f152 1 3 [V1]
(.ri V2
(.ri V3
(.br (.io .neq V2 V3)
(.pm Tryz.f152 2 1 [V0]
(.pm Tryz.f152 2 3 [V1]
(.ri V4
(.ri V5
(.ret [(.io .sub V4 V5)])))))
(.pm Tryz.f152 3 1 [V0]
(.ri V4
(.loop [(.ki 0),(.io .sub V4 (.ki 1))]
(.ri V6
(.br (.io .geq V6 (.ki 0))
(.pm Tryz.f152 6 2 [V0,V6]
(.pm Tryz.f152 6 3 [V7]
(.pm Tryz.f152 6 6 [V1,V6]
(.pm Tryz.f152 6 7 [V9]
(.ru V8
(.ru V10
(.br (.uo .lss V8 V10)
(.ret [(.k (.int .i64 (-1)))])
(.pm Tryz.f152 8 2 [V0,V6]
(.pm Tryz.f152 8 3 [V11]
(.pm Tryz.f152 8 6 [V1,V6]
(.pm Tryz.f152 8 7 [V13]
(.ru V12
(.ru V14
(.br (.uo .gtr V12 V14)
(.ret [(.ki 1)])
(.next 0 [V5,(.io .sub V6 (.ki 1))])))))))))))))))
(.ret [(.ki 0)])))))))))))
theorem tr_gcmp : tree Tryz.prog [] [] [⟨0,4,[],[]⟩] [⟨6,[0,0,3,7,0,0,48,112,255,511],[0,0,1,1,0,0,1,1,0,0],[0,0,0,0,0,0,0,0,0,0],[0,1,2,3,4,5,6,7,8,9],[]⟩,⟨8,[0,0,3,7,0,0,48,112,255,511],[0,0,1,1,0,0,1,1,0,0],[0,0,0,0,0,0,0,0,0,0],[0,1,2,3,4,5,6,7,8,9],[]⟩] 152 = some tt_gcmp := by kernel_rfl
theorem np_gcmp : npf Tryz.prog 152 = some 2 := by kernel_rfl
noncomputable def tt_gadd : Tree := (.pm Tryz.f151 1 1 [V0]
(.pm Tryz.f151 1 3 [V1]
(.ri V2
(.ri V3
(.join 2
(.br (.io .lss V2 V3)
(.next 0 [V1,V0])
(.next 0 [V0,V1]))
(.pm Tryz.f151 3 1 [V4]
(.ri V6
(.ef false Tryz.f151 3 3 [(.io .add V6 (.ki 1)),(.io .add V6 (.ki 1))]
(.pm Tryz.f151 5 1 [V4]
(.loop [(.k (.int .u64 (0))),(.ki 0)]
(.ri V10
(.ri V8
(.br (.io .lss V10 V8)
(.pm Tryz.f151 7 1 [V4,V10]
(.pm Tryz.f151 7 2 [V11]
(.pm Tryz.f151 9 2 [V5]
(.ri V13
(.join 1
(.br (.io .lss V10 V13)
(.pm Tryz.f151 10 2 [V5,V10]
(.pm Tryz.f151 10 3 [V14]
(.next 1 [V15])))
(.next 1 [(.k (.int .u64 (0)))]))
(.ext 165 [V12,V14,V9]
(.rq (.tup 0 V15)
(.rq (.tup 1 V15)
(.pm Tryz.f151 11 9 [V7,V10]
(.ef false Tryz.f151 11 10 [V16,(.proj V15 0)]
(.next 0 [(.proj V15 1),(.io .add V10 (.ki 1))])))))))))))
(.pm Tryz.f151 13 2 [V4]
(.pm Tryz.f151 13 4 [V7,V11]
(.ef false Tryz.f151 13 5 [V12,V9]
(.ret [V7])))))))))))))))))
theorem tr_gadd : tree Tryz.prog [] [] [⟨2,14,[0,1],[]⟩,⟨2,31,[9],[]⟩,⟨0,6,[],[]⟩] [] 151 = some tt_gadd := by kernel_rfl
theorem np_gadd : npf Tryz.prog 151 = some 2 := by kernel_rfl
noncomputable def tt_gtake : Tree := (.pm Tryz.f153 1 1 [V0]
(.ef false Tryz.f153 1 2 [V2,V2]
(.pm Tryz.f153 3 1 [V0]
(.loop [(.k (.int .u64 (0))),(.ki 0)]
(.ri V6
(.ri V4
(.br (.io .lss V6 V4)
(.pm Tryz.f153 5 1 [V0,V6]
(.pm Tryz.f153 5 2 [V7]
(.pm Tryz.f153 7 2 [V1]
(.ri V9
(.join 1
(.br (.io .lss V6 V9)
(.pm Tryz.f153 8 2 [V1,V6]
(.pm Tryz.f153 8 3 [V10]
(.next 1 [V11])))
(.next 1 [(.k (.int .u64 (0)))]))
(.ext 155 [V8,V10,V5]
(.rq (.tup 0 V11)
(.rq (.tup 1 V11)
(.pm Tryz.f153 9 9 [V3,V6]
(.ef false Tryz.f153 9 10 [V12,(.proj V11 0)]
(.next 0 [(.proj V11 1),(.io .add V6 (.ki 1))])))))))))))
(.ret [V3]))))))))
theorem tr_gtake : tree Tryz.prog [] [] [⟨2,23,[9],[]⟩,⟨0,4,[],[]⟩] [] 153 = some tt_gtake := by kernel_rfl
theorem np_gtake : npf Tryz.prog 153 = some 2 := by kernel_rfl
noncomputable def tt_gmul : Tree := (.pm Tryz.f150 1 1 [V0]
(.pm Tryz.f150 1 3 [V1]
(.ri V2
(.ri V3
(.ef false Tryz.f150 1 5 [(.io .add V2 V3),(.io .add V2 V3)]
(.pm Tryz.f150 2 1 [V0]
(.loop [(.ki 0)]
(.ri V6
(.ri V5
(.br (.io .lss V6 V5)
(.pm Tryz.f150 4 1 [V0,V6]
(.pm Tryz.f150 4 2 [V7]
(.pm Tryz.f150 6 1 [V1]
(.loop [(.k (.int .u64 (0))),(.ki 0)]
(.ri V11
(.ri V9
(.br (.io .lss V11 V9)
(.pm Tryz.f150 8 1 [V1,V11]
(.pm Tryz.f150 8 2 [V12]
(.call false 164 [V8,V13]
(.rq (.tup 0 V14)
(.rq (.tup 1 V14)
(.pm Tryz.f150 10 4 [V4,(.io .add V6 V11)]
(.pm Tryz.f150 10 5 [V15]
(.ext 165 [V16,(.proj V14 1),(.k (.int .u64 (0)))]
(.rq (.tup 0 V17)
(.rq (.tup 1 V17)
(.ext 165 [(.proj V17 0),V10,(.k (.int .u64 (0)))]
(.rq (.tup 0 V18)
(.rq (.tup 1 V18)
(.rq (.int .u64 (.proj V14 0))
(.rq (.int .u64 (.proj V17 1))
(.rq (.int .u64 (.proj V18 1))
(.pm Tryz.f150 12 10 [V4,(.io .add V6 V11)]
(.ef false Tryz.f150 12 11 [V19,(.proj V18 0)]
(.next 1 [(.uo .add (.uo .add (.proj V14 0) (.proj V17 1)) (.proj V18 1)),(.io .add V11 (.ki 1))])))))))))))))))))))
(.pm Tryz.f150 14 3 [V1]
(.ri V12
(.pm Tryz.f150 14 6 [V4,(.io .add V6 V12)]
(.ef false Tryz.f150 14 7 [V13,V10]
(.next 0 [(.io .add V6 (.ki 1))]))))))))))))
(.ret [V4])))))))))))
theorem tr_gmul : tree Tryz.prog [] [] [⟨0,3,[],[]⟩,⟨0,7,[],[]⟩] [] 150 = some tt_gmul := by kernel_rfl
theorem np_gmul : npf Tryz.prog 150 = some 2 := by kernel_rfl
noncomputable def tt_glen : Tree := (.pm Tryz.f167 1 1 [V0]
(.ri V1
(.br (.io .eql V1 (.ki 0))
(.ret [(.ki 0)])
(.pm Tryz.f167 3 1 [V0]
(.ri V2
(.pm Tryz.f167 3 5 [V0]
(.ri V3
(.pm Tryz.f167 3 7 [V0,(.io .sub V3 (.ki 1))]
(.pm Tryz.f167 3 8 [V4]
(.call false 172 [V5]
(.ri V6
(.ret [(.io .sub (.io .mul (.ki 64) V2) V6)]))))))))))))
theorem tr_glen : tree Tryz.prog [] [] [] [] 167 = some tt_glen := by kernel_rfl
theorem np_glen : npf Tryz.prog 167 = some 1 := by kernel_rfl
noncomputable def tt_gmove : Tree := (.pm Tryz.f168 1 1 [V0]
(.ri V1
(.ri V2
(.ef false Tryz.f168 1 6 [(.io .add (.io .add V2 (.io .quo V1 (.ki 64))) (.ki 1)),(.io .add (.io .add V2 (.io .quo V1 (.ki 64))) (.ki 1))]
(.pm Tryz.f168 2 1 [V0]
(.loop [(.ki 0)]
(.ri V5
(.ri V4
(.br (.io .lss V5 V4)
(.pm Tryz.f168 4 1 [V0,V5]
(.pm Tryz.f168 4 2 [V6]
(.pm Tryz.f168 5 5 [V3,(.io .add V5 (.io .quo V1 (.ki 64)))]
(.pm Tryz.f168 5 6 [V8]
(.ru V7
(.rq (.nn (.io .rem V1 (.ki 64)))
(.ru V9
(.pm Tryz.f168 5 12 [V3,(.io .add V5 (.io .quo V1 (.ki 64)))]
(.ef false Tryz.f168 5 13 [V10,(.uo .or V9 (.uo .shl V7 (.io .rem V1 (.ki 64))))]
(.br (.io .gtr (.io .rem V1 (.ki 64)) (.ki 0))
(.rq (.nn (.io .sub (.ki 64) (.io .rem V1 (.ki 64))))
(.pm Tryz.f168 7 11 [V3,(.io .add (.io .add V5 (.io .quo V1 (.ki 64))) (.ki 1))]
(.ef false Tryz.f168 7 12 [V12,(.uo .shr V7 (.io .sub (.ki 64) (.io .rem V1 (.ki 64))))]
(.next 0 [(.io .add V5 (.ki 1))]))))
(.next 0 [(.io .add V5 (.ki 1))])))))))))))
(.call false 132 [(.k (.bool false)),V3]
(.rq (.agg 2 V6)
(.ret [(.cell V6 1 0 noI)]))))))))))))
theorem tr_gmove : tree Tryz.prog [] [] [⟨0,3,[],[]⟩] [⟨5,[0,0,0,4,14,31,63,0,0,256,896,2047,4095,8191],[0,0,0,0,0,1,1,0,0,0,0,0,1,4],[0,0,0,0,0,0,0,0,0,0,0,0,0,0],[0,1,2,3,4,5,6,7,8,9,10,11,12],[13]⟩] 168 = some tt_gmove := by kernel_rfl
theorem np_gmove : npf Tryz.prog 168 = some 2 := by kernel_rfl
noncomputable def tt_gdiv : Tree := (.pm Tryz.f156 1 1 [V0]
(.ef false Tryz.f156 1 2 [V2,V2]
(.pm Tryz.f156 2 1 [V1]
(.ri V4
(.br (.io .eql V4 (.ki 1))
(.pm Tryz.f156 4 1 [V0]
(.ri V5
(.loop [(.k (.int .u64 (0))),(.io .sub V5 (.ki 1))]
(.ri V7
(.br (.io .geq V7 (.ki 0))
(.pm Tryz.f156 7 5 [V0,V7]
(.pm Tryz.f156 7 6 [V8]
(.pm Tryz.f156 7 8 [V1,(.ki 0)]
(.pm Tryz.f156 7 9 [V10]
(.call true 166 [V6,V9,V11]
(.rq (.tup 0 V12)
(.rq (.tup 1 V12)
(.pm Tryz.f156 7 14 [V3,V7]
(.ef false Tryz.f156 7 15 [V13,(.proj V12 0)]
(.next 0 [(.proj V12 1),(.io .sub V7 (.ki 1))]))))))))))
(.ef false Tryz.f156 8 2 [V6]
(.call false 132 [(.k (.bool false)),V8]
(.rq (.agg 2 V9)
(.ret [V3,(.cell V9 1 0 noI)])))))))))
(.call false 167 [V0]
(.call false 167 [V1]
(.ri V5
(.ri V6
(.loop [V0,(.io .sub V5 V6)]
(.ri V8
(.br (.io .geq V8 (.ki 0))
(.call false 168 [V1,V8]
(.call false 152 [V7,V9]
(.ri V10
(.br (.io .geq V10 (.ki 0))
(.call false 153 [V7,V9]
(.call false 132 [(.k (.bool false)),V11]
(.rq (.agg 2 V12)
(.pm Tryz.f156 16 3 [V3,(.io .quo V8 (.ki 64))]
(.pm Tryz.f156 16 4 [V13]
(.rq (.nn (.io .rem V8 (.ki 64)))
(.ru V14
(.pm Tryz.f156 16 9 [V3,(.io .quo V8 (.ki 64))]
(.ef false Tryz.f156 16 10 [V15,(.uo .or V14 (.uo .shl (.k (.int .u64 (1))) (.io .rem V8 (.ki 64))))]
(.next 0 [(.cell V12 1 0 noI),(.io .sub V8 (.ki 1))]))))))))))
(.next 0 [V7,(.io .sub V8 (.ki 1))])))))
(.ret [V3,V7])))))))))))))
theorem tr_gdiv : tree Tryz.prog [] [] [⟨0,5,[],[]⟩,⟨0,11,[],[]⟩] [⟨7,[0,0,0,0,0,24,56,0,128,384,1020,2044,4092,4092,8191,24575,65535],[0,0,0,0,0,1,1,0,1,1,2,0,0,0,1,4,0],[0,0,0,0,0,0,0,0,0,0,0,0,0,0,0,0,0],[0,1,2,3,4,5,6,7,8,9,10,11,12,13,14],[15,16]⟩,⟨16,[0,0,2,7,15,0,32,96,255,511,1023],[0,0,0,1,1,0,0,0,0,1,4],[0,0,0,0,0,0,0,0,0,0,0],[0,1,2,3,4,5,6,7,8,9],[10]⟩] 156 = some tt_gdiv := by kernel_rfl
theorem np_gdiv : npf Tryz.prog 156 = some 2 := by kernel_rfl
noncomputable def tt_gTurned : Tree := (.rq (.cells 2 V0)
(.rq (.bool (.cell V0 0 0 noI))
(.call false 132 [(.nt (.cell V0 0 0 noI)),(.cell V0 1 0 noI)]
(.rq (.cells 2 V1)
(.ret [(.ag V1)])))))
theorem tr_gTurned : tree Tryz.prog [] [] [] [] 123 = some tt_gTurned := by kernel_rfl
theorem np_gTurned : npf Tryz.prog 123 = some 1 := by kernel_rfl
noncomputable def tt_gPlus : Tree := (.rq (.cells 2 V0)
(.rq (.cells 2 V1)
(.rq (.bool (.cell V0 0 0 noI))
(.rq (.bool (.cell V1 0 0 noI))
(.br (.eqb false (.cell V0 0 0 noI) (.cell V1 0 0 noI))
(.call true 151 [(.cell V0 1 0 noI),(.cell V1 1 0 noI)]
(.call true 132 [(.cell V0 0 0 noI),V2]
(.rq (.cells 2 V3)
(.ret [(.ag V3)]))))
(.call false 152 [(.cell V0 1 0 noI),(.cell V1 1 0 noI)]
(.ri V2
(.br (.io .lss V2 (.ki 0))
(.call true 153 [(.cell V1 1 0 noI),(.cell V0 1 0 noI)]
(.call true 132 [(.cell V1 0 0 noI),V3]
(.rq (.cells 2 V4)
(.ret [(.ag V4)]))))
(.call true 153 [(.cell V0 1 0 noI),(.cell V1 1 0 noI)]
(.call true 132 [(.cell V0 0 0 noI),V3]
(.rq (.cells 2 V4)
(.ret [(.ag V4)]))))))))))))
theorem tr_gPlus : tree Tryz.prog [] [] [] [⟨2,[0,1,0,4,0,16,60,127,255],[1,1,1,1,1,1,2,2,6],[0,0,0,0,0,0,0,0,2],[0,1,2,3,4,5,6,7],[8]⟩,⟨5,[0,1,0,4,0,16,60,127,255],[1,1,1,1,1,1,2,2,6],[0,0,0,0,0,0,0,0,2],[0,1,2,3,4,5,6,7],[8]⟩] 122 = some tt_gPlus := by kernel_rfl
theorem np_gPlus : npf Tryz.prog 122 = some 2 := by kernel_rfl
noncomputable def tt_gMinus : Tree := (.rq (.cells 2 V0)
(.rq (.cells 2 V1)
(.call true 123 [(.ag V1)]
(.call true 122 [(.ag V0),V2]
(.rq (.cells 2 V3)
(.ret [(.ag V3)]))))))
theorem tr_gMinus : tree Tryz.prog [] [] [] [⟨1,[0,0,2,7,15],[5,5,2,2,6],[0,1,0,0,2],[0,1,2,3],[4]⟩] 171 = some tt_gMinus := by kernel_rfl
theorem np_gMinus : npf Tryz.prog 171 = some 2 := by kernel_rfl
noncomputable def tt_gTimes : Tree := (.rq (.cells 2 V0)
(.rq (.cells 2 V1)
(.rq (.bool (.cell V0 0 0 noI))
(.rq (.bool (.cell V1 0 0 noI))
(.call true 150 [(.cell V0 1 0 noI),(.cell V1 1 0 noI)]
(.call true 132 [(.eqb true (.cell V0 0 0 noI) (.cell V1 0 0 noI)),V2]
(.rq (.cells 2 V3)
(.ret [(.ag V3)]))))))))
theorem tr_gTimes : tree Tryz.prog [] [] [] [⟨1,[0,1,0,4,15,0,32,0,128,480,1023,2047],[1,1,1,1,0,1,1,1,1,2,2,6],[0,0,0,0,0,0,0,0,0,0,0,2],[0,1,2,3,4,5,6,7,8,9,10],[11]⟩] 120 = some tt_gTimes := by kernel_rfl
theorem np_gTimes : npf Tryz.prog 120 = some 2 := by kernel_rfl
noncomputable def tt_gParts : Tree := (.rq (.cells 2 V0)
(.rq (.cells 2 V1)
(.call false 156 [(.cell V0 1 0 noI),(.cell V1 1 0 noI)]
(.rq (.tup 0 V2)
(.rq (.tup 1 V2)
(.rq (.bool (.cell V0 0 0 noI))
(.rq (.bool (.cell V1 0 0 noI))
(.call true 132 [(.eqb true (.cell V0 0 0 noI) (.cell V1 0 0 noI)),(.proj V2 0)]
(.call true 132 [(.cell V0 0 0 noI),(.proj V2 1)]
(.rq (.cells 2 V3)
(.rq (.cells 2 V4)
(.rq (.bool (.cell V4 0 0 noI))
(.br (.cell V4 0 0 noI)
(.rq (.cells 1 (.cell V1 1 0 noI))
(.call false 122 [(.ag V4),(.cat (.z 4) 1 (.cell V1 1 0 noI))]
(.rq (.cells 2 V5)
(.ef false Tryz.f134 6 3 [(.k (.int .u64 (1)))]
(.rq (.cells 1 V6)
(.call false 122 [(.ag V3),(.cat (.nt (.cell V1 0 0 noI)) 1 V6)]
(.rq (.cells 2 V7)
(.ret [(.ag V7),(.ag V5)]))))))))
(.ret [(.ag V3),(.ag V4)]))))))))))))))
theorem tr_gParts : tree Tryz.prog [] [] [] [⟨2,[0,1,0,4,15,0,63,0,128,0,1023,2047,4095],[1,1,1,1,0,0,2,1,1,0,2,6,6],[0,0,0,0,0,0,0,0,0,0,0,2,3],[0,1,2,3,4,5,7,8,9,6,10],[11,12]⟩,⟨8,[0,0,1,7],[5,5,6,6],[2,3,2,3],[0,1],[2,3]⟩] 134 = some tt_gParts := by kernel_rfl
theorem np_gParts : npf Tryz.prog 134 = some 2 := by kernel_rfl
noncomputable def tt_gCommon : Tree := (.rq (.cells 2 V0)
(.rq (.cells 2 V1)
(.loop [(.cell V0 1 0 noI),(.cell V1 1 0 noI)]
(.pm Tryz.f133 2 1 [V3]
(.ri V4
(.br (.io .gtr V4 (.ki 0))
(.call false 156 [V2,V3]
(.rq (.tup 0 V5)
(.rq (.tup 1 V5)
(.next 0 [V3,(.proj V5 1)]))))
(.rq (.cells 1 V2)
(.ret [(.cat (.z 4) 1 V2)]))))))))
theorem tr_gCommon : tree Tryz.prog [] [] [⟨0,2,[],[]⟩] [⟨1,[0,1,0,4,3,31],[1,1,1,1,0,0],[0,0,0,0,0,0],[0,1,2,3,4,5],[]⟩] 133 = some tt_gCommon := by kernel_rfl
theorem np_gCommon : npf Tryz.prog 133 = some 2 := by kernel_rfl
noncomputable def tt_gSide : Tree := (.rq (.cells 2 V0)
(.rq (.bool (.cell V0 0 0 noI))
(.br (.cell V0 0 0 noI)
(.ret [(.k (.int .i64 (-1)))])
(.pm Tryz.f61 3 2 [(.cell V0 1 0 noI)]
(.ri V1
(.br (.io .eql V1 (.ki 0))
(.ret [(.ki 0)])
(.ret [(.ki 1)])))))))
theorem tr_gSide : tree Tryz.prog [] [] [] [] 61 = some tt_gSide := by kernel_rfl
theorem np_gSide : npf Tryz.prog 61 = some 1 := by kernel_rfl
end Go.Proofs.YtpdipcopnmiddaaGreatDoor

/- MADE BY rxgen.py: the trees of package share. -/
namespace Go.Proofs.YtpdipcopnmiddaaGreatDoor
open Go.RowKit Go.RX
noncomputable def tt_sLowest : Tree := (.rq (.cells 2 V0)
(.rq (.cells 2 V1)
(.call false 133 [(.ag V0),(.ag V1)]
(.rq (.cells 2 V2)
(.call false 134 [(.ag V0),(.ag V2)]
(.rq (.tup 0 V3)
(.rq (.tup 1 V3)
(.rq (.cells 2 (.proj V3 0))
(.rq (.cells 2 (.proj V3 1))
(.call false 134 [(.ag V1),(.ag V2)]
(.rq (.tup 0 V4)
(.rq (.tup 1 V4)
(.rq (.cells 2 (.proj V4 0))
(.rq (.cells 2 (.proj V4 1))
(.rq (.bool (.cell (.proj V4 0) 0 0 noI))
(.br (.cell (.proj V4 0) 0 0 noI)
(.call true 123 [(.ag (.proj V3 0))]
(.call true 123 [(.ag (.proj V4 0))]
(.rq (.cells 2 V5)
(.rq (.cells 2 V6)
(.ret [(.cat (.ag V5) 2 (.ag V6))])))))
(.ret [(.cat (.ag (.proj V3 0)) 2 (.ag (.proj V4 0)))])))))))))))))))))
theorem tr_sLowest : tree Tryz.prog [] [] [] [⟨5,[0,1,0,7,15,31],[5,2,5,2,6,6],[4,0,6,0,4,6],[0,2,1,3],[4,5]⟩] 108 = some tt_sLowest := by kernel_rfl
theorem np_sLowest : npf Tryz.prog 108 = some 2 := by kernel_rfl
noncomputable def tt_sWhole : Tree := (.rq (.cells 2 V0)
(.call true 67 [(.ki 1)]
(.rq (.cells 2 V1)
(.ret [(.cat (.ag V0) 2 V1)]))))
theorem tr_sWhole : tree Tryz.prog [] [] [] [⟨1,[0,0,3,7],[5,2,0,6],[0,0,0,1],[0,1,2],[3]⟩] 66 = some tt_sWhole := by kernel_rfl
theorem np_sWhole : npf Tryz.prog 66 = some 1 := by kernel_rfl
noncomputable def tt_sRTold : Tree := (.rq (.cells 4 V0)
(.call false 65 [(.sub V0 0 2 0 noI)]
(.rq (.tup 0 V1)
(.rq (.tup 1 V1)
(.rq (.cells 8 (.proj V1 0))
(.call false 65 [(.sub V0 2 2 0 noI)]
(.rq (.tup 0 V2)
(.rq (.tup 1 V2)
(.rq (.cells 8 (.proj V2 0))
(.join 1
(.rq (.int .i64 (.proj V1 1))
(.br (.io .neq (.proj V1 1) (.ki 0))
(.next 0 [(.k (.bool true))])
(.rq (.int .i64 (.proj V2 1))
(.next 0 [(.io .neq (.proj V2 1) (.ki 0))]))))
(.rq (.bool V3)
(.br V3
(.ret [(.cat (.z 50) 8 (.z 50)),(.ki 6)])
(.ret [(.cat (.ag (.proj V1 0)) 8 (.ag (.proj V2 0))),(.ki 0)])))))))))))))
theorem tr_sRTold : tree Tryz.prog [] [] [⟨3,3,[25],[]⟩] [] 33 = some tt_sRTold := by kernel_rfl
theorem np_sRTold : npf Tryz.prog 33 = some 1 := by kernel_rfl
noncomputable def tt_sRPlus : Tree := (.rq (.cells 4 V0)
(.rq (.cells 4 V1)
(.call true 120 [(.sub V0 0 2 0 noI),(.sub V1 2 2 0 noI)]
(.call true 120 [(.sub V1 0 2 0 noI),(.sub V0 2 2 0 noI)]
(.call true 122 [V2,V3]
(.call true 120 [(.sub V0 2 2 0 noI),(.sub V1 2 2 0 noI)]
(.call true 108 [V4,V5]
(.rq (.cells 4 V6)
(.ret [(.ag V6)])))))))))
theorem tr_sRPlus : tree Tryz.prog [] [] [] [⟨1,[0,1,0,4,15,0,32,0,128,511,1023,0,2048,0,8192,32767,65535,131071],[1,1,1,1,2,1,1,1,1,2,2,1,1,1,1,2,2,6],[0,0,0,0,0,0,0,0,0,0,0,0,0,0,0,0,0,2],[0,1,2,3,5,6,7,8,11,12,13,14,4,9,10,15,16],[17]⟩] 94 = some tt_sRPlus := by kernel_rfl
theorem np_sRPlus : npf Tryz.prog 94 = some 2 := by kernel_rfl
noncomputable def tt_sRTurned : Tree := (.rq (.cells 4 V0)
(.call true 123 [(.sub V0 0 2 0 noI)]
(.rq (.cells 2 V1)
(.ret [(.put (.cat V1 2 (.z 85)) 2 2 (.sub V0 2 2 0 noI) 0 noI)]))))
theorem tr_sRTurned : tree Tryz.prog [] [] [] [⟨1,[0,1,3,0,8,31,63],[1,1,2,1,1,0,6],[0,0,0,0,0,0,1],[0,1,3,4,2,5],[6]⟩] 95 = some tt_sRTurned := by kernel_rfl
theorem np_sRTurned : npf Tryz.prog 95 = some 1 := by kernel_rfl
noncomputable def tt_sRMinus : Tree := (.rq (.cells 4 V0)
(.rq (.cells 4 V1)
(.call true 95 [(.ag V1)]
(.call true 94 [(.ag V0),V2]
(.rq (.cells 4 V3)
(.ret [(.ag V3)]))))))
theorem tr_sRMinus : tree Tryz.prog [] [] [] [⟨1,[0,0,2,7,15],[5,5,2,2,6],[0,1,0,0,2],[0,1,2,3],[4]⟩] 60 = some tt_sRMinus := by kernel_rfl
theorem np_sRMinus : npf Tryz.prog 60 = some 2 := by kernel_rfl
noncomputable def tt_sRTimes : Tree := (.rq (.cells 4 V0)
(.rq (.cells 4 V1)
(.call true 120 [(.sub V0 0 2 0 noI),(.sub V1 0 2 0 noI)]
(.call true 120 [(.sub V0 2 2 0 noI),(.sub V1 2 2 0 noI)]
(.call true 108 [V2,V3]
(.rq (.cells 4 V4)
(.ret [(.ag V4)])))))))
theorem tr_sRTimes : tree Tryz.prog [] [] [] [⟨1,[0,1,0,4,15,0,32,0,128,511,1023,2047],[1,1,1,1,2,1,1,1,1,2,2,6],[0,0,0,0,0,0,0,0,0,0,0,2],[0,1,2,3,5,6,7,8,4,9,10],[11]⟩] 91 = some tt_sRTimes := by kernel_rfl
theorem np_sRTimes : npf Tryz.prog 91 = some 2 := by kernel_rfl
noncomputable def tt_sROver : Tree := (.rq (.cells 4 V0)
(.rq (.cells 4 V1)
(.call true 120 [(.sub V0 0 2 0 noI),(.sub V1 2 2 0 noI)]
(.call true 120 [(.sub V0 2 2 0 noI),(.sub V1 0 2 0 noI)]
(.call true 108 [V2,V3]
(.rq (.cells 4 V4)
(.ret [(.ag V4)])))))))
theorem tr_sROver : tree Tryz.prog [] [] [] [⟨1,[0,1,0,4,15,0,32,0,128,511,1023,2047],[1,1,1,1,2,1,1,1,1,2,2,6],[0,0,0,0,0,0,0,0,0,0,0,2],[0,1,2,3,5,6,7,8,4,9,10],[11]⟩] 93 = some tt_sROver := by kernel_rfl
theorem np_sROver : npf Tryz.prog 93 = some 2 := by kernel_rfl
noncomputable def tt_sMake : Tree := (.rq (.cells 8 V0)
(.rq (.cells 8 V1)
(.pm Tryz.f68 1 2 [(.ag V1),(.z 50)]
(.rq (.bool V2)
(.br V2
(.ret [(.cat (.z 50) 8 (.z 50)),(.ki 7)])
(.call true 107 [(.ag V0)]
(.call true 107 [(.ag V1)]
(.call true 108 [V3,V4]
(.call true 33 [V5]
(.rq (.tup 0 V6)
(.rq (.tup 1 V6)
(.rq (.cells 16 (.proj V6 0))
(.ret [(.ag (.proj V6 0)),(.proj V6 1)])))))))))))))
theorem tr_sMake : tree Tryz.prog [] [] [] [⟨3,[0,1,0,7,15,31,63,63,255,511],[5,2,5,2,2,2,0,0,6,0],[0,0,1,0,0,0,0,0,2,0],[0,2,1,3,4,5,6,7],[8,9]⟩] 68 = some tt_sMake := by kernel_rfl
theorem np_sMake : npf Tryz.prog 68 = some 2 := by kernel_rfl
noncomputable def tt_sOf : Tree := (.call false 69 [V0]
(.call false 69 [V1]
(.call false 68 [V2,V3]
(.rq (.tup 0 V4)
(.rq (.tup 1 V4)
(.rq (.cells 16 (.proj V4 0))
(.ret [(.ag (.proj V4 0)),(.proj V4 1)])))))))
theorem tr_sOf : tree Tryz.prog [] [] [] [] 35 = some tt_sOf := by kernel_rfl
theorem np_sOf : npf Tryz.prog 35 = some 2 := by kernel_rfl
noncomputable def tt_sFrom : Tree := (.call false 67 [V0]
(.call false 66 [V1]
(.rq (.cells 4 V2)
(.ret [(.ag V2)]))))
theorem tr_sFrom : tree Tryz.prog [] [] [] [] 34 = some tt_sFrom := by kernel_rfl
theorem np_sFrom : npf Tryz.prog 34 = some 1 := by kernel_rfl
end Go.Proofs.YtpdipcopnmiddaaGreatDoor


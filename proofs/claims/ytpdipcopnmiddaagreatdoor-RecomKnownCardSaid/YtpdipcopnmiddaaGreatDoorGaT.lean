/- MADE BY rxgen.py (mkGT.py): trees of chapter 32. -/
import Derived.Test.YtpdipcopnmiddaaGreatDoorProg
import Derived.Test.YtpdipcopnmiddaaGreatDoorRxY
namespace Go.Proofs.YtpdipcopnmiddaaGreatDoor
open Go.RowKit Go.RX
set_option maxRecDepth 100000
theorem tr_tz : tree Tryz.prog [] [] [] [] 79 = some (.ru V0
(.br (.uo .eql V0 (.k (.int .u64 (0))))
(.ret [(.ki 64)])
(.pm Tryz.f79 3 6 [(.k (.pointer (some ⟨0,0,none⟩))),(.uo .shr (.uo .mul (.uo .and V0 (.op1 .neg .u64 V0)) (.k (.int .u64 (285870213051353865)))) (.k (.int .u64 (58))))]
(.pm Tryz.f79 3 7 [V1]
(.rq (.int .u8 V2)
(.ret [(.cv .i64 V2)])))))) := by kernel_rfl
theorem np_tz : npf Tryz.prog 79 = some 1 := by kernel_rfl
theorem op_tz_3_6 : (opr Tryz.f79 3 6).op = .indexAddr 175 (.global 0) (.tmp 10) := by kernel_rfl
theorem op_tz_3_7 : (opr Tryz.f79 3 7).op = .load 5 (.tmp 11) := by kernel_rfl
theorem tr_oc64 : tree Tryz.prog [] [] [] [] 48 = some (.ru V0
(.ret [(.io .and (.cv .i64 (.uo .add (.uo .add (.uo .add (.uo .and (.uo .add (.uo .shr (.uo .add (.uo .and (.uo .shr (.uo .add (.uo .and (.uo .shr V0 (.k (.int .u64 (1)))) (.k (.int .u64 (6148914691236517205)))) (.uo .and V0 (.k (.int .u64 (6148914691236517205))))) (.k (.int .u64 (2)))) (.k (.int .u64 (3689348814741910323)))) (.uo .and (.uo .add (.uo .and (.uo .shr V0 (.k (.int .u64 (1)))) (.k (.int .u64 (6148914691236517205)))) (.uo .and V0 (.k (.int .u64 (6148914691236517205))))) (.k (.int .u64 (3689348814741910323))))) (.k (.int .u64 (4)))) (.uo .add (.uo .and (.uo .shr (.uo .add (.uo .and (.uo .shr V0 (.k (.int .u64 (1)))) (.k (.int .u64 (6148914691236517205)))) (.uo .and V0 (.k (.int .u64 (6148914691236517205))))) (.k (.int .u64 (2)))) (.k (.int .u64 (3689348814741910323)))) (.uo .and (.uo .add (.uo .and (.uo .shr V0 (.k (.int .u64 (1)))) (.k (.int .u64 (6148914691236517205)))) (.uo .and V0 (.k (.int .u64 (6148914691236517205))))) (.k (.int .u64 (3689348814741910323)))))) (.k (.int .u64 (1085102592571150095)))) (.uo .shr (.uo .and (.uo .add (.uo .shr (.uo .add (.uo .and (.uo .shr (.uo .add (.uo .and (.uo .shr V0 (.k (.int .u64 (1)))) (.k (.int .u64 (6148914691236517205)))) (.uo .and V0 (.k (.int .u64 (6148914691236517205))))) (.k (.int .u64 (2)))) (.k (.int .u64 (3689348814741910323)))) (.uo .and (.uo .add (.uo .and (.uo .shr V0 (.k (.int .u64 (1)))) (.k (.int .u64 (6148914691236517205)))) (.uo .and V0 (.k (.int .u64 (6148914691236517205))))) (.k (.int .u64 (3689348814741910323))))) (.k (.int .u64 (4)))) (.uo .add (.uo .and (.uo .shr (.uo .add (.uo .and (.uo .shr V0 (.k (.int .u64 (1)))) (.k (.int .u64 (6148914691236517205)))) (.uo .and V0 (.k (.int .u64 (6148914691236517205))))) (.k (.int .u64 (2)))) (.k (.int .u64 (3689348814741910323)))) (.uo .and (.uo .add (.uo .and (.uo .shr V0 (.k (.int .u64 (1)))) (.k (.int .u64 (6148914691236517205)))) (.uo .and V0 (.k (.int .u64 (6148914691236517205))))) (.k (.int .u64 (3689348814741910323)))))) (.k (.int .u64 (1085102592571150095)))) (.k (.int .u64 (8))))) (.uo .shr (.uo .add (.uo .and (.uo .add (.uo .shr (.uo .add (.uo .and (.uo .shr (.uo .add (.uo .and (.uo .shr V0 (.k (.int .u64 (1)))) (.k (.int .u64 (6148914691236517205)))) (.uo .and V0 (.k (.int .u64 (6148914691236517205))))) (.k (.int .u64 (2)))) (.k (.int .u64 (3689348814741910323)))) (.uo .and (.uo .add (.uo .and (.uo .shr V0 (.k (.int .u64 (1)))) (.k (.int .u64 (6148914691236517205)))) (.uo .and V0 (.k (.int .u64 (6148914691236517205))))) (.k (.int .u64 (3689348814741910323))))) (.k (.int .u64 (4)))) (.uo .add (.uo .and (.uo .shr (.uo .add (.uo .and (.uo .shr V0 (.k (.int .u64 (1)))) (.k (.int .u64 (6148914691236517205)))) (.uo .and V0 (.k (.int .u64 (6148914691236517205))))) (.k (.int .u64 (2)))) (.k (.int .u64 (3689348814741910323)))) (.uo .and (.uo .add (.uo .and (.uo .shr V0 (.k (.int .u64 (1)))) (.k (.int .u64 (6148914691236517205)))) (.uo .and V0 (.k (.int .u64 (6148914691236517205))))) (.k (.int .u64 (3689348814741910323)))))) (.k (.int .u64 (1085102592571150095)))) (.uo .shr (.uo .and (.uo .add (.uo .shr (.uo .add (.uo .and (.uo .shr (.uo .add (.uo .and (.uo .shr V0 (.k (.int .u64 (1)))) (.k (.int .u64 (6148914691236517205)))) (.uo .and V0 (.k (.int .u64 (6148914691236517205))))) (.k (.int .u64 (2)))) (.k (.int .u64 (3689348814741910323)))) (.uo .and (.uo .add (.uo .and (.uo .shr V0 (.k (.int .u64 (1)))) (.k (.int .u64 (6148914691236517205)))) (.uo .and V0 (.k (.int .u64 (6148914691236517205))))) (.k (.int .u64 (3689348814741910323))))) (.k (.int .u64 (4)))) (.uo .add (.uo .and (.uo .shr (.uo .add (.uo .and (.uo .shr V0 (.k (.int .u64 (1)))) (.k (.int .u64 (6148914691236517205)))) (.uo .and V0 (.k (.int .u64 (6148914691236517205))))) (.k (.int .u64 (2)))) (.k (.int .u64 (3689348814741910323)))) (.uo .and (.uo .add (.uo .and (.uo .shr V0 (.k (.int .u64 (1)))) (.k (.int .u64 (6148914691236517205)))) (.uo .and V0 (.k (.int .u64 (6148914691236517205))))) (.k (.int .u64 (3689348814741910323)))))) (.k (.int .u64 (1085102592571150095)))) (.k (.int .u64 (8))))) (.k (.int .u64 (16))))) (.uo .shr (.uo .add (.uo .add (.uo .and (.uo .add (.uo .shr (.uo .add (.uo .and (.uo .shr (.uo .add (.uo .and (.uo .shr V0 (.k (.int .u64 (1)))) (.k (.int .u64 (6148914691236517205)))) (.uo .and V0 (.k (.int .u64 (6148914691236517205))))) (.k (.int .u64 (2)))) (.k (.int .u64 (3689348814741910323)))) (.uo .and (.uo .add (.uo .and (.uo .shr V0 (.k (.int .u64 (1)))) (.k (.int .u64 (6148914691236517205)))) (.uo .and V0 (.k (.int .u64 (6148914691236517205))))) (.k (.int .u64 (3689348814741910323))))) (.k (.int .u64 (4)))) (.uo .add (.uo .and (.uo .shr (.uo .add (.uo .and (.uo .shr V0 (.k (.int .u64 (1)))) (.k (.int .u64 (6148914691236517205)))) (.uo .and V0 (.k (.int .u64 (6148914691236517205))))) (.k (.int .u64 (2)))) (.k (.int .u64 (3689348814741910323)))) (.uo .and (.uo .add (.uo .and (.uo .shr V0 (.k (.int .u64 (1)))) (.k (.int .u64 (6148914691236517205)))) (.uo .and V0 (.k (.int .u64 (6148914691236517205))))) (.k (.int .u64 (3689348814741910323)))))) (.k (.int .u64 (1085102592571150095)))) (.uo .shr (.uo .and (.uo .add (.uo .shr (.uo .add (.uo .and (.uo .shr (.uo .add (.uo .and (.uo .shr V0 (.k (.int .u64 (1)))) (.k (.int .u64 (6148914691236517205)))) (.uo .and V0 (.k (.int .u64 (6148914691236517205))))) (.k (.int .u64 (2)))) (.k (.int .u64 (3689348814741910323)))) (.uo .and (.uo .add (.uo .and (.uo .shr V0 (.k (.int .u64 (1)))) (.k (.int .u64 (6148914691236517205)))) (.uo .and V0 (.k (.int .u64 (6148914691236517205))))) (.k (.int .u64 (3689348814741910323))))) (.k (.int .u64 (4)))) (.uo .add (.uo .and (.uo .shr (.uo .add (.uo .and (.uo .shr V0 (.k (.int .u64 (1)))) (.k (.int .u64 (6148914691236517205)))) (.uo .and V0 (.k (.int .u64 (6148914691236517205))))) (.k (.int .u64 (2)))) (.k (.int .u64 (3689348814741910323)))) (.uo .and (.uo .add (.uo .and (.uo .shr V0 (.k (.int .u64 (1)))) (.k (.int .u64 (6148914691236517205)))) (.uo .and V0 (.k (.int .u64 (6148914691236517205))))) (.k (.int .u64 (3689348814741910323)))))) (.k (.int .u64 (1085102592571150095)))) (.k (.int .u64 (8))))) (.uo .shr (.uo .add (.uo .and (.uo .add (.uo .shr (.uo .add (.uo .and (.uo .shr (.uo .add (.uo .and (.uo .shr V0 (.k (.int .u64 (1)))) (.k (.int .u64 (6148914691236517205)))) (.uo .and V0 (.k (.int .u64 (6148914691236517205))))) (.k (.int .u64 (2)))) (.k (.int .u64 (3689348814741910323)))) (.uo .and (.uo .add (.uo .and (.uo .shr V0 (.k (.int .u64 (1)))) (.k (.int .u64 (6148914691236517205)))) (.uo .and V0 (.k (.int .u64 (6148914691236517205))))) (.k (.int .u64 (3689348814741910323))))) (.k (.int .u64 (4)))) (.uo .add (.uo .and (.uo .shr (.uo .add (.uo .and (.uo .shr V0 (.k (.int .u64 (1)))) (.k (.int .u64 (6148914691236517205)))) (.uo .and V0 (.k (.int .u64 (6148914691236517205))))) (.k (.int .u64 (2)))) (.k (.int .u64 (3689348814741910323)))) (.uo .and (.uo .add (.uo .and (.uo .shr V0 (.k (.int .u64 (1)))) (.k (.int .u64 (6148914691236517205)))) (.uo .and V0 (.k (.int .u64 (6148914691236517205))))) (.k (.int .u64 (3689348814741910323)))))) (.k (.int .u64 (1085102592571150095)))) (.uo .shr (.uo .and (.uo .add (.uo .shr (.uo .add (.uo .and (.uo .shr (.uo .add (.uo .and (.uo .shr V0 (.k (.int .u64 (1)))) (.k (.int .u64 (6148914691236517205)))) (.uo .and V0 (.k (.int .u64 (6148914691236517205))))) (.k (.int .u64 (2)))) (.k (.int .u64 (3689348814741910323)))) (.uo .and (.uo .add (.uo .and (.uo .shr V0 (.k (.int .u64 (1)))) (.k (.int .u64 (6148914691236517205)))) (.uo .and V0 (.k (.int .u64 (6148914691236517205))))) (.k (.int .u64 (3689348814741910323))))) (.k (.int .u64 (4)))) (.uo .add (.uo .and (.uo .shr (.uo .add (.uo .and (.uo .shr V0 (.k (.int .u64 (1)))) (.k (.int .u64 (6148914691236517205)))) (.uo .and V0 (.k (.int .u64 (6148914691236517205))))) (.k (.int .u64 (2)))) (.k (.int .u64 (3689348814741910323)))) (.uo .and (.uo .add (.uo .and (.uo .shr V0 (.k (.int .u64 (1)))) (.k (.int .u64 (6148914691236517205)))) (.uo .and V0 (.k (.int .u64 (6148914691236517205))))) (.k (.int .u64 (3689348814741910323)))))) (.k (.int .u64 (1085102592571150095)))) (.k (.int .u64 (8))))) (.k (.int .u64 (16))))) (.k (.int .u64 (32)))))) (.ki 127))])) := by kernel_rfl
theorem np_oc64 : npf Tryz.prog 48 = some 1 := by kernel_rfl
noncomputable def tt_scmp : Tree := (.pm Tryz.f37 1 1 [V0]
(.loop [(.ki 0),(.ki 0)]
(.ri V4
(.ri V2
(.br (.io .lss V4 V2)
(.pm Tryz.f37 3 1 [V0,V4]
(.pm Tryz.f37 3 2 [V5]
(.pm Tryz.f37 4 2 [V1]
(.ri V7
(.br (.io .geq V4 V7)
(.ret [(.ki 1)])
(.pm Tryz.f37 6 2 [V1,V4]
(.pm Tryz.f37 6 3 [V8]
(.call false 64 [V6,V9]
(.ri V10
(.br (.io .neq V10 (.ki 0))
(.ret [V10])
(.next 0 [V3,(.io .add V4 (.ki 1))])))))))))))
(.pm Tryz.f37 11 1 [V0]
(.pm Tryz.f37 11 3 [V1]
(.ri V5
(.ri V6
(.br (.io .lss V5 V6)
(.ret [(.k (.int .i64 (-1)))])
(.ret [(.ki 0)])))))))))))
theorem tr_scmp : tree Tryz.prog [] [] [⟨0,2,[],[]⟩] [] 37 = some tt_scmp := by kernel_rfl
theorem np_scmp : npf Tryz.prog 37 = some 2 := by kernel_rfl
noncomputable def tt_ccmp : Tree := (.call false 105 [V0]
(.call false 105 [V1]
(.rq (.bool V2)
(.br V2
(.rq (.bool V3)
(.br V3
(.ret [(.ki 0)])
(.ret [(.k (.int .i64 (-1)))])))
(.rq (.bool V3)
(.br V3
(.ret [(.ki 1)])
(.ri V0
(.ri V1
(.br (.io .lss V0 V1)
(.ret [(.k (.int .i64 (-1)))])
(.br (.io .gtr V0 V1)
(.ret [(.ki 1)])
(.ret [(.ki 0)])))))))))))
theorem tr_ccmp : tree Tryz.prog [] [] [] [] 64 = some tt_ccmp := by kernel_rfl
theorem np_ccmp : npf Tryz.prog 64 = some 2 := by kernel_rfl
noncomputable def tt_cisn : Tree := (.ri V0
(.ret [(.io .neq V0 V0)]))
theorem tr_cisn : tree Tryz.prog [] [] [] [] 105 = some tt_cisn := by kernel_rfl
theorem np_cisn : npf Tryz.prog 105 = some 1 := by kernel_rfl
noncomputable def tt_seqI : Tree := (.pm Tryz.f15 1 1 [V0]
(.pm Tryz.f15 1 3 [V1]
(.ri V2
(.ri V3
(.br (.io .neq V2 V3)
(.ret [(.k (.bool false))])
(.pm Tryz.f15 3 1 [V0]
(.loop [(.k (.bool false)),(.ki 0)]
(.ri V6
(.ri V4
(.br (.io .lss V6 V4)
(.pm Tryz.f15 6 2 [V0,V6]
(.pm Tryz.f15 6 3 [V7]
(.pm Tryz.f15 6 6 [V1,V6]
(.pm Tryz.f15 6 7 [V9]
(.ri V8
(.ri V10
(.br (.io .neq V8 V10)
(.ret [(.k (.bool false))])
(.next 0 [V5,(.io .add V6 (.ki 1))]))))))))
(.ret [(.k (.bool true))])))))))))))
theorem tr_seqI : tree Tryz.prog [] [] [⟨0,4,[],[]⟩] [⟨6,[0,0,3,7,0,0,48,112,255],[0,0,1,1,0,0,1,1,0],[0,0,0,0,0,0,0,0,0],[0,1,2,3,4,5,6,7,8],[]⟩] 15 = some tt_seqI := by kernel_rfl
theorem np_seqI : npf Tryz.prog 15 = some 2 := by kernel_rfl
noncomputable def tt_seqP : Tree := (.pm Tryz.f13 1 1 [V0]
(.pm Tryz.f13 1 3 [V1]
(.ri V2
(.ri V3
(.br (.io .neq V2 V3)
(.ret [(.k (.bool false))])
(.pm Tryz.f13 3 1 [V0]
(.loop [(.k (.bool false)),(.ki 0)]
(.ri V6
(.ri V4
(.br (.io .lss V6 V4)
(.pm Tryz.f13 6 2 [V0,V6]
(.pm Tryz.f13 6 3 [V7]
(.pm Tryz.f13 6 6 [V1,V6]
(.pm Tryz.f13 6 7 [V9]
(.ri V8
(.ri V10
(.br (.io .neq V8 V10)
(.ret [(.k (.bool false))])
(.next 0 [V5,(.io .add V6 (.ki 1))]))))))))
(.ret [(.k (.bool true))])))))))))))
theorem tr_seqP : tree Tryz.prog [] [] [⟨0,4,[],[]⟩] [⟨6,[0,0,3,7,0,0,48,112,255],[0,0,1,1,0,0,1,1,0],[0,0,0,0,0,0,0,0,0],[0,1,2,3,4,5,6,7,8],[]⟩] 13 = some tt_seqP := by kernel_rfl
theorem np_seqP : npf Tryz.prog 13 = some 2 := by kernel_rfl
noncomputable def tt_scfI : Tree := (.call false 38 [V0,V1]
(.ri V2
(.ret [(.io .geq V2 (.ki 0))])))
theorem tr_scfI : tree Tryz.prog [] [] [] [] 19 = some tt_scfI := by kernel_rfl
theorem np_scfI : npf Tryz.prog 19 = some 2 := by kernel_rfl
noncomputable def tt_scfU : Tree := (.call false 72 [V0,V1]
(.ri V2
(.ret [(.io .geq V2 (.ki 0))])))
theorem tr_scfU : tree Tryz.prog [] [] [] [] 41 = some tt_scfU := by kernel_rfl
theorem np_scfU : npf Tryz.prog 41 = some 2 := by kernel_rfl
noncomputable def tt_scfP : Tree := (.call false 89 [V0,V1]
(.ri V2
(.ret [(.io .geq V2 (.ki 0))])))
theorem tr_scfP : tree Tryz.prog [] [] [] [] 57 = some tt_scfP := by kernel_rfl
theorem np_scfP : npf Tryz.prog 57 = some 2 := by kernel_rfl
noncomputable def tt_sifI : Tree := (.pm Tryz.f38 1 1 [V0]
(.loop [(.ki 0),(.ki 0)]
(.ri V4
(.ri V2
(.br (.io .lss V4 V2)
(.pm Tryz.f38 4 3 [V0,V4]
(.pm Tryz.f38 4 4 [V5]
(.ef false Tryz.f38 4 5 [V1,V6]
(.rq (.bool V7)
(.br V7
(.ret [V4])
(.next 0 [V3,(.io .add V4 (.ki 1))]))))))
(.ret [(.k (.int .i64 (-1)))]))))))
theorem tr_sifI : tree Tryz.prog [] [] [⟨0,2,[],[]⟩] [] 38 = some tt_sifI := by kernel_rfl
theorem np_sifI : npf Tryz.prog 38 = some 2 := by kernel_rfl
noncomputable def tt_sifU : Tree := (.pm Tryz.f72 1 1 [V0]
(.loop [(.ki 0),(.ki 0)]
(.ri V4
(.ri V2
(.br (.io .lss V4 V2)
(.pm Tryz.f72 4 3 [V0,V4]
(.pm Tryz.f72 4 4 [V5]
(.ef false Tryz.f72 4 5 [V1,V6]
(.rq (.bool V7)
(.br V7
(.ret [V4])
(.next 0 [V3,(.io .add V4 (.ki 1))]))))))
(.ret [(.k (.int .i64 (-1)))]))))))
theorem tr_sifU : tree Tryz.prog [] [] [⟨0,2,[],[]⟩] [] 72 = some tt_sifU := by kernel_rfl
theorem np_sifU : npf Tryz.prog 72 = some 2 := by kernel_rfl
noncomputable def tt_sifP : Tree := (.pm Tryz.f89 1 1 [V0]
(.loop [(.ki 0),(.ki 0)]
(.ri V4
(.ri V2
(.br (.io .lss V4 V2)
(.pm Tryz.f89 4 3 [V0,V4]
(.pm Tryz.f89 4 4 [V5]
(.ef false Tryz.f89 4 5 [V1,V6]
(.rq (.bool V7)
(.br V7
(.ret [V4])
(.next 0 [V3,(.io .add V4 (.ki 1))]))))))
(.ret [(.k (.int .i64 (-1)))]))))))
theorem tr_sifP : tree Tryz.prog [] [] [⟨0,2,[],[]⟩] [] 89 = some tt_sifP := by kernel_rfl
theorem np_sifP : npf Tryz.prog 89 = some 2 := by kernel_rfl
noncomputable def tt_sixI : Tree := (.pm Tryz.f109 1 1 [V0]
(.loop [(.ki 0),(.ki 0)]
(.ri V4
(.ri V2
(.br (.io .lss V4 V2)
(.pm Tryz.f109 4 3 [V0,V4]
(.pm Tryz.f109 4 4 [V5]
(.ri V1
(.ri V6
(.br (.io .eql V1 V6)
(.ret [V4])
(.next 0 [V3,(.io .add V4 (.ki 1))]))))))
(.ret [(.k (.int .i64 (-1)))]))))))
theorem tr_sixI : tree Tryz.prog [] [] [⟨0,2,[],[]⟩] [] 109 = some tt_sixI := by kernel_rfl
theorem np_sixI : npf Tryz.prog 109 = some 2 := by kernel_rfl
noncomputable def tt_sct : Tree := (.call false 109 [V0,V1]
(.ri V2
(.ret [(.io .geq V2 (.ki 0))])))
theorem tr_sct : tree Tryz.prog [] [] [] [] 77 = some tt_sct := by kernel_rfl
theorem np_sct : npf Tryz.prog 77 = some 2 := by kernel_rfl
noncomputable def tt_sclI : Tree := (.pm Tryz.f28 1 1 [V0,(.k (.slice none 0 0))]
(.rq (.bool V1)
(.br V1
(.ret [(.k (.slice none 0 0))])
(.ef false Tryz.f28 3 0 []
(.ef false Tryz.f28 3 2 [V2,V0]
(.ret [V3]))))))
theorem tr_sclI : tree Tryz.prog [] [] [] [] 28 = some tt_sclI := by kernel_rfl
theorem np_sclI : npf Tryz.prog 28 = some 1 := by kernel_rfl
noncomputable def tt_sclP : Tree := (.pm Tryz.f88 1 1 [V0,(.k (.slice none 0 0))]
(.rq (.bool V1)
(.br V1
(.ret [(.k (.slice none 0 0))])
(.ef false Tryz.f88 3 0 []
(.ef false Tryz.f88 3 2 [V2,V0]
(.ret [V3]))))))
theorem tr_sclP : tree Tryz.prog [] [] [] [] 88 = some tt_sclP := by kernel_rfl
theorem np_sclP : npf Tryz.prog 88 = some 1 := by kernel_rfl
noncomputable def tt_gchk : Tree := (.rq (.cells 2 V0)
(.rq (.int .i64 (.cell V0 0 0 noI))
(.br (.io .lss (.cell V0 0 0 noI) (.ki 1))
(.ret [(.ki 180)])
(.br (.io .gtr (.cell V0 0 0 noI) (.ki 64))
(.ret [(.ki 180)])
(.pm Tryz.f18 1 11 [(.cell V0 1 0 noI)]
(.ri V1
(.br (.io .gtr V1 (.ki 200))
(.ret [(.ki 180)])
(.pub 31 (.z 31)
(.ef false Tryz.f18 3 2 [V2,(.put (.put (.z 31) 0 1 (.k (.int .i64 (-1))) 0 noI) 1 1 (.k (.int .i64 (-1))) 0 noI)]
(.pm Tryz.f18 4 2 [(.cell V0 1 0 noI)]
(.loop [(.ki 0),(.ki 0)]
(.ri V6
(.ri V4
(.br (.io .lss V6 V4)
(.pm Tryz.f18 6 0 [(.cell V0 1 0 noI),V6]
(.pm Tryz.f18 6 1 [V7]
(.pub 31 (.z 31)
(.ef false Tryz.f18 6 3 [V9,V8]
(.pm Tryz.f18 7 0 [V9,(.ki 0)]
(.pm Tryz.f18 7 1 [V11]
(.ri V12
(.br (.io .lss V12 (.ki 0))
(.ret [(.ki 180)])
(.pm Tryz.f18 7 4 [V9,(.ki 0)]
(.pm Tryz.f18 7 5 [V13]
(.pm Tryz.f18 7 6 [V9,(.ki 1)]
(.pm Tryz.f18 7 7 [V15]
(.ri V14
(.ri V16
(.br (.io .geq V14 V16)
(.ret [(.ki 180)])
(.pm Tryz.f18 7 11 [V9,(.ki 1)]
(.pm Tryz.f18 7 12 [V17]
(.ri V18
(.br (.io .geq V18 (.cell V0 0 0 noI))
(.ret [(.ki 180)])
(.pm Tryz.f18 7 18 [V2]
(.pm Tryz.f18 7 19 [V9]
(.call true 37 [V19,V20]
(.ri V21
(.br (.io .geq V21 (.ki 0))
(.ret [(.ki 180)])
(.pm Tryz.f18 9 0 [V9]
(.ef false Tryz.f18 9 1 [V2,V22]
(.next 0 [V5,(.io .add V6 (.ki 1))])))))))))))))))))))))))))))
(.ret [(.ki 0)])))))))))))))))
theorem tr_gchk : tree Tryz.prog [3,5] [] [⟨0,5,[],[]⟩] [⟨7,[0,1,3,7,15,31,15,79,255,511,1023,2047,4095,2047,10239,32767,65535,131071,262143,262143,1048575,2097151,4194303],[1,1,0,0,1,1,1,1,0,0,0,1,1,0,5,0,0,0,1,1,2,0,0],[0,0,0,0,0,0,0,0,0,0,0,0,0,0,0,0,0,0,0,0,0,0,0],[0,1,2,3,4,5,6,7,8,9,10,11,12,13,14,15,16,17,18,19,20,21,22],[]⟩] 18 = some tt_gchk := by kernel_rfl
theorem np_gchk : npf Tryz.prog 18 = some 1 := by kernel_rfl
noncomputable def tt_gck : Tree := (.rq (.cells 2 V0)
(.call false 18 [(.ag V0)]
(.ri V2
(.br (.io .neq V2 (.ki 0))
(.ret [V2])
(.call true 75 [V1]
(.ri V3
(.rq (.int .i64 (.cell V0 0 0 noI))
(.br (.io .gtr V3 (.cell V0 0 0 noI))
(.ret [(.ki 2)])
(.ret [(.ki 0)])))))))))
theorem tr_gck : tree Tryz.prog [] [] [] [⟨4,[0,1,0,4,15],[0,2,0,5,0],[0,0,0,0,0],[0,2,3,1,4],[]⟩] 81 = some tt_gck := by kernel_rfl
theorem np_gck : npf Tryz.prog 81 = some 2 := by kernel_rfl
noncomputable def tt_gcon : Tree := (.rq (.cells 2 V0)
(.call false 81 [(.ag V0),V1]
(.ri V2
(.br (.io .neq V2 (.ki 0))
(.ret [(.k (.bool false)),V2])
(.call false 82 [(.ag V0),V1]
(.pm Tryz.f53 4 3 [V3]
(.ri V4
(.ret [(.io .eql V4 (.ki 1)),(.ki 0)]))))))))
theorem tr_gcon : tree Tryz.prog [] [] [] [] 53 = some tt_gcon := by kernel_rfl
theorem np_gcon : npf Tryz.prog 53 = some 2 := by kernel_rfl
noncomputable def tt_gar : Tree := (.rq (.cells 2 V0)
(.ef false Tryz.f112 1 2 [(.cell V0 0 0 noI),(.cell V0 0 0 noI)]
(.pm Tryz.f112 2 2 [(.cell V0 1 0 noI)]
(.loop [(.ki 0)]
(.ri V3
(.ri V2
(.br (.io .lss V3 V2)
(.pm Tryz.f112 4 0 [(.cell V0 1 0 noI),V3]
(.pm Tryz.f112 4 1 [V4]
(.rq (.cells 2 V5)
(.pm Tryz.f112 5 3 [V1,(.cell V5 0 0 noI)]
(.pm Tryz.f112 5 4 [V6]
(.rq (.num (.cell V5 1 0 noI))
(.rq (.nn (.cell V5 1 0 noI))
(.ru V7
(.pm Tryz.f112 5 9 [V1,(.cell V5 0 0 noI)]
(.ef false Tryz.f112 5 10 [V8,(.uo .or V7 (.uo .shl (.k (.int .u64 (1))) (.cell V5 1 0 noI)))]
(.pm Tryz.f112 6 3 [V1,(.cell V5 1 0 noI)]
(.pm Tryz.f112 6 4 [V10]
(.rq (.num (.cell V5 0 0 noI))
(.rq (.nn (.cell V5 0 0 noI))
(.ru V11
(.pm Tryz.f112 6 9 [V1,(.cell V5 1 0 noI)]
(.ef false Tryz.f112 6 10 [V12,(.uo .or V11 (.uo .shl (.k (.int .u64 (1))) (.cell V5 0 0 noI)))]
(.next 0 [(.io .add V3 (.ki 1))]))))))))))))))))))
(.ret [V1]))))))))
theorem tr_gar : tree Tryz.prog [] [] [⟨0,3,[],[]⟩] [⟨5,[0,0,2,7,15,0,32,96,255,511,1023],[0,0,5,1,1,0,5,0,0,1,8],[0,0,1,0,0,0,1,0,0,0,0],[0,1,2,3,4,5,6,7,8,9],[10]⟩,⟨6,[0,0,2,7,15,0,32,96,255,511,1023],[0,0,5,1,1,0,5,0,0,1,8],[0,0,1,0,0,0,1,0,0,0,0],[0,1,2,3,4,5,6,7,8,9],[10]⟩] 112 = some tt_gar := by kernel_rfl
theorem np_gar : npf Tryz.prog 112 = some 1 := by kernel_rfl
noncomputable def tt_gcomp : Tree := (.rq (.cells 2 V0)
(.rq (.cells 1 V1)
(.call false 112 [(.ag V0)]
(.rq (.cells 1 V2)
(.loop [(.k (.slice none 0 0)),(.cell V1 0 0 noI),V0,V1,V2]
(.ru V4
(.br (.uo .neq V4 (.k (.int .u64 (0))))
(.loop [(.uo .and V4 (.op1 .neg .u64 V4)),V5,V6,V7]
(.rq (.cells 1 V8)
(.call false 113 [V8]
(.rf V12 1 [V8]
(.pm Tryz.f82 9 3 [(.cell V11 0 0 noI),V13]
(.pm Tryz.f82 9 4 [V15]
(.ru V16
(.rq (.int .u64 (.cell V10 0 0 noI))
(.rq (.int .u64 (.cell V14 0 0 noI))
(.next 2 [(.uo .or (.cell V14 0 0 noI) (.uo .and V16 (.cell V10 0 0 noI)))]))))))
(.rq (.int .u64 (.cell V13 0 0 noI))
(.ru V8
(.br (.uo .eql (.cell V13 0 0 noI) V8)
(.ef false Tryz.f82 12 2 [V8]
(.ef false Tryz.f82 12 3 [V3,V14]
(.next 0 [V15,(.uo .andNot V4 V8),V9,V10,V11])))
(.next 1 [(.cell V13 0 0 noI),V9,V10,V11]))))
(.dead 818)))))
(.ret [V3]))))))))
theorem tr_gcomp : tree Tryz.prog [] [] [⟨0,4,[],[0,1,2]⟩,⟨0,6,[],[0,1,2]⟩,⟨4,9,[],[3]⟩] [⟨9,[0,0,0,6,14,0,62,127,255],[5,5,0,1,1,5,0,0,6],[3,2,0,0,0,1,0,0,3],[0,1,2,3,4,5,6,7],[8]⟩] 82 = some tt_gcomp := by kernel_rfl
theorem np_gcomp : npf Tryz.prog 82 = some 2 := by kernel_rfl
noncomputable def tt_gnod : Tree := (.rq (.cells 1 V0)
(.pub 39 V0
(.ef false Tryz.f113 1 0 [V1]
(.ret [V2]))))
theorem tr_gnod : tree Tryz.prog [1] [] [] [] 113 = some tt_gnod := by kernel_rfl
theorem np_gnod : npf Tryz.prog 113 = some 1 := by kernel_rfl
noncomputable def tt_gnod1 : Tree := (.loop []
(.pm Tryz.f137 0 0 [V1]
(.ru V2
(.br (.uo .neq V2 (.k (.int .u64 (0))))
(.pm Tryz.f137 2 1 [V1]
(.call false 79 [V3]
(.ef false Tryz.f137 2 3 [V0,V4]
(.rq (.bool V5)
(.br (.nt V5)
(.ret [])
(.pm Tryz.f137 1 0 [V1]
(.pm Tryz.f137 1 1 [V1]
(.ru V7
(.ru V6
(.ef false Tryz.f137 1 4 [V1,(.uo .and V6 (.uo .sub V7 (.k (.int .u64 (1)))))]
(.next 0 [])))))))))))
(.ret [])))))
theorem tr_gnod1 : tree Tryz.prog [] [] [⟨0,0,[],[]⟩] [] 137 = some tt_gnod1 := by kernel_rfl
theorem np_gnod1 : npf Tryz.prog 137 = some 2 := by kernel_rfl
theorem op_gnod1_0_0 : (opr Tryz.f137 0 0).op = .load 39 (.tmp 1) := by kernel_rfl
theorem op_gnod1_2_1 : (opr Tryz.f137 2 1).op = .load 39 (.tmp 1) := by kernel_rfl
theorem op_gnod1_2_3 : (opr Tryz.f137 2 3).op = .call ⟨.value (.tmp 9),#[(.tmp 11)],#[3]⟩ := by kernel_rfl
theorem op_gnod1_1_0 : (opr Tryz.f137 1 0).op = .load 39 (.tmp 1) := by kernel_rfl
theorem op_gnod1_1_1 : (opr Tryz.f137 1 1).op = .load 39 (.tmp 1) := by kernel_rfl
theorem op_gnod1_1_4 : (opr Tryz.f137 1 4).op = .store 39 (.tmp 1) (.tmp 8) := by kernel_rfl
noncomputable def tt_plab : Tree := (.pm Tryz.f50 1 1 [V0]
(.loop [(.k (.bool false)),(.ki 0)]
(.ri V4
(.ri V2
(.br (.io .lss V4 V2)
(.pm Tryz.f50 3 0 [V0,V4]
(.pm Tryz.f50 3 1 [V5]
(.ri V6
(.br (.io .lss V6 (.ki 0))
(.ret [(.k (.bool false))])
(.ri V1
(.br (.io .geq V6 V1)
(.ret [(.k (.bool false))])
(.next 0 [V3,(.io .add V4 (.ki 1))])))))))
(.pm Tryz.f50 7 1 [V0]
(.ri V5
(.br (.io .gtr V5 (.ki 0))
(.pm Tryz.f50 7 5 [V0]
(.ri V6
(.ret [(.io .leq V6 (.ki 64))])))
(.ret [(.k (.bool false))])))))))))
theorem tr_plab : tree Tryz.prog [] [] [⟨0,2,[],[]⟩] [] 50 = some tt_plab := by kernel_rfl
theorem np_plab : npf Tryz.prog 50 = some 2 := by kernel_rfl
noncomputable def tt_ppar : Tree := (.ef false Tryz.f71 1 1 [V1,V1]
(.pm Tryz.f71 2 1 [V0]
(.loop [(.ki 0)]
(.ri V4
(.ri V3
(.br (.io .lss V4 V3)
(.pm Tryz.f71 4 1 [V0,V4]
(.pm Tryz.f71 4 2 [V5]
(.pm Tryz.f71 5 2 [V2,V6]
(.pm Tryz.f71 5 3 [V7]
(.rq (.num V4)
(.rq (.nn V4)
(.ru V8
(.pm Tryz.f71 5 7 [V2,V6]
(.ef false Tryz.f71 5 8 [V9,(.uo .or V8 (.uo .shl (.k (.int .u64 (1))) V4))]
(.next 0 [(.io .add V4 (.ki 1))]))))))))))
(.loop [(.k (.slice none 0 0)),(.k (.bool false)),(.ki 0)]
(.ri V7
(.ri V1
(.br (.io .lss V7 V1)
(.pm Tryz.f71 10 2 [V2,V7]
(.pm Tryz.f71 10 3 [V8]
(.ru V9
(.br (.uo .eql V9 (.k (.int .u64 (0))))
(.ret [(.k (.slice none 0 0)),(.k (.bool false))])
(.next 1 [V5,V6,(.io .add V7 (.ki 1))])))))
(.ret [V2,(.k (.bool true))])))))))))))
theorem tr_ppar : tree Tryz.prog [] [] [⟨0,3,[],[]⟩,⟨0,8,[],[]⟩] [⟨5,[0,0,3,7,0,16,63,127,255],[0,0,1,1,0,0,0,1,8],[0,0,0,0,0,0,0,0,0],[0,1,2,3,4,5,6,7],[8]⟩] 71 = some tt_ppar := by kernel_rfl
theorem np_ppar : npf Tryz.prog 71 = some 2 := by kernel_rfl
noncomputable def tt_pdrw : Tree := (.rq (.cells 2 V0)
(.call false 18 [(.ag V0)]
(.ri V3
(.br (.io .neq V3 (.ki 0))
(.ret [(.k (.pointer none)),V3])
(.ri V2
(.br (.io .lss V2 (.ki 1))
(.ret [(.k (.pointer none)),(.ki 2)])
(.br (.io .gtr V2 (.ki 8))
(.ret [(.k (.pointer none)),(.ki 2)])
(.pm Tryz.f70 6 1 [V1]
(.ri V4
(.rq (.int .i64 (.cell V0 0 0 noI))
(.br (.io .neq V4 (.cell V0 0 0 noI))
(.ret [(.k (.pointer none)),(.ki 210)])
(.call false 50 [V1,V2]
(.rq (.bool V5)
(.br (.nt V5)
(.ret [(.k (.pointer none)),(.ki 210)])
(.call false 71 [V1,V2]
(.rq (.tup 0 V6)
(.rq (.tup 1 V6)
(.rq (.bool (.proj V6 1))
(.br (.nt (.proj V6 1))
(.ret [(.k (.pointer none)),(.ki 210)])
(.rq (.cells 1 V1)
(.rq (.cells 1 (.proj V6 0))
(.pub 173 (.cat (.ag V0) 2 (.put (.cat V1 1 (.z 83)) 1 1 (.proj V6 0) 0 noI))
(.ret [V7,(.ki 0)])))))))))))))))))))))))
theorem tr_pdrw : tree Tryz.prog [45] [] [] [] 70 = some tt_pdrw := by kernel_rfl
theorem np_pdrw : npf Tryz.prog 70 = some 3 := by kernel_rfl
noncomputable def tt_pchk : Tree := (.rq (.cells 2 V0)
(.call false 70 [(.ag V0),V1,V2]
(.rq (.tup 0 V3)
(.rq (.tup 1 V3)
(.ret [(.proj V3 1)])))))
theorem tr_pchk : tree Tryz.prog [] [] [] [] 39 = some tt_pchk := by kernel_rfl
theorem np_pchk : npf Tryz.prog 39 = some 3 := by kernel_rfl
noncomputable def tt_pcan : Tree := (.call false 50 [V0,(.ki 8)]
(.rq (.bool V1)
(.br (.nt V1)
(.ret [(.k (.slice none 0 0)),(.ki 210)])
(.ef false Tryz.f24 3 0 []
(.pm Tryz.f24 4 1 [V0]
(.ef false Tryz.f24 4 2 [V3,V3]
(.pm Tryz.f24 5 1 [V0]
(.loop [(.ki 0)]
(.ri V6
(.ri V5
(.br (.io .lss V6 V5)
(.pm Tryz.f24 7 1 [V0,V6]
(.pm Tryz.f24 7 2 [V7]
(.pm Tryz.f24 8 2 [V2,V8]
(.rq (.tup 0 V9)
(.rq (.tup 1 V9)
(.rq (.bool (.proj V9 1))
(.br (.nt (.proj V9 1))
(.pm Tryz.f24 10 1 [V2]
(.ef false Tryz.f24 11 3 [V2,V8,V10]
(.pm Tryz.f24 12 3 [V4,V6]
(.ef false Tryz.f24 12 4 [V12,V10]
(.next 0 [(.io .add V6 (.ki 1))])))))
(.pm Tryz.f24 12 3 [V4,V6]
(.ef false Tryz.f24 12 4 [V10,(.proj V9 0)]
(.next 0 [(.io .add V6 (.ki 1))]))))))))))
(.ret [V4,(.ki 0)]))))))))))))
theorem tr_pcan : tree Tryz.prog [] [] [⟨0,6,[],[]⟩] [] 24 = some tt_pcan := by kernel_rfl
theorem np_pcan : npf Tryz.prog 24 = some 1 := by kernel_rfl
noncomputable def tt_pmsk : Tree := (.ri V1
(.br (.io .lss V1 (.ki 1))
(.ret [(.k (.slice none 0 0)),(.ki 2)])
(.br (.io .gtr V1 (.ki 8))
(.ret [(.k (.slice none 0 0)),(.ki 2)])
(.call false 50 [V0,V1]
(.rq (.bool V2)
(.br (.nt V2)
(.ret [(.k (.slice none 0 0)),(.ki 210)])
(.call false 71 [V0,V1]
(.rq (.tup 0 V3)
(.rq (.tup 1 V3)
(.rq (.bool (.proj V3 1))
(.br (.nt (.proj V3 1))
(.ret [(.k (.slice none 0 0)),(.ki 210)])
(.ret [(.proj V3 0),(.ki 0)]))))))))))))
theorem tr_pmsk : tree Tryz.prog [] [] [] [] 40 = some tt_pmsk := by kernel_rfl
theorem np_pmsk : npf Tryz.prog 40 = some 2 := by kernel_rfl
end Go.Proofs.YtpdipcopnmiddaaGreatDoor


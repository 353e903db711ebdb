/- MADE BY rxgen.py (mkGT.py): trees of chapter 32. -/
import Derived.Test.YtpdipcopnmiddaaGreatDoorProg
import Derived.Test.YtpdipcopnmiddaaGreatDoorRxY
namespace Go.Proofs.YtpdipcopnmiddaaGreatDoor
open Go.RowKit Go.RX
set_option maxRecDepth 100000
noncomputable def tt_mchk : Tree := (.rq (.cells 2 V0)
(.rq (.cells 4 V1)
(.call false 18 [(.ag V0)]
(.ri V2
(.br (.io .neq V2 (.ki 0))
(.ret [V2])
(.pm Tryz.f6 4 2 [(.cell V1 0 0 noI)]
(.ri V3
(.rq (.int .i64 (.cell V0 0 0 noI))
(.br (.io .neq V3 (.cell V0 0 0 noI))
(.ret [(.ki 320)])
(.rq (.int .i64 (.cell V1 1 0 noI))
(.br (.io .lss (.cell V1 1 0 noI) (.ki 0))
(.ret [(.ki 320)])
(.rq (.int .i64 (.cell V1 2 0 noI))
(.br (.io .gtr (.cell V1 1 0 noI) (.cell V1 2 0 noI))
(.ret [(.ki 320)])
(.rq (.int .i64 (.cell V1 3 0 noI))
(.br (.io .lss (.cell V1 3 0 noI) (.ki 1))
(.ret [(.ki 320)])
(.br (.io .gtr (.cell V1 3 0 noI) (.ki 8))
(.ret [(.ki 320)])
(.call false 19 [(.cell V1 0 0 noI),(.k (.func (.func 20) #[] #[]))]
(.rq (.bool V4)
(.br V4
(.ret [(.ki 320)])
(.ret [(.ki 0)]))))))))))))))))))))
theorem tr_mchk : tree Tryz.prog [] [] [] [] 6 = some tt_mchk := by kernel_rfl
theorem np_mchk : npf Tryz.prog 6 = some 2 := by kernel_rfl
noncomputable def tt_mchk1 : Tree := (.ri V0
(.br (.io .lss V0 (.ki 0))
(.ret [(.k (.bool true))])
(.ret [(.io .gtr V0 (.ki 1000000000))])))
theorem tr_mchk1 : tree Tryz.prog [] [] [] [] 20 = some tt_mchk1 := by kernel_rfl
theorem np_mchk1 : npf Tryz.prog 20 = some 1 := by kernel_rfl
noncomputable def tt_mfit : Tree := (.rq (.cells 6 V0)
(.pub 65 V0
(.pm Tryz.f21 1 0 [V2]
(.pm Tryz.f21 1 1 [V3]
(.pm Tryz.f21 1 3 [V2]
(.pm Tryz.f21 1 4 [V5]
(.pm Tryz.f21 1 5 [V6]
(.call false 39 [V4,V1,V7]
(.ri V8
(.br (.io .neq V8 (.ki 0))
(.ret [(.k (.bool false))])
(.pm Tryz.f21 3 1 [V2]
(.pm Tryz.f21 3 2 [V9]
(.pm Tryz.f21 3 3 [V10]
(.call false 40 [V1,V11]
(.rq (.tup 0 V12)
(.rq (.tup 1 V12)
(.ef false Tryz.f21 4 1 [V2]
(.call false 41 [(.proj V12 0),V13]
(.rq (.bool V14)
(.ret [(.nt V14)]))))))))))))))))))))
theorem tr_mfit : tree Tryz.prog [2] [] [] [] 21 = some tt_mfit := by kernel_rfl
theorem np_mfit : npf Tryz.prog 21 = some 2 := by kernel_rfl
noncomputable def tt_mfit1 : Tree := (.pm Tryz.f42 1 0 [V1]
(.call false 43 [V2,V0]
(.rq (.bool V3)
(.ret [(.nt V3)]))))
theorem tr_mfit1 : tree Tryz.prog [] [] [] [] 42 = some tt_mfit1 := by kernel_rfl
theorem np_mfit1 : npf Tryz.prog 42 = some 2 := by kernel_rfl
noncomputable def tt_mall : Tree := (.rq (.cells 6 V0)
(.pub 65 V0
(.ef false Tryz.f43 1 1 [V2]
(.call false 73 [V1,V3]
(.pm Tryz.f43 2 0 [V2]
(.pm Tryz.f43 2 1 [V5]
(.call false 53 [V6,V1]
(.rq (.tup 0 V7)
(.rq (.tup 1 V7)
(.rq (.bool (.proj V7 0))
(.br (.proj V7 0)
(.pm Tryz.f43 3 3 [V2]
(.pm Tryz.f43 3 4 [V8]
(.pm Tryz.f43 3 5 [V9]
(.ri V4
(.ri V10
(.br (.io .geq V4 V10)
(.pm Tryz.f43 3 10 [V2]
(.pm Tryz.f43 3 11 [V11]
(.pm Tryz.f43 3 12 [V12]
(.ri V13
(.ret [(.io .leq V4 V13)])))))
(.ret [(.k (.bool false))])))))))
(.ret [(.k (.bool false))]))))))))))))
theorem tr_mall : tree Tryz.prog [2] [] [] [] 43 = some tt_mall := by kernel_rfl
theorem np_mall : npf Tryz.prog 43 = some 2 := by kernel_rfl
noncomputable def tt_mall1 : Tree := (.pm Tryz.f74 1 0 [V1]
(.pm Tryz.f74 1 1 [V2]
(.pm Tryz.f74 1 2 [V3]
(.pm Tryz.f74 1 4 [V4,V0]
(.pm Tryz.f74 1 5 [V5]
(.ret [V6]))))))
theorem tr_mall1 : tree Tryz.prog [] [] [] [] 74 = some tt_mall1 := by kernel_rfl
theorem np_mall1 : npf Tryz.prog 74 = some 2 := by kernel_rfl
noncomputable def tt_mtot : Tree := (.loop [(.ki 0),V0]
(.ru V3
(.br (.uo .neq V3 (.k (.int .u64 (0))))
(.call false 79 [V3]
(.ef false Tryz.f73 4 4 [V1,V4]
(.ri V2
(.ri V5
(.next 0 [(.io .add V2 V5),(.uo .and V3 (.uo .sub V3 (.k (.int .u64 (1)))))])))))
(.ret [V2]))))
theorem tr_mtot : tree Tryz.prog [] [] [⟨0,2,[],[]⟩] [] 73 = some tt_mtot := by kernel_rfl
theorem np_mtot : npf Tryz.prog 73 = some 2 := by kernel_rfl
noncomputable def tt_mbal : Tree := (.rq (.cells 6 V0)
(.pm Tryz.f23 2 1 [V2]
(.loop [(.k (.slice none 0 0)),(.ki 0)]
(.ri V5
(.ri V3
(.br (.io .lss V5 V3)
(.pm Tryz.f23 4 0 [V2,V5]
(.pm Tryz.f23 4 1 [V6]
(.call false 49 [(.sub V0 4 2 0 noI),V1,V2,V7]
(.rq (.tup 0 V8)
(.rq (.tup 1 V8)
(.rq (.tup 2 V8)
(.call false 43 [(.ag V0),(.proj V8 0)]
(.rq (.bool V9)
(.br V9
(.call false 43 [(.ag V0),(.proj V8 1)]
(.rq (.bool V10)
(.br V10
(.ef false Tryz.f23 7 2 [V7]
(.ef false Tryz.f23 7 3 [V4,V11]
(.next 0 [V12,(.io .add V5 (.ki 1))])))
(.next 0 [V4,(.io .add V5 (.ki 1))]))))
(.next 0 [V4,(.io .add V5 (.ki 1))]))))))))))
(.ret [V4])))))))
theorem tr_mbal : tree Tryz.prog [] [] [⟨0,3,[],[]⟩] [] 23 = some tt_mbal := by kernel_rfl
theorem np_mbal : npf Tryz.prog 23 = some 3 := by kernel_rfl
noncomputable def tt_mAll : Tree := (.rq (.cells 2 V0)
(.rq (.cells 4 V1)
(.call false 6 [(.ag V0),(.ag V1)]
(.ri V3
(.br (.io .neq V3 (.ki 0))
(.ret [(.k (.bool false)),V3])
(.call false 21 [(.cat (.ag V1) 4 (.ag V0)),V2]
(.ret [V4,(.ki 0)])))))))
theorem tr_mAll : tree Tryz.prog [] [] [] [] 7 = some tt_mAll := by kernel_rfl
theorem np_mAll : npf Tryz.prog 7 = some 3 := by kernel_rfl
noncomputable def tt_mBal : Tree := (.rq (.cells 2 V0)
(.rq (.cells 4 V1)
(.call false 6 [(.ag V0),(.ag V1)]
(.ri V4
(.br (.io .neq V4 (.ki 0))
(.ret [(.k (.slice none 0 0)),V4])
(.call false 22 [(.ag V0),V2,V3]
(.ri V5
(.br (.io .neq V5 (.ki 0))
(.ret [(.k (.slice none 0 0)),V5])
(.call false 23 [(.cat (.ag V1) 4 (.ag V0)),V2,V3]
(.ret [V6,(.ki 0)]))))))))))
theorem tr_mBal : tree Tryz.prog [] [] [] [] 8 = some tt_mBal := by kernel_rfl
theorem np_mBal : npf Tryz.prog 8 = some 4 := by kernel_rfl
noncomputable def tt_mrec : Tree := (.call false 88 [V0]
(.pm Tryz.f56 2 1 [V0]
(.loop [(.ki 0)]
(.ri V6
(.ri V5
(.br (.io .lss V6 V5)
(.pm Tryz.f56 4 1 [V0,V6]
(.pm Tryz.f56 4 2 [V7]
(.ri V8
(.ri V1
(.br (.io .neq V8 V1)
(.ri V2
(.br (.io .neq V8 V2)
(.next 0 [(.io .add V6 (.ki 1))])
(.pm Tryz.f56 6 3 [V4,V6]
(.ef false Tryz.f56 6 4 [V9,V2]
(.ru V3
(.rq (.num V6)
(.rq (.nn V6)
(.br (.uo .eql (.uo .and (.uo .shr V3 V6) (.k (.int .u64 (1)))) (.k (.int .u64 (1))))
(.pm Tryz.f56 8 3 [V4,V6]
(.ef false Tryz.f56 8 4 [V11,V1]
(.next 0 [(.io .add V6 (.ki 1))])))
(.next 0 [(.io .add V6 (.ki 1))])))))))))
(.pm Tryz.f56 6 3 [V4,V6]
(.ef false Tryz.f56 6 4 [V9,V2]
(.ru V3
(.rq (.num V6)
(.rq (.nn V6)
(.br (.uo .eql (.uo .and (.uo .shr V3 V6) (.k (.int .u64 (1)))) (.k (.int .u64 (1))))
(.pm Tryz.f56 8 3 [V4,V6]
(.ef false Tryz.f56 8 4 [V11,V1]
(.next 0 [(.io .add V6 (.ki 1))])))
(.next 0 [(.io .add V6 (.ki 1))]))))))))))))
(.call false 24 [V4]
(.rq (.tup 0 V7)
(.rq (.tup 1 V7)
(.ret [(.proj V7 0)]))))))))))
theorem tr_mrec : tree Tryz.prog [] [] [⟨0,3,[],[]⟩] [] 56 = some tt_mrec := by kernel_rfl
theorem np_mrec : npf Tryz.prog 56 = some 4 := by kernel_rfl
noncomputable def tt_mbet : Tree := (.rq (.cells 6 V0)
(.pm Tryz.f55 2 3 [(.cell V0 5 0 noI)]
(.loop [(.ki 0),(.ki 0)]
(.ri V5
(.ri V3
(.br (.io .lss V5 V3)
(.pm Tryz.f55 4 0 [(.cell V0 5 0 noI),V5]
(.pm Tryz.f55 4 1 [V6]
(.rq (.cells 2 V7)
(.rq (.num (.cell V7 0 0 noI))
(.rq (.nn (.cell V7 0 0 noI))
(.rq (.num (.cell V7 1 0 noI))
(.rq (.nn (.cell V7 1 0 noI))
(.ru V1
(.br (.uo .neq (.uo .and V1 (.uo .shl (.k (.int .u64 (1))) (.cell V7 0 0 noI))) (.k (.int .u64 (0))))
(.ru V2
(.br (.uo .neq (.uo .and V2 (.uo .shl (.k (.int .u64 (1))) (.cell V7 1 0 noI))) (.k (.int .u64 (0))))
(.ri V4
(.next 0 [(.io .add V4 (.ki 1)),(.io .add V5 (.ki 1))]))
(.br (.uo .neq (.uo .and V1 (.uo .shl (.k (.int .u64 (1))) (.cell V7 1 0 noI))) (.k (.int .u64 (0))))
(.br (.uo .neq (.uo .and V2 (.uo .shl (.k (.int .u64 (1))) (.cell V7 0 0 noI))) (.k (.int .u64 (0))))
(.ri V4
(.next 0 [(.io .add V4 (.ki 1)),(.io .add V5 (.ki 1))]))
(.next 0 [V4,(.io .add V5 (.ki 1))]))
(.next 0 [V4,(.io .add V5 (.ki 1))]))))
(.br (.uo .neq (.uo .and V1 (.uo .shl (.k (.int .u64 (1))) (.cell V7 1 0 noI))) (.k (.int .u64 (0))))
(.ru V2
(.br (.uo .neq (.uo .and V2 (.uo .shl (.k (.int .u64 (1))) (.cell V7 0 0 noI))) (.k (.int .u64 (0))))
(.ri V4
(.next 0 [(.io .add V4 (.ki 1)),(.io .add V5 (.ki 1))]))
(.next 0 [V4,(.io .add V5 (.ki 1))])))
(.next 0 [V4,(.io .add V5 (.ki 1))])))))))))))
(.ret [V4])))))))
theorem tr_mbet : tree Tryz.prog [] [] [⟨0,3,[],[]⟩] [⟨5,[0,1,3,0,8,24,7,127],[0,5,0,0,5,0,0,0],[0,1,0,0,1,0,0,0],[0,1,2,3,4,5,6,7],[]⟩] 55 = some tt_mbet := by kernel_rfl
theorem np_mbet : npf Tryz.prog 55 = some 3 := by kernel_rfl
noncomputable def tt_mpai : Tree := (.loop [(.k (.slice none 0 0)),(.ki 0)]
(.ri V2
(.ri V0
(.br (.io .lss V2 V0)
(.loop [V1,(.io .add V2 (.ki 1))]
(.ri V4
(.br (.io .lss V4 V0)
(.rq (.cells 1 V2)
(.rq (.cells 1 V4)
(.ef false Tryz.f52 8 4 [(.put (.put (.z 31) 0 1 V2 0 noI) 1 1 V4 0 noI)]
(.ef false Tryz.f52 8 5 [V3,V5]
(.next 1 [V6,(.io .add V4 (.ki 1))])))))
(.next 0 [V3,(.io .add V2 (.ki 1))]))))
(.ret [V1])))))
theorem tr_mpai : tree Tryz.prog [] [] [⟨0,3,[],[]⟩,⟨0,6,[],[]⟩] [] 52 = some tt_mpai := by kernel_rfl
theorem np_mpai : npf Tryz.prog 52 = some 1 := by kernel_rfl
noncomputable def tt_mkey : Tree := (.pub 79 (.z 79)
(.pm Tryz.f32 2 0 [V1]
(.ef false Tryz.f32 2 2 [V2,V0]
(.pm Tryz.f32 3 0 [V1]
(.rq (.cells 12 V4)
(.ret [(.ag V4)]))))))
theorem tr_mkey : tree Tryz.prog [3] [] [] [] 32 = some tt_mkey := by kernel_rfl
theorem np_mkey : npf Tryz.prog 32 = some 1 := by kernel_rfl
noncomputable def tt_mpar : Tree := (.rq (.cells 1 V0)
(.pub 39 V0
(.ef false Tryz.f92 1 0 [V1]
(.ret [V2]))))
theorem tr_mpar : tree Tryz.prog [1] [] [] [] 92 = some tt_mpar := by kernel_rfl
theorem np_mpar : npf Tryz.prog 92 = some 1 := by kernel_rfl
noncomputable def tt_mpar1 : Tree := (.pm Tryz.f121 0 0 [V1]
(.pm Tryz.f121 0 1 [V1]
(.ru V3
(.ru V2
(.pm Tryz.f121 1 0 [V1]
(.ru V4
(.loop [(.uo .andNot V4 (.uo .and V2 (.op1 .neg .u64 V3)))]
(.ru V5
(.br (.uo .neq V5 (.k (.int .u64 (0))))
(.ef false Tryz.f121 5 4 [V0,(.uo .or (.uo .and (.uo .sub V5 (.k (.int .u64 (1)))) (.uo .andNot V4 (.uo .and V2 (.op1 .neg .u64 V3)))) (.uo .and V2 (.op1 .neg .u64 V3)))]
(.rq (.bool V6)
(.br (.nt V6)
(.ret [])
(.next 0 [(.uo .and (.uo .sub V5 (.k (.int .u64 (1)))) (.uo .andNot V4 (.uo .and V2 (.op1 .neg .u64 V3))))]))))
(.ret []))))))))))
theorem tr_mpar1 : tree Tryz.prog [] [] [⟨0,3,[],[]⟩] [] 121 = some tt_mpar1 := by kernel_rfl
theorem np_mpar1 : npf Tryz.prog 121 = some 2 := by kernel_rfl
theorem op_mpar1_0_0 : (opr Tryz.f121 0 0).op = .load 39 (.tmp 1) := by kernel_rfl
theorem op_mpar1_0_1 : (opr Tryz.f121 0 1).op = .load 39 (.tmp 1) := by kernel_rfl
theorem op_mpar1_1_0 : (opr Tryz.f121 1 0).op = .load 39 (.tmp 1) := by kernel_rfl
theorem op_mpar1_5_4 : (opr Tryz.f121 5 4).op = .call ⟨.value (.tmp 20),#[(.tmp 23)],#[39]⟩ := by kernel_rfl
noncomputable def tt_mcou : Tree := (.rq (.cells 6 V0)
(.call false 119 [(.sub V0 4 2 0 noI),V1]
(.rq (.tup 0 V2)
(.rq (.tup 1 V2)
(.rq (.cells 8 (.proj V2 0))
(.call false 107 [(.ag (.proj V2 0))]
(.call false 66 [V3]
(.rq (.cells 4 V4)
(.ret [(.ag V4)])))))))))
theorem tr_mcou : tree Tryz.prog [] [] [] [] 90 = some tt_mcou := by kernel_rfl
theorem np_mcou : npf Tryz.prog 90 = some 2 := by kernel_rfl
noncomputable def tt_modd : Tree := (.rq (.cells 6 V0)
(.rq (.cells 1 V1)
(.ef false Tryz.f59 1 0 []
(.rq (.cells 1 V2)
(.call false 40 [(.cell V1 0 0 noI),(.cell V0 3 0 noI)]
(.rq (.tup 0 V3)
(.rq (.tup 1 V3)
(.call false 52 [(.cell V0 3 0 noI)]
(.pm Tryz.f59 4 1 [V4]
(.loop [(.ki 0)]
(.ri V6
(.ri V5
(.br (.io .lss V6 V5)
(.pm Tryz.f59 6 0 [V4,V6]
(.pm Tryz.f59 6 1 [V7]
(.rq (.cells 2 V8)
(.pm Tryz.f59 7 3 [(.proj V3 0),(.cell V8 0 0 noI)]
(.pm Tryz.f59 7 4 [V9]
(.pm Tryz.f59 7 8 [(.proj V3 0),(.cell V8 1 0 noI)]
(.pm Tryz.f59 7 9 [V11]
(.ru V10
(.ru V12
(.call false 90 [(.ag V0),(.uo .or V10 V12)]
(.rq (.cells 4 V13)
(.call false 61 [(.sub V13 0 2 0 noI)]
(.ri V14
(.br (.io .eql V14 (.ki 0))
(.next 0 [(.io .add V6 (.ki 1))])
(.rq (.int .i64 (.cell V0 4 0 noI))
(.pm Tryz.f59 10 6 [V4]
(.ri V15
(.call true 34 [(.io .mul (.io .sub (.cell V0 4 0 noI) (.ki 1)) V15)]
(.call true 91 [(.ag V13),V16]
(.rq (.cells 4 V17)
(.call false 92 [(.uo .or V10 V12)]
(.rf V18 1 []
(.call false 56 [(.cell V1 0 0 noI),(.cell V8 0 0 noI),(.cell V8 1 0 noI),V19]
(.call false 43 [(.ag V0),V19]
(.rq (.bool V21)
(.br V21
(.ru V19
(.call false 43 [(.ag V0),(.uo .andNot (.uo .or V10 V12) V19)]
(.rq (.bool V22)
(.br V22
(.call false 32 [(.cell V1 0 0 noI)]
(.call false 32 [V20]
(.pm Tryz.f59 14 15 [V23,V24]
(.rq (.bool V25)
(.br V25
(.call true 32 [V20]
(.call true 90 [(.ag V0),V19]
(.call true 90 [(.ag V0),(.uo .andNot (.uo .or V10 V12) V19)]
(.call true 91 [V27,V28]
(.call true 93 [V29,(.ag V17)]
(.ef false Tryz.f59 15 14 [(.cell V2 0 0 noI),V26,V30]
(.next 1 [])))))))
(.next 1 []))))))
(.next 1 [])))))
(.next 1 [])))))
(.next 0 [(.io .add V6 (.ki 1))])
(.dead 818)))))))))))))))))))))))
(.ret [(.cell V2 0 0 noI)]))))))))))))))
theorem tr_modd : tree Tryz.prog [] [] [⟨0,5,[],[]⟩,⟨4,13,[],[]⟩] [⟨7,[0,0,2,7,15,0,0,64,224,480,1023,0,4095],[0,0,5,1,1,0,0,5,1,1,0,3,4],[0,0,3,0,0,0,0,3,0,0,0,0,0],[0,1,2,3,4,5,6,7,8,9,10,11],[12]⟩,⟨10,[0,0,2,6,14,0,32,126,254,511,0,2047],[5,0,0,5,0,0,1,0,2,2,3,4],[5,0,0,0,0,0,0,0,0,0,0,0],[0,1,2,3,4,5,6,7,8,9,10],[11]⟩,⟨15,[0,0,2,0,0,30,0,0,0,384,1022,2046,0,8190,16383],[5,0,2,5,0,2,5,5,0,0,2,2,5,2,4],[2,0,0,0,0,0,0,4,0,0,0,0,6,0,0],[0,1,3,4,6,7,8,9,12,2,5,10,11,13],[14]⟩] 59 = some tt_modd := by kernel_rfl
theorem np_modd : npf Tryz.prog 59 = some 2 := by kernel_rfl
noncomputable def tt_mallp : Tree := (.rq (.cells 6 V0)
(.call false 59 [(.ag V0),V1]
(.call false 34 [(.ki 1)]
(.rq (.cells 4 V3)
(.ef false Tryz.f27 3 1 [V2]
(.loop [V3]
(.ef false Tryz.f27 4 0 [V4]
(.rq (.tup 0 V6)
(.rq (.bool (.proj V6 0))
(.br (.proj V6 0)
(.ef false Tryz.f27 5 0 [V4]
(.rq (.tup 1 V7)
(.rq (.cells 4 (.proj V7 1))
(.call false 60 [(.ag V5),(.ag (.proj V7 1))]
(.rq (.cells 4 V8)
(.next 0 [V8]))))))
(.call false 61 [(.sub V5 0 2 0 noI)]
(.ri V7
(.br (.io .gtr V7 (.ki 0))
(.call true 32 [V1]
(.ef false Tryz.f27 8 4 [V2,V8,(.ag V5)]
(.ret [V2])))
(.ret [V2]))))))))))))))
theorem tr_mallp : tree Tryz.prog [] [] [⟨0,4,[],[1]⟩] [⟨8,[0,0,2,0,15],[0,0,2,5,4],[0,0,0,1,0],[0,1,3,2],[4]⟩] 27 = some tt_mallp := by kernel_rfl
theorem np_mallp : npf Tryz.prog 27 = some 2 := by kernel_rfl
noncomputable def tt_msma : Tree := (.rq (.cells 2 V0)
(.rq (.cells 4 V1)
(.call false 6 [(.ag V0),(.ag V1)]
(.ri V3
(.br (.io .neq V3 (.ki 0))
(.ret [V3])
(.rq (.int .i64 (.cell V0 0 0 noI))
(.br (.io .gtr (.cell V0 0 0 noI) (.ki 12))
(.ret [(.ki 3)])
(.ef false Tryz.f26 6 3 [(.cat (.ag V1) 4 (.ag V0))]
(.pub 66 (.z 66)
(.ef false Tryz.f26 6 5 [V5,V4]
(.ef false Tryz.f26 7 1 [V5]
(.call false 57 [V2,V7]
(.rq (.bool V8)
(.br V8
(.ret [(.ki 8)])
(.ret [(.ki 0)])))))))))))))))
theorem tr_msma : tree Tryz.prog [8] [] [] [] 26 = some tt_msma := by kernel_rfl
theorem np_msma : npf Tryz.prog 26 = some 3 := by kernel_rfl
noncomputable def tt_msma1 : Tree := (.pm Tryz.f58 1 0 [V1]
(.ef false Tryz.f58 1 2 [V2,V0]
(.rq (.bool V3)
(.ret [(.nt V3)]))))
theorem tr_msma1 : tree Tryz.prog [] [] [] [] 58 = some tt_msma1 := by kernel_rfl
theorem np_msma1 : npf Tryz.prog 58 = some 2 := by kernel_rfl
noncomputable def tt_mOdds : Tree := (.rq (.cells 2 V0)
(.rq (.cells 4 V1)
(.ef false Tryz.f10 1 3 [V2]
(.call false 26 [(.ag V0),(.ag V1),V3]
(.ri V4
(.br (.io .neq V4 (.ki 0))
(.ret [(.k (.slice none 0 0)),(.k (.slice none 0 0)),V4])
(.call false 24 [V2]
(.rq (.tup 0 V5)
(.rq (.tup 1 V5)
(.call false 27 [(.cat (.ag V1) 4 (.ag V0)),(.proj V5 0)]
(.ef false Tryz.f10 6 1 [V6]
(.loop [(.k (.slice none 0 0))]
(.ef false Tryz.f10 7 0 [V7]
(.rq (.tup 0 V9)
(.rq (.bool (.proj V9 0))
(.br (.proj V9 0)
(.ef false Tryz.f10 8 0 [V7]
(.rq (.tup 0 V10)
(.pub 79 (.z 79)
(.ef false Tryz.f10 8 3 [V11,(.proj V10 0)]
(.pm Tryz.f10 9 3 [V11,(.cell V0 0 0 noI)]
(.call false 28 [V13]
(.ef false Tryz.f10 9 5 [V14]
(.ef false Tryz.f10 9 6 [V8,V15]
(.next 0 [V16])))))))))
(.call false 29 [V8,(.k (.func (.func 30) #[] #[]))]
(.pm Tryz.f10 11 1 [V8]
(.loop [V8,(.ki 0),(.k (.slice none 0 0)),(.ki 0)]
(.ri V15
(.ri V11
(.br (.io .lss V15 V11)
(.pm Tryz.f10 13 0 [V8,V15]
(.pm Tryz.f10 13 1 [V16]
(.call false 32 [V17]
(.pm Tryz.f10 14 3 [V6,V18]
(.call false 33 [V19]
(.rq (.tup 0 V20)
(.rq (.tup 1 V20)
(.rq (.cells 16 (.proj V20 0))
(.rq (.int .i64 (.proj V20 1))
(.br (.io .neq (.proj V20 1) (.ki 0))
(.ret [(.k (.slice none 0 0)),(.k (.slice none 0 0)),(.proj V20 1)])
(.ef false Tryz.f10 17 2 [(.ag (.proj V20 0))]
(.ef false Tryz.f10 17 3 [V14,V21]
(.next 1 [V12,V13,V22,(.io .add V15 (.ki 1))])))))))))))))
(.ret [V12,V14,(.ki 0)])))))))))))))))))))))))
theorem tr_mOdds : tree Tryz.prog [11] [] [⟨0,7,[],[]⟩,⟨0,12,[],[]⟩] [] 10 = some tt_mOdds := by kernel_rfl
theorem np_mOdds : npf Tryz.prog 10 = some 3 := by kernel_rfl
noncomputable def tt_mOdds1 : Tree := (.call false 31 [V0,V1]
(.ret [V2]))
theorem tr_mOdds1 : tree Tryz.prog [] [] [] [] 30 = some tt_mOdds1 := by kernel_rfl
theorem np_mOdds1 : npf Tryz.prog 30 = some 2 := by kernel_rfl
noncomputable def tt_mGo : Tree := (.rq (.cells 2 V0)
(.rq (.cells 4 V1)
(.ef false Tryz.f11 1 4 [V2,V3]
(.call false 26 [(.ag V0),(.ag V1),V4]
(.ri V5
(.br (.io .neq V5 (.ki 0))
(.ret [(.cat (.z 50) 8 (.z 50)),V5])
(.call false 24 [V2]
(.rq (.tup 0 V6)
(.rq (.tup 1 V6)
(.call false 24 [V3]
(.rq (.tup 0 V7)
(.rq (.tup 1 V7)
(.call false 27 [(.cat (.ag V1) 4 (.ag V0)),(.proj V6 0)]
(.call false 32 [(.proj V7 0)]
(.pm Tryz.f11 6 7 [V8,V9]
(.rq (.tup 0 V10)
(.rq (.tup 1 V10)
(.rq (.cells 4 (.proj V10 0))
(.rq (.bool (.proj V10 1))
(.br (.proj V10 1)
(.call false 33 [(.ag (.proj V10 0))]
(.rq (.tup 0 V11)
(.rq (.tup 1 V11)
(.rq (.cells 16 (.proj V11 0))
(.ret [(.ag (.proj V11 0)),(.proj V11 1)])))))
(.call false 34 [(.ki 0)]
(.call false 33 [V11]
(.rq (.tup 0 V12)
(.rq (.tup 1 V12)
(.rq (.cells 16 (.proj V12 0))
(.ret [(.ag (.proj V12 0)),(.proj V12 1)]))))))))))))))))))))))))))
theorem tr_mGo : tree Tryz.prog [] [] [] [] 11 = some tt_mGo := by kernel_rfl
theorem np_mGo : npf Tryz.prog 11 = some 4 := by kernel_rfl
noncomputable def tt_mStep : Tree := (.rq (.cells 2 V0)
(.rq (.cells 4 V1)
(.rq (.cells 1 V3)
(.call false 6 [(.ag V0),(.ag V1)]
(.ri V4
(.br (.io .neq V4 (.ki 0))
(.ret [(.k (.slice none 0 0)),(.k (.bool false)),(.z 42),V4])
(.pub 71 (.cat (.cat (.ag V1) 4 (.ag V0)) 6 (.cat (.ag V3) 1 (.z 32)))
(.pm Tryz.f9 5 1 [V5]
(.pm Tryz.f9 5 2 [V6]
(.pm Tryz.f9 5 3 [V7]
(.call false 21 [V8,V2]
(.rq (.bool V9)
(.br (.nt V9)
(.ret [(.k (.slice none 0 0)),(.k (.bool false)),(.z 42),(.ki 8)])
(.call false 24 [V2]
(.rq (.tup 0 V10)
(.rq (.tup 1 V10)
(.call false 25 [V5,(.proj V10 0)]
(.pm Tryz.f9 9 1 [V5]
(.pm Tryz.f9 9 2 [V12]
(.pm Tryz.f9 9 3 [V13]
(.ri V14
(.br (.io .neq V14 (.ki 0))
(.pm Tryz.f9 10 2 [V5]
(.pm Tryz.f9 10 3 [V15]
(.pm Tryz.f9 10 4 [V16]
(.ret [(.k (.slice none 0 0)),(.k (.bool false)),(.z 42),V17]))))
(.pm Tryz.f9 11 6 [V5]
(.pm Tryz.f9 11 7 [V15]
(.pm Tryz.f9 11 8 [V16]
(.call true 13 [(.proj V10 0),V11]
(.rq (.bool V18)
(.rq (.cells 1 V17)
(.ret [V11,(.nt V18),(.ag V17),(.ki 0)])))))))))))))))))))))))))))))
theorem tr_mStep : tree Tryz.prog [26] [] [] [⟨10,[0,0,2,6,14,0,32,97,255],[0,0,7,7,7,0,0,6,0],[0,0,0,0,0,0,0,3,0],[0,1],[2,3,4,5,6,7,8]⟩,⟨11,[0,0,0,6,14,0,32,96,224,15,543,2047,4095],[0,0,0,2,0,0,1,1,1,0,0,6,0],[0,0,0,0,0,0,0,0,0,0,0,3,0],[0,1,2,5,6,7,8,3,4,9,10],[11,12]⟩] 9 = some tt_mStep := by kernel_rfl
theorem np_mStep : npf Tryz.prog 9 = some 4 := by kernel_rfl
end Go.Proofs.YtpdipcopnmiddaaGreatDoor


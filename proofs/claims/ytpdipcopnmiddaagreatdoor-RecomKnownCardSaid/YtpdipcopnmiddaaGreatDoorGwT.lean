/- MADE BY rxgen.py (mkGT.py): trees of chapter 32. -/
import Derived.Test.YtpdipcopnmiddaaGreatDoorProg
import Derived.Test.YtpdipcopnmiddaaGreatDoorRxY
namespace Go.Proofs.YtpdipcopnmiddaaGreatDoor
open Go.RowKit Go.RX
set_option maxRecDepth 100000
noncomputable def tt_wbel : Tree := (.pm Tryz.f51 1 1 [V0]
(.pm Tryz.f51 1 2 [V2]
(.pm Tryz.f51 1 3 [V3]
(.ri V4
(.br (.io .neq V4 (.ki 0))
(.ret [(.ki 0)])
(.pm Tryz.f51 3 1 [V0]
(.pm Tryz.f51 3 2 [V5]
(.pm Tryz.f51 3 3 [V6]
(.call false 80 [V7,V1]
(.rq (.tup 0 V8)
(.rq (.tup 1 V8)
(.rq (.tup 2 V8)
(.rq (.cells 1 (.proj V8 1))
(.pm Tryz.f51 4 4 [V0]
(.pm Tryz.f51 4 5 [V9]
(.ef false Tryz.f51 4 6 [V10,(.ag (.proj V8 1))]
(.pm Tryz.f51 4 7 [V0]
(.pm Tryz.f51 4 8 [V12]
(.ef false Tryz.f51 4 9 [V13,(.proj V8 2)]
(.ret [(.proj V8 0)]))))))))))))))))))))
theorem tr_wbel : tree Tryz.prog [] [] [] [] 51 = some tt_wbel := by kernel_rfl
theorem np_wbel : npf Tryz.prog 51 = some 2 := by kernel_rfl
noncomputable def tt_cBel : Tree := (.rq (.cells 1 V0)
(.ri V1
(.br (.io .lss V1 (.ki 1))
(.ret [(.ki 0),(.z 42),(.ki 2)])
(.call false 110 [(.ag V0)]
(.call false 111 [V2,(.cv .u64 V1)]
(.rq (.tup 0 V3)
(.rq (.tup 1 V3)
(.rq (.int .i64 (.proj V3 1))
(.br (.io .neq (.proj V3 1) (.ki 0))
(.ret [(.ki 0),(.z 42),(.proj V3 1)])
(.rq (.int .u64 (.proj V3 0))
(.pm Tryz.f80 7 3 [V2]
(.pm Tryz.f80 7 4 [V4]
(.pm Tryz.f80 7 5 [V5]
(.pm Tryz.f80 7 6 [V6]
(.rq (.cells 1 V7)
(.ret [(.cv .i64 (.proj V3 0)),(.ag V7),(.ki 0)]))))))))))))))))
theorem tr_cBel : tree Tryz.prog [] [] [] [⟨7,[0,1,0,4,12,28,60,3,255,511],[0,0,0,1,1,1,1,0,6,0],[0,0,0,0,0,0,0,0,1,0],[0,1,2,3,4,5,6,7],[8,9]⟩] 80 = some tt_cBel := by kernel_rfl
theorem np_cBel : npf Tryz.prog 80 = some 2 := by kernel_rfl
theorem op_cBel_7_3 : (opr Tryz.f80 7 3).op = .nilCheck (.tmp 28) := by kernel_rfl
theorem op_cBel_7_4 : (opr Tryz.f80 7 4).op = .fieldAddr 183 (.tmp 29) 0 := by kernel_rfl
theorem op_cBel_7_5 : (opr Tryz.f80 7 5).op = .fieldAddr 181 (.tmp 30) 0 := by kernel_rfl
theorem op_cBel_7_6 : (opr Tryz.f80 7 6).op = .load 42 (.tmp 31) := by kernel_rfl
noncomputable def tt_cfrm : Tree := (.rq (.cells 1 V0)
(.pub 183 (.ag V0)
(.ret [V1])))
theorem tr_cfrm : tree Tryz.prog [6] [] [] [] 110 = some tt_cfrm := by kernel_rfl
theorem np_cfrm : npf Tryz.prog 110 = some 1 := by kernel_rfl
noncomputable def tt_csbe : Tree := (.rq (.cells 1 V1)
(.pm Tryz.f111 1 1 [V0]
(.pm Tryz.f111 1 2 [V2]
(.ef false Tryz.f111 1 3 [V3]
(.rq (.int .u64 (.cell V1 0 0 noI))
(.rq (.nz (.cell V1 0 0 noI))
(.call false 136 [V4]
(.rf V5 1 [(.z 39),(.z 32)]
(.ru V6
(.br (.uo .leq V6 (.uo .sub (.op1 .neg .u64 (.uo .rem (.op1 .neg .u64 (.cell V1 0 0 noI)) (.cell V1 0 0 noI))) (.k (.int .u64 (1)))))
(.next 1 [(.uo .rem V6 (.cell V1 0 0 noI)),(.ki 0)])
(.br (.uo .eql (.uo .rem (.op1 .neg .u64 (.cell V1 0 0 noI)) (.cell V1 0 0 noI)) (.k (.int .u64 (0))))
(.next 1 [(.uo .rem V6 (.cell V1 0 0 noI)),(.ki 0)])
(.next 0 [V7,V8]))))
(.ret [(.k (.int .u64 (0))),(.ki 9)])
(.ret [(.cell V6 0 0 noI),(.cell V7 0 0 noI)])))))))))
theorem tr_csbe : tree Tryz.prog [] [] [⟨4,5,[],[1,2]⟩] [] 111 = some tt_csbe := by kernel_rfl
theorem np_csbe : npf Tryz.prog 111 = some 2 := by kernel_rfl
theorem op_csbe_1_1 : (opr Tryz.f111 1 1).op = .nilCheck (.tmp 9) := by kernel_rfl
theorem op_csbe_1_2 : (opr Tryz.f111 1 2).op = .fieldAddr 183 (.tmp 10) 0 := by kernel_rfl
theorem op_csbe_1_3 : (opr Tryz.f111 1 3).op = .makeFunc (.func 135) #[(.tmp 11)] #[] := by kernel_rfl
noncomputable def tt_cnxt : Tree := (.pm Tryz.f135 1 1 [V0]
(.pm Tryz.f135 1 2 [V1]
(.pm Tryz.f135 1 3 [V2]
(.pm Tryz.f135 1 4 [V3]
(.ru V4
(.pm Tryz.f135 1 6 [V0]
(.pm Tryz.f135 1 7 [V5]
(.pm Tryz.f135 1 8 [V6]
(.ef false Tryz.f135 1 9 [V7,(.uo .add V4 (.k (.int .u64 (11400714819323198485))))]
(.pm Tryz.f135 2 1 [V0]
(.pm Tryz.f135 2 2 [V9]
(.pm Tryz.f135 2 3 [V10]
(.pm Tryz.f135 2 4 [V11]
(.ru V12
(.ret [(.uo .xor (.uo .mul (.uo .xor (.uo .mul (.uo .xor V12 (.uo .shr V12 (.k (.int .u64 (30))))) (.k (.int .u64 (13787848793156543929)))) (.uo .shr (.uo .mul (.uo .xor V12 (.uo .shr V12 (.k (.int .u64 (30))))) (.k (.int .u64 (13787848793156543929)))) (.k (.int .u64 (27))))) (.k (.int .u64 (10723151780598845931)))) (.uo .shr (.uo .mul (.uo .xor (.uo .mul (.uo .xor V12 (.uo .shr V12 (.k (.int .u64 (30))))) (.k (.int .u64 (13787848793156543929)))) (.uo .shr (.uo .mul (.uo .xor V12 (.uo .shr V12 (.k (.int .u64 (30))))) (.k (.int .u64 (13787848793156543929)))) (.k (.int .u64 (27))))) (.k (.int .u64 (10723151780598845931)))) (.k (.int .u64 (31)))))])))))))))))))))
theorem tr_cnxt : tree Tryz.prog [] [] [] [] 135 = some tt_cnxt := by kernel_rfl
theorem np_cnxt : npf Tryz.prog 135 = some 1 := by kernel_rfl
theorem op_cnxt_1_1 : (opr Tryz.f135 1 1).op = .nilCheck (.tmp 4) := by kernel_rfl
theorem op_cnxt_1_2 : (opr Tryz.f135 1 2).op = .fieldAddr 181 (.tmp 5) 0 := by kernel_rfl
theorem op_cnxt_1_3 : (opr Tryz.f135 1 3).op = .fieldAddr 42 (.tmp 6) 0 := by kernel_rfl
theorem op_cnxt_1_4 : (opr Tryz.f135 1 4).op = .load 39 (.tmp 7) := by kernel_rfl
theorem op_cnxt_1_6 : (opr Tryz.f135 1 6).op = .nilCheck (.tmp 4) := by kernel_rfl
theorem op_cnxt_1_7 : (opr Tryz.f135 1 7).op = .fieldAddr 181 (.tmp 10) 0 := by kernel_rfl
theorem op_cnxt_1_8 : (opr Tryz.f135 1 8).op = .fieldAddr 42 (.tmp 11) 0 := by kernel_rfl
theorem op_cnxt_1_9 : (opr Tryz.f135 1 9).op = .store 39 (.tmp 12) (.tmp 9) := by kernel_rfl
theorem op_cnxt_2_1 : (opr Tryz.f135 2 1).op = .nilCheck (.tmp 13) := by kernel_rfl
theorem op_cnxt_2_2 : (opr Tryz.f135 2 2).op = .fieldAddr 181 (.tmp 14) 0 := by kernel_rfl
theorem op_cnxt_2_3 : (opr Tryz.f135 2 3).op = .fieldAddr 42 (.tmp 15) 0 := by kernel_rfl
theorem op_cnxt_2_4 : (opr Tryz.f135 2 4).op = .load 39 (.tmp 16) := by kernel_rfl
noncomputable def tt_ccan : Tree := (.rq (.cells 1 V0)
(.pub 199 V0
(.ef false Tryz.f136 1 0 [V1]
(.ret [V2]))))
theorem tr_ccan : tree Tryz.prog [1] [] [] [] 136 = some tt_ccan := by kernel_rfl
theorem np_ccan : npf Tryz.prog 136 = some 1 := by kernel_rfl
theorem op_ccan_1_0 : (opr Tryz.f136 1 0).op = .makeFunc (.func 157) #[] #[(.tmp 1)] := by kernel_rfl
noncomputable def tt_ccan1 : Tree := (.loop [(.ki 0)]
(.ri V2
(.br (.io .lss V2 (.ki 200))
(.pm Tryz.f157 2 1 [V1]
(.ef false Tryz.f157 2 2 [V3]
(.ef false Tryz.f157 2 3 [V0,V4]
(.rq (.bool V5)
(.br (.nt V5)
(.ret [])
(.next 0 [(.io .add V2 (.ki 1))]))))))
(.ret []))))
theorem tr_ccan1 : tree Tryz.prog [] [] [⟨0,1,[],[]⟩] [] 157 = some tt_ccan1 := by kernel_rfl
theorem np_ccan1 : npf Tryz.prog 157 = some 2 := by kernel_rfl
theorem op_ccan1_2_1 : (opr Tryz.f157 2 1).op = .load 199 (.tmp 1) := by kernel_rfl
theorem op_ccan1_2_2 : (opr Tryz.f157 2 2).op = .call ⟨.value (.tmp 6),#[],#[]⟩ := by kernel_rfl
theorem op_ccan1_2_3 : (opr Tryz.f157 2 3).op = .call ⟨.value (.tmp 5),#[(.tmp 7)],#[39]⟩ := by kernel_rfl
noncomputable def tt_wstp : Tree := (.ef false Tryz.f25 1 1 [V0]
(.pm Tryz.f25 2 1 [V0]
(.pm Tryz.f25 2 2 [V3]
(.pm Tryz.f25 2 3 [V4]
(.pm Tryz.f25 2 4 [V5]
(.pm Tryz.f25 2 5 [V6]
(.call false 52 [V7]
(.pm Tryz.f25 2 7 [V8]
(.pm Tryz.f25 3 1 [V9,(.ki 1)]
(.loop [(.k (.slice none 0 0)),(.ki 0)]
(.ri V12
(.ri V10
(.br (.io .lss V12 V10)
(.pm Tryz.f25 5 1 [V0]
(.pm Tryz.f25 5 2 [V13]
(.pm Tryz.f25 5 3 [V14]
(.pm Tryz.f25 5 4 [V15]
(.pm Tryz.f25 5 5 [V16]
(.call false 52 [V17]
(.ef false Tryz.f25 5 9 [V2,V9]
(.pm Tryz.f25 5 10 [V18,V19]
(.pm Tryz.f25 5 11 [V20]
(.rq (.cells 2 V21)
(.pm Tryz.f25 6 2 [V0]
(.pm Tryz.f25 6 3 [V22]
(.pm Tryz.f25 6 4 [V23]
(.pm Tryz.f25 6 5 [V24]
(.pm Tryz.f25 6 6 [V25]
(.call false 40 [V1,V26]
(.rq (.tup 0 V27)
(.rq (.tup 1 V27)
(.pm Tryz.f25 7 3 [(.proj V27 0),(.cell V21 0 0 noI)]
(.pm Tryz.f25 7 4 [V28]
(.pm Tryz.f25 7 8 [(.proj V27 0),(.cell V21 1 0 noI)]
(.pm Tryz.f25 7 9 [V30]
(.ru V29
(.ru V31
(.pm Tryz.f25 8 1 [V0]
(.pm Tryz.f25 8 2 [V32]
(.pm Tryz.f25 8 3 [V33]
(.pm Tryz.f25 8 4 [V34]
(.call false 53 [V35,(.uo .or V29 V31)]
(.rq (.tup 0 V36)
(.rq (.tup 1 V36)
(.rq (.bool (.proj V36 0))
(.br (.nt (.proj V36 0))
(.ret [V1])
(.pm Tryz.f25 9 4 [V0]
(.pm Tryz.f25 9 5 [V37]
(.pm Tryz.f25 9 6 [V38]
(.ri V39
(.br (.io .neq V39 (.ki 0))
(.ret [V1])
(.pm Tryz.f25 10 1 [V0]
(.pm Tryz.f25 10 2 [V40]
(.pm Tryz.f25 10 3 [V41]
(.pm Tryz.f25 10 4 [V42]
(.pm Tryz.f25 10 7 [V0]
(.pm Tryz.f25 10 8 [V44]
(.pm Tryz.f25 10 9 [V45]
(.call true 54 [V43,(.uo .or V29 V31),V46]
(.rq (.tup 0 V47)
(.rq (.tup 1 V47)
(.rq (.tup 2 V47)
(.rq (.cells 1 (.proj V47 1))
(.pm Tryz.f25 11 4 [V0]
(.pm Tryz.f25 11 5 [V48]
(.ef false Tryz.f25 11 6 [V49,(.ag (.proj V47 1))]
(.pm Tryz.f25 11 7 [V0]
(.pm Tryz.f25 11 8 [V51]
(.ef false Tryz.f25 11 9 [V52,(.proj V47 2)]
(.pm Tryz.f25 12 2 [V0]
(.pm Tryz.f25 12 3 [V54]
(.pm Tryz.f25 12 4 [V55]
(.pm Tryz.f25 12 5 [V56]
(.pm Tryz.f25 12 6 [V57]
(.ri V58
(.ef false Tryz.f25 12 8 [V2,(.io .sub V58 (.ki 1))]
(.pm Tryz.f25 13 1 [V0]
(.pm Tryz.f25 13 2 [V60]
(.pm Tryz.f25 13 3 [V61]
(.call false 23 [V62,(.uo .or V29 V31),(.proj V47 0)]
(.pm Tryz.f25 14 2 [V63]
(.ri V59
(.ri V64
(.br (.io .geq V59 V64)
(.ret [V1])
(.pm Tryz.f25 14 6 [V0]
(.pm Tryz.f25 14 7 [V65]
(.pm Tryz.f25 14 8 [V66]
(.ri V67
(.br (.io .neq V67 (.ki 0))
(.ret [V1])
(.pm Tryz.f25 15 1 [V0]
(.pm Tryz.f25 15 2 [V68]
(.pm Tryz.f25 15 3 [V69]
(.pm Tryz.f25 15 4 [V70]
(.pm Tryz.f25 15 9 [V63,V59]
(.pm Tryz.f25 15 10 [V72]
(.call true 49 [V71,(.uo .or V29 V31),(.proj V47 0),V73]
(.rq (.tup 0 V74)
(.rq (.tup 1 V74)
(.rq (.tup 2 V74)
(.pm Tryz.f25 16 2 [V0]
(.pm Tryz.f25 16 3 [V75]
(.pm Tryz.f25 16 4 [V76]
(.call false 55 [V77,(.proj V74 0),(.proj V74 1)]
(.ef false Tryz.f25 16 8 [V2,V78]
(.ri V79
(.br (.io .eql V79 (.ki 0))
(.call false 56 [V1,(.cell V21 0 0 noI),(.cell V21 1 0 noI),(.proj V74 0)]
(.ret [V80]))
(.next 0 [V11,(.io .add V12 (.ki 1))]))))))))))))))))))))))))))))))))))))))))))))))))))))))))))))))))))))))))))))))))))))))))))))))
(.ret [V1]))))))))))))))
theorem tr_wstp : tree Tryz.prog [] [] [⟨0,4,[],[]⟩] [⟨7,[0,0,2,7,15,0,0,64,224,480,1023,2047],[0,0,5,1,1,0,0,5,1,1,0,0],[0,0,0,0,0,0,0,0,0,0,0,0],[0,1,2,3,4,5,6,7,8,9,10,11],[]⟩,⟨10,[0,1,3,7,15,0,0,64,192,448,1023,2047,4095,4095,4095,0,40959,114687,262143],[0,1,1,1,1,0,0,1,1,1,2,0,0,0,0,3,0,4,0],[0,0,0,0,0,0,0,0,0,0,0,0,0,0,0,0,0,0,0],[0,1,2,3,4,5,6,7,8,9,10,11,12,13,14,15,16],[17,18]⟩,⟨15,[0,1,3,7,15,0,0,0,0,384,896,2047,4095,8191,8191,8191,16383,98303,262143],[0,1,1,1,1,0,0,0,0,1,1,2,0,0,0,0,0,0,0],[0,0,0,0,0,0,0,0,0,0,0,0,0,0,0,0,0,0,0],[0,1,2,3,4,5,6,7,8,9,10,11,12,13,14,15,16,17,18],[]⟩] 25 = some tt_wstp := by kernel_rfl
theorem np_wstp : npf Tryz.prog 25 = some 2 := by kernel_rfl
end Go.Proofs.YtpdipcopnmiddaaGreatDoor


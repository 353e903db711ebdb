/- MADE BY rxgen.py (mkGT.py): trees of chapter 32. -/
import Derived.Test.YtpdipcopnmiddaaGreatDoorProg
import Derived.Test.YtpdipcopnmiddaaGreatDoorRxY
namespace Go.Proofs.YtpdipcopnmiddaaGreatDoor
open Go.RowKit Go.RX
set_option maxRecDepth 100000
noncomputable def tt_r21equ : Tree := (.pm Tryz.f36 1 1 [V0]
(.pm Tryz.f36 1 3 [V1]
(.ri V2
(.ri V3
(.br (.io .neq V2 V3)
(.ret [(.k (.bool false))])
(.loop [(.k (.bool false)),(.ki 0)]
(.pm Tryz.f36 4 2 [V0]
(.ri V5
(.ri V6
(.br (.io .lss V5 V6)
(.pm Tryz.f36 6 2 [V0,V5]
(.pm Tryz.f36 6 3 [V7]
(.pm Tryz.f36 6 6 [V1,V5]
(.pm Tryz.f36 6 7 [V9]
(.ri V8
(.ri V10
(.br (.io .neq V8 V10)
(.ret [(.k (.bool false))])
(.next 0 [V4,(.io .add V5 (.ki 1))]))))))))
(.ret [(.k (.bool true))])))))))))))
theorem tr_r21equ : tree Tryz.prog [] [] [⟨0,4,[],[]⟩] [⟨6,[0,0,3,7,0,0,48,112,255],[0,0,1,1,0,0,1,1,0],[0,0,0,0,0,0,0,0,0],[0,1,2,3,4,5,6,7,8],[]⟩] 36 = some tt_r21equ := by kernel_rfl
theorem np_r21equ : npf Tryz.prog 36 = some 2 := by kernel_rfl
end Go.Proofs.YtpdipcopnmiddaaGreatDoor


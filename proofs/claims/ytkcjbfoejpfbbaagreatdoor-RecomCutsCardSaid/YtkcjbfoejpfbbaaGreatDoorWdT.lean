/- MADE BY rxgen.py: the trees of package wide. -/
import Derived.Test.YtkcjbfoejpfbbaaGreatDoorRows
import Derived.Test.YtkcjbfoejpfbbaaGreatDoorRxH
import Derived.KernelRfl
namespace Go.Proofs.YtkcjbfoejpfbbaaGreatDoor
open Go.Proofs.Tryz
open Go.RowKit Go.RX
theorem a0r:prog.follows .mixedOrders=true:=by kernel_rfl
noncomputable def b3s:Tree:=(.rq (.cells 8 V0)
(.rq (.cells 8 V1)
(.loop [(.k (.int .u64 (0))),(.ki 0),V0]
(.ri V3
(.br (.io .lss V3 (.ki 8))
(.rq (.num V3)
(.rq (.lt 8 V3)
(.ext 243 [(.cell V4 0 1 V3),(.cell V1 0 1 V3),V2]
(.rq (.tup 0 V5)
(.rq (.tup 1 V5)
(.rq (.cells 1 (.proj V5 0))
(.next 0 [(.proj V5 1),(.io .add V3 (.ki 1)),(.put V4 0 1 (.proj V5 0) 1 V3)])))))))
(.ret [(.ag V4),V2]))))))
theorem b3t:tree prog [] [] [⟨0,3,[],[0]⟩] [⟨5,[0,0,2,6,0,16,48,0,254,510,1022,1022,2047,6143,16383],[0,0,1,1,0,1,1,0,2,0,0,0,1,4,0],[0,0,0,0,0,0,0,0,0,0,0,0,0,0,0],[0,1,2,3,4,5,6,7,8,9,10,11,12],[13,14]⟩] 219=some b3s:=by kernel_rfl
noncomputable def b3u:Tree:=(.rq (.cells 8 V0)
(.rq (.cells 8 V1)
(.loop [(.ki 0),(.ki 7)]
(.ri V3
(.br (.io .geq V3 (.ki 0))
(.rq (.num V3)
(.rq (.lt 8 V3)
(.rq (.int .u64 (.cell V0 0 1 V3))
(.rq (.int .u64 (.cell V1 0 1 V3))
(.br (.uo .neq (.cell V0 0 1 V3) (.cell V1 0 1 V3))
(.br (.uo .lss (.cell V0 0 1 V3) (.cell V1 0 1 V3))
(.ret [(.k (.int .i64 (-1)))])
(.ret [(.ki 1)]))
(.next 0 [V2,(.io .sub V3 (.ki 1))]))))))
(.ret [(.ki 0)]))))))
theorem b3v:tree prog [] [] [⟨0,2,[],[]⟩] [⟨4,[0,1,3,0,8,24,63],[0,1,1,0,1,1,0],[0,0,0,0,0,0,0],[0,1,2,3,4,5,6],[]⟩,⟨5,[0,1,3,0,8,24,63],[0,1,1,0,1,1,0],[0,0,0,0,0,0,0],[0,1,2,3,4,5,6],[]⟩] 218=some b3u:=by kernel_rfl
noncomputable def b7P:Tree:=(.rq (.cells 8 V0)
(.rq (.int .u64 (.cell V0 7 0 noI))
(.br (.uo .eql (.uo .shr (.cell V0 7 0 noI) (.k (.int .u64 (63)))) (.k (.int .u64 (1))))
(.call false 219 [(.z 230),(.ag V0)]
(.rq (.tup 0 V1)
(.rq (.tup 1 V1)
(.rq (.cells 8 (.proj V1 0))
(.ret [(.cat (.uo .eql (.uo .shr (.cell V0 7 0 noI) (.k (.int .u64 (63)))) (.k (.int .u64 (1)))) 1 (.proj V1 0))])))))
(.ret [(.cat (.uo .eql (.uo .shr (.cell V0 7 0 noI) (.k (.int .u64 (63)))) (.k (.int .u64 (1)))) 1 (.ag V0))]))))
theorem b7Q:tree prog [] [] [] [] 166=some b7P:=by kernel_rfl
noncomputable def b7R:Tree:=(.rq (.cells 9 V0)
(.call false 218 [(.sub V0 1 8 0 noI),(.put (.z 230) 7 1 (.k (.int .u64 (9223372036854775808))) 0 noI)]
(.ri V1
(.br (.io .gtr V1 (.ki 0))
(.ret [(.z 53),(.ki 6)])
(.br (.io .eql V1 (.ki 0))
(.rq (.bool (.cell V0 0 0 noI))
(.br (.nt (.cell V0 0 0 noI))
(.ret [(.z 53),(.ki 6)])
(.call false 219 [(.z 230),(.sub V0 1 8 0 noI)]
(.rq (.tup 0 V2)
(.rq (.tup 1 V2)
(.rq (.cells 8 (.proj V2 0))
(.ret [(.ag (.proj V2 0)),(.ki 0)])))))))
(.rq (.bool (.cell V0 0 0 noI))
(.br (.cell V0 0 0 noI)
(.call false 219 [(.z 230),(.sub V0 1 8 0 noI)]
(.rq (.tup 0 V2)
(.rq (.tup 1 V2)
(.rq (.cells 8 (.proj V2 0))
(.ret [(.ag (.proj V2 0)),(.ki 0)])))))
(.ret [(.sub V0 1 8 0 noI),(.ki 0)]))))))))
theorem b7S:tree prog [] [] [] [] 165=some b7R:=by kernel_rfl
noncomputable def d2j:Tree:=(.ri V0
(.br (.io .lss V0 (.ki 0))
(.loop [(.ki 1),(.put (.z 53) 0 1 (.cv .u64 V0) 0 noI)]
(.ri V1
(.br (.io .lss V1 (.ki 8))
(.rq (.num V1)
(.rq (.lt 8 V1)
(.next 0 [(.io .add V1 (.ki 1)),(.put V2 0 1 (.k (.int .u64 (18446744073709551615))) 1 V1)])))
(.ret [(.ag V2)]))))
(.ret [(.put (.z 53) 0 1 (.cv .u64 V0) 0 noI)])))
theorem d2k:tree prog [] [] [⟨0,4,[],[1]⟩] [] 36=some d2j:=by kernel_rfl
theorem d2l:tree prog [] [] [] [⟨2,[0,1,0,7],[0,2,5,1],[0,0,0,0],[0,2,1,3],[]⟩] 34=some (.rq (.cells 8 V0)
(.rq (.int .u64 (.cell V0 0 0 noI))
(.call true 36 [(.cv .i64 (.cell V0 0 0 noI))]
(.pm f34 2 3 [V1,(.ag V0)]
(.rq (.bool V2)
(.br V2
(.ret [(.ki 0),(.ki 6)])
(.ret [(.cv .i64 (.cell V0 0 0 noI)),(.ki 0)]))))))):=by kernel_rfl
theorem c3T:tree prog [] [] [] [] 260=some (.ru V0
(.ru V1
(.ret [(.uo .add (.uo .add (.uo .mul (.uo .shr V0 (.k (.int .u64 (32)))) (.uo .shr V1 (.k (.int .u64 (32))))) (.uo .shr (.uo .add (.uo .mul (.uo .shr V0 (.k (.int .u64 (32)))) (.uo .and V1 (.k (.int .u64 (4294967295))))) (.uo .shr (.uo .mul (.uo .and V0 (.k (.int .u64 (4294967295)))) (.uo .and V1 (.k (.int .u64 (4294967295))))) (.k (.int .u64 (32))))) (.k (.int .u64 (32))))) (.uo .shr (.uo .add (.uo .and (.uo .add (.uo .mul (.uo .shr V0 (.k (.int .u64 (32)))) (.uo .and V1 (.k (.int .u64 (4294967295))))) (.uo .shr (.uo .mul (.uo .and V0 (.k (.int .u64 (4294967295)))) (.uo .and V1 (.k (.int .u64 (4294967295))))) (.k (.int .u64 (32))))) (.k (.int .u64 (4294967295)))) (.uo .mul (.uo .and V0 (.k (.int .u64 (4294967295)))) (.uo .shr V1 (.k (.int .u64 (32)))))) (.k (.int .u64 (32))))),(.uo .mul V0 V1)]))):=by kernel_rfl
theorem c3U:tree prog [] [(20,false),(24,false)] [⟨3,16,[2,8,9,10,11,13,14,15,16],[]⟩,⟨1,0,[15],[]⟩,⟨3,23,[17,18,16],[]⟩,⟨1,2,[18],[]⟩,⟨0,17,[],[]⟩,⟨0,24,[],[]⟩] [⟨6,[0,0,3,0,0,24,7,127],[0,0,0,0,0,0,0,0],[0,0,0,0,0,0,0,0],[0,1,2,3,4,5,6,7],[]⟩] 261=some (.ru V2
(.rq (.isb false (.uo .eql V2 (.k (.int .u64 (0)))))
(.ru V0
(.rq (.isb false (.uo .leq V2 V0))
(.br (.uo .eql V0 (.k (.int .u64 (0))))
(.ru V1
(.rq (.nz V2)
(.ret [(.uo .quo V1 V2),(.uo .rem V1 V2)])))
(.call false 268 [V2]
(.ri V3
(.rq (.nn (.cv .u64 V3))
(.ru V1
(.rq (.nn (.uo .sub (.k (.int .u64 (64))) (.cv .u64 V3)))
(.rq (.nz (.uo .shr (.uo .shl V2 (.cv .u64 V3)) (.k (.int .u64 (32)))))
(.join 9
(.next 0 [(.uo .shl V2 (.cv .u64 V3)),(.cv .u64 V3),(.uo .shr (.uo .shl V2 (.cv .u64 V3)) (.k (.int .u64 (32)))),(.uo .and (.uo .shl V2 (.cv .u64 V3)) (.k (.int .u64 (4294967295)))),(.uo .or (.uo .shl V0 (.cv .u64 V3)) (.uo .shr V1 (.uo .sub (.k (.int .u64 (64))) (.cv .u64 V3)))),(.uo .shr (.uo .shl V1 (.cv .u64 V3)) (.k (.int .u64 (32)))),(.uo .and (.uo .shl V1 (.cv .u64 V3)) (.k (.int .u64 (4294967295)))),(.uo .quo (.uo .or (.uo .shl V0 (.cv .u64 V3)) (.uo .shr V1 (.uo .sub (.k (.int .u64 (64))) (.cv .u64 V3)))) (.uo .shr (.uo .shl V2 (.cv .u64 V3)) (.k (.int .u64 (32))))),(.uo .sub (.uo .or (.uo .shl V0 (.cv .u64 V3)) (.uo .shr V1 (.uo .sub (.k (.int .u64 (64))) (.cv .u64 V3)))) (.uo .mul (.uo .quo (.uo .or (.uo .shl V0 (.cv .u64 V3)) (.uo .shr V1 (.uo .sub (.k (.int .u64 (64))) (.cv .u64 V3)))) (.uo .shr (.uo .shl V2 (.cv .u64 V3)) (.k (.int .u64 (32))))) (.uo .shr (.uo .shl V2 (.cv .u64 V3)) (.k (.int .u64 (32))))))])
(.join 1
(.loop [V11,V12]
(.ru V13
(.br (.uo .geq V13 (.k (.int .u64 (4294967296))))
(.ru V14
(.ru V6
(.br (.uo .geq (.uo .add V14 V6) (.k (.int .u64 (4294967296))))
(.next 0 [(.uo .sub V13 (.k (.int .u64 (1))))])
(.next 1 [(.uo .sub V13 (.k (.int .u64 (1)))),(.uo .add V14 V6)]))))
(.ru V7
(.ru V14
(.ru V9
(.br (.uo .gtr (.uo .mul V13 V7) (.uo .add (.uo .mul (.k (.int .u64 (4294967296))) V14) V9))
(.ru V6
(.br (.uo .geq (.uo .add V14 V6) (.k (.int .u64 (4294967296))))
(.next 0 [(.uo .sub V13 (.k (.int .u64 (1))))])
(.next 1 [(.uo .sub V13 (.k (.int .u64 (1)))),(.uo .add V14 V6)])))
(.next 0 [V13]))))))))
(.ru V8
(.ru V9
(.ru V13
(.ru V4
(.ru V6
(.rq (.nz V6)
(.join 3
(.next 0 [(.uo .sub (.uo .add (.uo .mul V8 (.k (.int .u64 (4294967296)))) V9) (.uo .mul V13 V4)),(.uo .quo (.uo .sub (.uo .add (.uo .mul V8 (.k (.int .u64 (4294967296)))) V9) (.uo .mul V13 V4)) V6),(.uo .sub (.uo .sub (.uo .add (.uo .mul V8 (.k (.int .u64 (4294967296)))) V9) (.uo .mul V13 V4)) (.uo .mul (.uo .quo (.uo .sub (.uo .add (.uo .mul V8 (.k (.int .u64 (4294967296)))) V9) (.uo .mul V13 V4)) V6) V6))])
(.join 1
(.loop [V15,V16]
(.ru V17
(.br (.uo .geq V17 (.k (.int .u64 (4294967296))))
(.ru V18
(.br (.uo .geq (.uo .add V18 V6) (.k (.int .u64 (4294967296))))
(.next 0 [(.uo .sub V17 (.k (.int .u64 (1))))])
(.next 1 [(.uo .sub V17 (.k (.int .u64 (1)))),(.uo .add V18 V6)])))
(.ru V7
(.ru V18
(.ru V10
(.br (.uo .gtr (.uo .mul V17 V7) (.uo .add (.uo .mul (.k (.int .u64 (4294967296))) V18) V10))
(.br (.uo .geq (.uo .add V18 V6) (.k (.int .u64 (4294967296))))
(.next 0 [(.uo .sub V17 (.k (.int .u64 (1))))])
(.next 1 [(.uo .sub V17 (.k (.int .u64 (1)))),(.uo .add V18 V6)]))
(.next 0 [V17]))))))))
(.ru V17
(.ru V14
(.ru V10
(.rq (.num V5)
(.rq (.nn V5)
(.ret [(.uo .add (.uo .mul V13 (.k (.int .u64 (4294967296)))) V17),(.uo .shr (.uo .sub (.uo .add (.uo .mul V14 (.k (.int .u64 (4294967296)))) V10) (.uo .mul V17 V4)) V5)]))))))))))))))))))))))))))):=by kernel_rfl
theorem c3V:tree prog [] [] [⟨2,4,[0,2],[]⟩,⟨2,8,[0,2],[]⟩,⟨2,14,[0,2],[]⟩] [] 160=some (.ru V0
(.join 2
(.br (.uo .geq V0 (.k (.int .u64 (4294967296))))
(.next 0 [(.uo .shr V0 (.k (.int .u64 (32)))),(.ki 32)])
(.next 0 [V0,(.ki 0)]))
(.ru V1
(.join 2
(.br (.uo .geq V1 (.k (.int .u64 (65536))))
(.ri V2
(.next 0 [(.uo .shr V1 (.k (.int .u64 (16)))),(.io .add V2 (.ki 16))]))
(.next 0 [V1,V2]))
(.ru V3
(.join 2
(.br (.uo .geq V3 (.k (.int .u64 (256))))
(.ri V4
(.next 0 [(.uo .shr V3 (.k (.int .u64 (8)))),(.io .add V4 (.ki 8))]))
(.next 0 [V3,V4]))
(.ru V5
(.pm f160 10 3 [(.k (.string ⟨#[0,1,2,2,3,3,3,3,4,4,4,4,4,4,4,4,5,5,5,5,5,5,5,5,5,5,5,5,5,5,5,5,6,6,6,6,6,6,6,6,6,6,6,6,6,6,6,6,6,6,6,6,6,6,6,6,6,6,6,6,6,6,6,6,7,7,7,7,7,7,7,7,7,7,7,7,7,7,7,7,7,7,7,7,7,7,7,7,7,7,7,7,7,7,7,7,7,7,7,7,7,7,7,7,7,7,7,7,7,7,7,7,7,7,7,7,7,7,7,7,7,7,7,7,7,7,7,7,8,8,8,8,8,8,8,8,8,8,8,8,8,8,8,8,8,8,8,8,8,8,8,8,8,8,8,8,8,8,8,8,8,8,8,8,8,8,8,8,8,8,8,8,8,8,8,8,8,8,8,8,8,8,8,8,8,8,8,8,8,8,8,8,8,8,8,8,8,8,8,8,8,8,8,8,8,8,8,8,8,8,8,8,8,8,8,8,8,8,8,8,8,8,8,8,8,8,8,8,8,8,8,8,8,8,8,8,8,8,8,8,8,8,8,8,8,8,8,8,8,8,8,8,8,8,8,8]⟩)),(.cv .u8 V5)]
(.rq (.int .u8 V7)
(.ri V6
(.ret [(.io .add V6 (.cv .i64 V7))]))))))))))):=by kernel_rfl
noncomputable def b7T:Tree:=(.call false 160 [V0]
(.ri V1
(.ret [(.io .sub (.ki 64) V1)])))
theorem b7U:tree prog [] [] [] [] 268=some b7T:=by kernel_rfl
end Go.Proofs.YtkcjbfoejpfbbaaGreatDoor

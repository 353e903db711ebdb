/- MADE BY rxgen.py: the trees of package wide. -/
import Derived.Test.YtmannekkmdockaaGreatDoorRows
import Derived.Test.YtmannekkmdockaaGreatDoorRxH
import Derived.KernelRfl
import Derived.Test.YtmannekkmdockaaGreatDoorLgA
import Derived.Test.YtmannekkmdockaaGreatDoorRxT
import Derived.Laws.Externs
import Derived.Shelf.Spec.BitsCarry
import Derived.IntWalk
import Derived.ChangeKeysEq
namespace Go.Proofs.YtmannekkmdockaaGreatDoor
open Go.Proofs.Tryz
open Go.RowKit Go.RX
theorem mixed:prog.follows .mixedOrders=true:=by kernel_rfl
theorem c7C:tree prog [] [] [] [] 262=some (.rq (.cells 8 V0)
(.pm f262 1 2 [(.ag V0),(.z 206)]
(.ret [V1]))):=by kernel_rfl
theorem c3c:tree prog [] [] [⟨0,3,[],[0]⟩] [⟨5,[0,0,2,6,0,16,48,0,254,510,1022,1022,2047,6143,16383],[0,0,1,1,0,1,1,0,2,0,0,0,1,4,0],[0,0,0,0,0,0,0,0,0,0,0,0,0,0,0],[0,1,2,3,4,5,6,7,8,9,10,11,12],[13,14]⟩] 196=some (.rq (.cells 8 V0)
(.rq (.cells 8 V1)
(.loop [(.k (.int .u64 (0))),(.ki 0),V0]
(.ri V3
(.br (.io .lss V3 (.ki 8))
(.rq (.num V3)
(.rq (.lt 8 V3)
(.ext 232 [(.cell V4 0 1 V3),(.cell V1 0 1 V3),V2]
(.rq (.tup 0 V5)
(.rq (.tup 1 V5)
(.rq (.cells 1 (.proj V5 0))
(.next 0 [(.proj V5 1),(.io .add V3 (.ki 1)),(.put V4 0 1 (.proj V5 0) 1 V3)])))))))
(.ret [(.ag V4),V2])))))):=by kernel_rfl
theorem c3d:tree prog [] [] [⟨0,2,[],[]⟩] [⟨4,[0,1,3,0,8,24,63],[0,1,1,0,1,1,0],[0,0,0,0,0,0,0],[0,1,2,3,4,5,6],[]⟩,⟨5,[0,1,3,0,8,24,63],[0,1,1,0,1,1,0],[0,0,0,0,0,0,0],[0,1,2,3,4,5,6],[]⟩] 195=some (.rq (.cells 8 V0)
(.rq (.cells 8 V1)
(.loop [(.ki 0),(.ki 7)]
(.ri V3
(.br (.io .geq V3 (.ki 0))
(.rq (.num V3)
(.rq (.lt 8 V3)
(.rq (.int .u64 (.cell V0 0 1 V3))
(.rq (.int .u64 (.cell V1 0 1 V3))
(.br (.uo .neq (.cell V0 0 1 V3) (.cell V1 0 1 V3))
(.br (.uo .lss (.cell V0 0 1 V3) (.cell V1 0 1 V3))
(.ret [(.k (.int .i64 (-1)))])
(.ret [(.ki 1)]))
(.next 0 [V2,(.io .sub V3 (.ki 1))]))))))
(.ret [(.ki 0)])))))):=by kernel_rfl
theorem c7D:tree prog [] [] [] [] 128=some (.rq (.cells 8 V0)
(.rq (.int .u64 (.cell V0 7 0 noI))
(.br (.uo .eql (.uo .shr (.cell V0 7 0 noI) (.k (.int .u64 (63)))) (.k (.int .u64 (1))))
(.call false 196 [(.z 206),(.ag V0)]
(.rq (.tup 0 V1)
(.rq (.tup 1 V1)
(.rq (.cells 8 (.proj V1 0))
(.ret [(.cat (.uo .eql (.uo .shr (.cell V0 7 0 noI) (.k (.int .u64 (63)))) (.k (.int .u64 (1)))) 1 (.proj V1 0))])))))
(.ret [(.cat (.uo .eql (.uo .shr (.cell V0 7 0 noI) (.k (.int .u64 (63)))) (.k (.int .u64 (1)))) 1 (.ag V0))])))):=by kernel_rfl
theorem c7E:tree prog [] [] [] [] 126=some (.rq (.cells 9 V0)
(.call false 195 [(.sub V0 1 8 0 noI),(.put (.z 206) 7 1 (.k (.int .u64 (9223372036854775808))) 0 noI)]
(.ri V1
(.br (.io .gtr V1 (.ki 0))
(.ret [(.z 56),(.ki 6)])
(.br (.io .eql V1 (.ki 0))
(.rq (.bool (.cell V0 0 0 noI))
(.br (.nt (.cell V0 0 0 noI))
(.ret [(.z 56),(.ki 6)])
(.call false 196 [(.z 206),(.sub V0 1 8 0 noI)]
(.rq (.tup 0 V2)
(.rq (.tup 1 V2)
(.rq (.cells 8 (.proj V2 0))
(.ret [(.ag (.proj V2 0)),(.ki 0)])))))))
(.rq (.bool (.cell V0 0 0 noI))
(.br (.cell V0 0 0 noI)
(.call false 196 [(.z 206),(.sub V0 1 8 0 noI)]
(.rq (.tup 0 V2)
(.rq (.tup 1 V2)
(.rq (.cells 8 (.proj V2 0))
(.ret [(.ag (.proj V2 0)),(.ki 0)])))))
(.ret [(.sub V0 1 8 0 noI),(.ki 0)])))))))):=by kernel_rfl
theorem d4V:tree prog [] [] [] [⟨1,[0,1,3,7,15,31,0,127,255],[0,0,5,2,0,0,5,0,6],[0,0,0,0,0,0,0,0,1],[0,1,2,6,3,4,5,7],[8]⟩] 234=some (.rq (.cells 8 V1)
(.rq (.bool V0)
(.br V0
(.call true 262 [(.ag V1)]
(.rq (.bool V2)
(.ret [(.cat (.nt V2) 1 (.ag V1))])))
(.ret [(.cat (.k (.bool false)) 1 (.ag V1))])))):=by kernel_rfl
theorem c7F:tree prog [] [] [] [] 199=some (.rq (.cells 9 V0)
(.rq (.cells 9 V1)
(.call false 236 [(.sub V0 1 8 0 noI),(.sub V1 1 8 0 noI)]
(.rq (.tup 0 V2)
(.rq (.tup 1 V2)
(.rq (.cells 8 (.proj V2 0))
(.rq (.bool (.cell V0 0 0 noI))
(.rq (.bool (.cell V1 0 0 noI))
(.call false 234 [(.eqb true (.cell V0 0 0 noI) (.cell V1 0 0 noI)),(.ag (.proj V2 0))]
(.rq (.int .u64 (.proj V2 1))
(.rq (.cells 9 V3)
(.ret [(.ag V3),(.uo .gtr (.proj V2 1) (.k (.int .u64 (0))))])))))))))))):=by kernel_rfl
theorem c7G:tree prog [] [] [] [] 127=some (.ef false f127 1 0 []
(.ef false f127 1 1 [V0,(.k (.int .u8 (43))),(.k (.func (.func 197) #[] #[]))]
(.ef false f127 1 2 [V0,(.k (.int .u8 (45))),(.k (.func (.func 198) #[] #[]))]
(.ef false f127 1 3 [V0,(.k (.int .u8 (42))),(.k (.func (.func 199) #[] #[]))]
(.ret [V0]))))):=by kernel_rfl
theorem c7H:tree prog [] [] [] [⟨1,[0,0,3,0,9,0,57,127,255,511,511,0,3071,8191],[2,0,1,5,2,5,2,2,0,0,0,3,4,0],[0,0,0,0,0,1,0,0,0,0,0,0,0,0],[1,3,5,0,2,4,6,7,8,9,10,11],[12,13]⟩] 73=some (.rq (.cells 8 V0)
(.rq (.cells 8 V1)
(.call true 127 []
(.pm f73 1 2 [V3,V2]
(.call true 128 [(.ag V0)]
(.call true 128 [(.ag V1)]
(.ef true f73 1 7 [V4,V5,V6]
(.rq (.tup 0 V7)
(.rq (.tup 1 V7)
(.rq (.cells 9 (.proj V7 0))
(.rq (.bool (.proj V7 1))
(.br (.proj V7 1)
(.ret [(.z 56),(.ki 6)])
(.call false 126 [(.ag (.proj V7 0))]
(.rq (.tup 0 V8)
(.rq (.tup 1 V8)
(.rq (.cells 8 (.proj V8 0))
(.ret [(.ag (.proj V8 0)),(.proj V8 1)]))))))))))))))))):=by kernel_rfl
theorem c3e:tree prog [6] [] [⟨0,4,[],[]⟩,⟨0,7,[],[]⟩,⟨0,15,[],[]⟩] [] 236=some (.rq (.cells 8 V0)
(.rq (.cells 8 V1)
(.pub 336 (.z 336)
(.ef false f236 2 0 [V2]
(.loop [(.ki 0)]
(.ri V4
(.br (.io .lss V4 (.ki 8))
(.rq (.num V4)
(.rq (.lt 8 V4)
(.loop [(.ki 0)]
(.ri V5
(.br (.io .lss V5 (.ki 8))
(.rq (.num V5)
(.rq (.lt 8 V5)
(.rq (.int .u64 (.cell (.ag V0) 0 1 V4))
(.br (.uo .neq (.cell (.ag V0) 0 1 V4) (.k (.int .u64 (0))))
(.rq (.int .u64 (.cell (.ag V1) 0 1 V5))
(.br (.uo .neq (.cell (.ag V1) 0 1 V5) (.k (.int .u64 (0))))
(.ef false f236 10 6 [V3,(.cell (.ag V0) 0 1 V4),(.cell (.ag V1) 0 1 V5),(.io .add V4 V5)]
(.next 1 [(.io .add V5 (.ki 1))]))
(.next 1 [(.io .add V5 (.ki 1))])))
(.next 1 [(.io .add V5 (.ki 1))])))))
(.next 0 [(.io .add V4 (.ki 1))]))))))
(.pm f236 14 0 [V2,(.ki 8)]
(.pm f236 14 1 [V5]
(.loop [(.k (.int .u64 (0))),(.ki 0)]
(.ri V8
(.ri V6
(.br (.io .lss V8 V6)
(.pm f236 16 0 [V5,V8]
(.pm f236 16 1 [V9]
(.ru V7
(.ru V10
(.next 1 [(.uo .or V7 V10),(.io .add V8 (.ki 1))])))))
(.pm f236 19 0 [V2,(.ki 8)]
(.pm f236 19 1 [V9]
(.pm f236 19 2 [V10]
(.rq (.cells 8 V11)
(.ret [(.ag V11),V7])))))))))))))))))):=by kernel_rfl
theorem a9Q:(opr f236 19 2).op= .load 206 (.tmp 52):=by kernel_rfl
theorem b8D:tree prog [] [] [⟨0,5,[],[]⟩] [] 263=some (.call false 240 [V0,V1]
(.rq (.tup 0 V4)
(.rq (.tup 1 V4)
(.pm f263 1 1 [V3,V2]
(.pm f263 1 2 [V5]
(.ext 231 [V6,(.proj V4 1),(.k (.int .u64 (0)))]
(.rq (.tup 0 V7)
(.rq (.tup 1 V7)
(.pm f263 2 2 [V3,V2]
(.ef false f263 2 3 [V8,(.proj V7 0)]
(.ri V2
(.pm f263 3 4 [V3,(.io .add V2 (.ki 1))]
(.pm f263 3 5 [V10]
(.ext 231 [V11,(.proj V4 0),(.proj V7 1)]
(.rq (.tup 0 V12)
(.rq (.tup 1 V12)
(.pm f263 3 12 [V3,(.io .add V2 (.ki 1))]
(.ef false f263 3 13 [V13,(.proj V12 0)]
(.loop [(.proj V12 1),(.io .add V2 (.ki 2))]
(.ru V15
(.br (.uo .gtr V15 (.k (.int .u64 (0))))
(.ri V16
(.br (.io .eql V16 (.ki 16))
(.ret [])
(.pm f263 8 2 [V3,V16]
(.pm f263 8 3 [V17]
(.ext 231 [V18,(.k (.int .u64 (0))),V15]
(.rq (.tup 0 V19)
(.rq (.tup 1 V19)
(.pm f263 8 9 [V3,V16]
(.ef false f263 8 10 [V20,(.proj V19 0)]
(.next 0 [(.proj V19 1),(.io .add V16 (.ki 1))]))))))))))
(.ret [])))))))))))))))))))))):=by kernel_rfl
theorem d4W:tree prog [] [] [⟨0,4,[],[1]⟩] [] 29=some (.ri V0
(.br (.io .lss V0 (.ki 0))
(.loop [(.ki 1),(.put (.z 56) 0 1 (.cv .u64 V0) 0 noI)]
(.ri V1
(.br (.io .lss V1 (.ki 8))
(.rq (.num V1)
(.rq (.lt 8 V1)
(.next 0 [(.io .add V1 (.ki 1)),(.put V2 0 1 (.k (.int .u64 (18446744073709551615))) 1 V1)])))
(.ret [(.ag V2)]))))
(.ret [(.put (.z 56) 0 1 (.cv .u64 V0) 0 noI)]))):=by kernel_rfl
theorem d1Z:tree prog [] [] [] [] 28=some (.rq (.cells 8 V0)
(.rq (.cells 8 V1)
(.call false 73 [(.ag V0),(.ag V1),(.k (.int .u8 (42)))]
(.rq (.tup 0 V2)
(.rq (.tup 1 V2)
(.rq (.cells 8 (.proj V2 0))
(.ret [(.ag (.proj V2 0)),(.proj V2 1)]))))))):=by kernel_rfl
theorem c3f:tree prog [] [] [] [] 240=some (.ru V0
(.ru V1
(.ret [(.uo .add (.uo .add (.uo .mul (.uo .shr V0 (.k (.int .u64 (32)))) (.uo .shr V1 (.k (.int .u64 (32))))) (.uo .shr (.uo .add (.uo .mul (.uo .shr V0 (.k (.int .u64 (32)))) (.uo .and V1 (.k (.int .u64 (4294967295))))) (.uo .shr (.uo .mul (.uo .and V0 (.k (.int .u64 (4294967295)))) (.uo .and V1 (.k (.int .u64 (4294967295))))) (.k (.int .u64 (32))))) (.k (.int .u64 (32))))) (.uo .shr (.uo .add (.uo .and (.uo .add (.uo .mul (.uo .shr V0 (.k (.int .u64 (32)))) (.uo .and V1 (.k (.int .u64 (4294967295))))) (.uo .shr (.uo .mul (.uo .and V0 (.k (.int .u64 (4294967295)))) (.uo .and V1 (.k (.int .u64 (4294967295))))) (.k (.int .u64 (32))))) (.k (.int .u64 (4294967295)))) (.uo .mul (.uo .and V0 (.k (.int .u64 (4294967295)))) (.uo .shr V1 (.k (.int .u64 (32)))))) (.k (.int .u64 (32))))),(.uo .mul V0 V1)]))):=by kernel_rfl
theorem c3g:tree prog [] [(20,false),(24,false)] [⟨3,16,[2,8,9,10,11,13,14,15,16],[]⟩,⟨1,0,[15],[]⟩,⟨3,23,[17,18,16],[]⟩,⟨1,2,[18],[]⟩,⟨0,17,[],[]⟩,⟨0,24,[],[]⟩] [⟨6,[0,0,3,0,0,24,7,127],[0,0,0,0,0,0,0,0],[0,0,0,0,0,0,0,0],[0,1,2,3,4,5,6,7],[]⟩] 237=some (.ru V2
(.rq (.isb false (.uo .eql V2 (.k (.int .u64 (0)))))
(.ru V0
(.rq (.isb false (.uo .leq V2 V0))
(.br (.uo .eql V0 (.k (.int .u64 (0))))
(.ru V1
(.rq (.nz V2)
(.ret [(.uo .quo V1 V2),(.uo .rem V1 V2)])))
(.call false 264 [V2]
(.ri V3
(.rq (.nn (.cv .u64 V3))
(.ru V1
(.rq (.nn (.uo .sub (.k (.int .u64 (64))) (.cv .u64 V3)))
(.rq (.nz (.uo .shr (.uo .shl V2 (.cv .u64 V3)) (.k (.int .u64 (32)))))
(.join 9
(.next 0 [(.uo .shl V2 (.cv .u64 V3)),(.cv .u64 V3),(.uo .shr (.uo .shl V2 (.cv .u64 V3)) (.k (.int .u64 (32)))),(.uo .and (.uo .shl V2 (.cv .u64 V3)) (.k (.int .u64 (4294967295)))),(.uo .or (.uo .shl V0 (.cv .u64 V3)) (.uo .shr V1 (.uo .sub (.k (.int .u64 (64))) (.cv .u64 V3)))),(.uo .shr (.uo .shl V1 (.cv .u64 V3)) (.k (.int .u64 (32)))),(.uo .and (.uo .shl V1 (.cv .u64 V3)) (.k (.int .u64 (4294967295)))),(.uo .quo (.uo .or (.uo .shl V0 (.cv .u64 V3)) (.uo .shr V1 (.uo .sub (.k (.int .u64 (64))) (.cv .u64 V3)))) (.uo .shr (.uo .shl V2 (.cv .u64 V3)) (.k (.int .u64 (32))))),(.uo .sub (.uo .or (.uo .shl V0 (.cv .u64 V3)) (.uo .shr V1 (.uo .sub (.k (.int .u64 (64))) (.cv .u64 V3)))) (.uo .mul (.uo .quo (.uo .or (.uo .shl V0 (.cv .u64 V3)) (.uo .shr V1 (.uo .sub (.k (.int .u64 (64))) (.cv .u64 V3)))) (.uo .shr (.uo .shl V2 (.cv .u64 V3)) (.k (.int .u64 (32))))) (.uo .shr (.uo .shl V2 (.cv .u64 V3)) (.k (.int .u64 (32))))))])
(.join 1
(.loop [V11,V12]
(.ru V13
(.br (.uo .geq V13 (.k (.int .u64 (4294967296))))
(.ru V14
(.ru V6
(.br (.uo .geq (.uo .add V14 V6) (.k (.int .u64 (4294967296))))
(.next 0 [(.uo .sub V13 (.k (.int .u64 (1))))])
(.next 1 [(.uo .sub V13 (.k (.int .u64 (1)))),(.uo .add V14 V6)]))))
(.ru V7
(.ru V14
(.ru V9
(.br (.uo .gtr (.uo .mul V13 V7) (.uo .add (.uo .mul (.k (.int .u64 (4294967296))) V14) V9))
(.ru V6
(.br (.uo .geq (.uo .add V14 V6) (.k (.int .u64 (4294967296))))
(.next 0 [(.uo .sub V13 (.k (.int .u64 (1))))])
(.next 1 [(.uo .sub V13 (.k (.int .u64 (1)))),(.uo .add V14 V6)])))
(.next 0 [V13]))))))))
(.ru V8
(.ru V9
(.ru V13
(.ru V4
(.ru V6
(.rq (.nz V6)
(.join 3
(.next 0 [(.uo .sub (.uo .add (.uo .mul V8 (.k (.int .u64 (4294967296)))) V9) (.uo .mul V13 V4)),(.uo .quo (.uo .sub (.uo .add (.uo .mul V8 (.k (.int .u64 (4294967296)))) V9) (.uo .mul V13 V4)) V6),(.uo .sub (.uo .sub (.uo .add (.uo .mul V8 (.k (.int .u64 (4294967296)))) V9) (.uo .mul V13 V4)) (.uo .mul (.uo .quo (.uo .sub (.uo .add (.uo .mul V8 (.k (.int .u64 (4294967296)))) V9) (.uo .mul V13 V4)) V6) V6))])
(.join 1
(.loop [V15,V16]
(.ru V17
(.br (.uo .geq V17 (.k (.int .u64 (4294967296))))
(.ru V18
(.br (.uo .geq (.uo .add V18 V6) (.k (.int .u64 (4294967296))))
(.next 0 [(.uo .sub V17 (.k (.int .u64 (1))))])
(.next 1 [(.uo .sub V17 (.k (.int .u64 (1)))),(.uo .add V18 V6)])))
(.ru V7
(.ru V18
(.ru V10
(.br (.uo .gtr (.uo .mul V17 V7) (.uo .add (.uo .mul (.k (.int .u64 (4294967296))) V18) V10))
(.br (.uo .geq (.uo .add V18 V6) (.k (.int .u64 (4294967296))))
(.next 0 [(.uo .sub V17 (.k (.int .u64 (1))))])
(.next 1 [(.uo .sub V17 (.k (.int .u64 (1)))),(.uo .add V18 V6)]))
(.next 0 [V17]))))))))
(.ru V17
(.ru V14
(.ru V10
(.rq (.num V5)
(.rq (.nn V5)
(.ret [(.uo .add (.uo .mul V13 (.k (.int .u64 (4294967296)))) V17),(.uo .shr (.uo .sub (.uo .add (.uo .mul V14 (.k (.int .u64 (4294967296)))) V10) (.uo .mul V17 V4)) V5)]))))))))))))))))))))))))))):=by kernel_rfl
theorem c3h:tree prog [] [] [⟨2,4,[0,2],[]⟩,⟨2,8,[0,2],[]⟩,⟨2,14,[0,2],[]⟩] [] 117=some (.ru V0
(.join 2
(.br (.uo .geq V0 (.k (.int .u64 (4294967296))))
(.next 0 [(.uo .shr V0 (.k (.int .u64 (32)))),(.ki 32)])
(.next 0 [V0,(.ki 0)]))
(.ru V1
(.join 2
(.br (.uo .geq V1 (.k (.int .u64 (65536))))
(.ri V2
(.next 0 [(.uo .shr V1 (.k (.int .u64 (16)))),(.io .add V2 (.ki 16))]))
(.next 0 [V1,V2]))
(.ru V3
(.join 2
(.br (.uo .geq V3 (.k (.int .u64 (256))))
(.ri V4
(.next 0 [(.uo .shr V3 (.k (.int .u64 (8)))),(.io .add V4 (.ki 8))]))
(.next 0 [V3,V4]))
(.ru V5
(.pm f117 10 3 [(.k (.string ⟨#[0,1,2,2,3,3,3,3,4,4,4,4,4,4,4,4,5,5,5,5,5,5,5,5,5,5,5,5,5,5,5,5,6,6,6,6,6,6,6,6,6,6,6,6,6,6,6,6,6,6,6,6,6,6,6,6,6,6,6,6,6,6,6,6,7,7,7,7,7,7,7,7,7,7,7,7,7,7,7,7,7,7,7,7,7,7,7,7,7,7,7,7,7,7,7,7,7,7,7,7,7,7,7,7,7,7,7,7,7,7,7,7,7,7,7,7,7,7,7,7,7,7,7,7,7,7,7,7,8,8,8,8,8,8,8,8,8,8,8,8,8,8,8,8,8,8,8,8,8,8,8,8,8,8,8,8,8,8,8,8,8,8,8,8,8,8,8,8,8,8,8,8,8,8,8,8,8,8,8,8,8,8,8,8,8,8,8,8,8,8,8,8,8,8,8,8,8,8,8,8,8,8,8,8,8,8,8,8,8,8,8,8,8,8,8,8,8,8,8,8,8,8,8,8,8,8,8,8,8,8,8,8,8,8,8,8,8,8,8,8,8,8,8,8,8,8,8,8,8,8,8,8,8,8,8,8]⟩)),(.cv .u8 V5)]
(.rq (.int .u8 V7)
(.ri V6
(.ret [(.io .add V6 (.cv .i64 V7))]))))))))))):=by kernel_rfl
theorem c7I:tree prog [] [] [] [] 264=some (.call false 117 [V0]
(.ri V1
(.ret [(.io .sub (.ki 64) V1)]))):=by kernel_rfl
end Go.Proofs.YtmannekkmdockaaGreatDoor
/- Slices of digits in memory. -/
namespace Go.RX
open Go.RowKit
theorem Con.frame {P:Program} {f:FuncId} {args:List Value} {Hr H:PH} {V:Value->PH->Prop} (h:Con P f args Hr V) (hle:PH.le Hr H):
  Con P f args H fun u H'=>∃Hr',V u Hr'/\PH.le Hr' H'/\∀k ob,H k=some ob->Hr k=none->Hr' k=none/\H' k=some ob:=fun w hw=>by
 refine(h w (hle.In hw)).mono ?_
 rintro e w' ⟨v,Hr',he,hs,hV⟩
 have none_of:∀k ob,H k=some ob->Hr k=none->Hr' k=none:=fun k ob hk hr=>by
  cases e2:Hr' k with
  |none=>rfl
  |some o2=>
   have h2:=a0C (hw _ _ hk)
   rcases hs.dom k (by simp[e2])with h3|h3
   ·exact absurd hr h3
   ·omega
 refine⟨v,fun k=>match Hr' k with|some o=>some o|none=>if Hr k=none then H k else none,he,⟨hs.os,hs.tape,hs.output,hs.size,fun k hk hn=> ?_,fun k ob hk=> ?_,fun k hk=> ?_,hs.dr⟩,Hr',hV,fun k ob hk=> ?_,fun k ob hk hr=>⟨none_of k ob hk hr,?_⟩⟩
 ·refine hs.block k hk ?_
  cases e2:Hr k with
  |none=>rfl
  |some o2=>rw[hle _ _ e2]at hn;cases hn
 ·cases e2:Hr' k with
  |some o2=>simp only[e2]at hk;cases hk;exact hs.holds _ _ e2
  |none=>
   simp only[e2]at hk
   split at hk
   ·rename_i hr
    rw[hs.block k (a0C (hw _ _ hk)) hr]
    exact hw _ _ hk
   ·cases hk
 ·cases e2:Hr' k with
  |some o2=>
   rcases hs.dom k (by simp[e2])with h3|h3
   ·refine .inl fun hn=>h3 ?_
    cases e3:Hr k with
    |none=>rfl
    |some o3=>rw[hle _ _ e3]at hn;cases hn
   ·exact .inr h3
  |none=>
   simp only[e2]at hk
   split at hk
   ·exact .inl hk
   ·exact absurd rfl hk
 ·simp only[hk]
 ·simp only[none_of k ob hk hr,hr,if_true,hk]
theorem OwS.frame {Hr H Hr' H':PH} {e:TypeId} {sz n:Nat} {v:Value} {xs:List Value} (h:OwS Hr H e sz v n xs) (hk:∀k ob,H k=some ob->Hr k=none->Hr' k=none/\H' k=some ob):OwS Hr' H' e sz v n xs:=by
 obtain⟨h1,h2|⟨g,cap,cur,h2,h3,h4,h5⟩⟩:=h
 ·exact⟨h1,.inl h2⟩
 ·exact⟨h1,.inr ⟨g,cap,cur,h2,(hk _ _ h4 h3).1,(hk _ _ h4 h3).2,h5⟩⟩
end Go.RX
namespace Go.Proofs.YtmannekkmdockaaGreatDoor
open Go.Proofs.Tryz
open Go.RowKit Go.RX Go.WD
def iv (d:Nat):Value:= .int .i64 (d:Nat)
theorem d2a (f:Nat->Value):(Array.range (1*1)).map f= #[f 0]:=by
 apply Array.ext';simp
end Go.Proofs.YtmannekkmdockaaGreatDoor
/- Contracts of package wide: words. -/
namespace Go.Proofs.YtmannekkmdockaaGreatDoor
open Go.Proofs.Tryz
open Go.RowKit Go.RX Go.WD Go.IntWalk
theorem b8E (b:Bool) (n:Nat):Value.agg ((#[Value.bool b]++words n).extract 1 9)=wd n:=rfl
theorem a2I (b:Bool) (n:Nat):(#[Value.bool b]++words n).size=9:=rfl
theorem a7m (b:Bool) (n:Nat):a0t (#[Value.bool b]++words n):=by
 intro c hc
 simp only[Array.toList_append,List.mem_append]at hc
 rcases hc with h|h
 ·simp at h;subst h;rfl
 ·exact words_one n c h
theorem a8K:a0L prog 206=wd 0:=by
 have:a0L prog 206= .agg #[.int .u64 0,.int .u64 0,.int .u64 0,.int .u64 0,.int .u64 0,.int .u64 0,.int .u64 0,.int .u64 0]:=by kernel_rfl
 rw[this];simp[wd,words,wf,a3Z]
theorem a6e:a0L prog 56=wd 0:=by
 have:a0L prog 56= .agg #[.int .u64 0,.int .u64 0,.int .u64 0,.int .u64 0,.int .u64 0,.int .u64 0,.int .u64 0,.int .u64 0]:=by kernel_rfl
 rw[this];simp[wd,words,wf,a3Z]
theorem a2U (x y c:Nat) (hx:x<18446744073709551616) (hy:y<18446744073709551616) (hc:c<=1):Own prog 231 [.int .u64 x,.int .u64 y,.int .u64 c] (.tuple #[.int .u64 (((x+y+c)%18446744073709551616:Nat):Int),.int .u64 (((x+y+c)/18446744073709551616:Nat):Int)]):=fun w=>by
 show(callFunc _ #[_,_,_]).run _ w=_
 rw[run_callFunc_extern Tryz.func231 (by kernel_rfl) (by kernel_rfl) (by kernel_rfl) (e:=add64Entry) (by kernel_rfl),run_add64 x y c (by omega) (by omega) (by omega) (by omega)]
 simp only[Result.andThen]
 congr 5<;>omega
theorem b1z (x y b:Nat) (hb:b<=1):Own prog 232 [.int .u64 x,.int .u64 y,.int .u64 b] (.tuple #[.int .u64 (((x+18446744073709551616-y-b)%18446744073709551616:Nat):Int),.int .u64 ((if x<y+b then 1 else 0:Nat):Int)]):=fun w=>by
 show(callFunc _ #[_,_,_]).run _ w=_
 rw[run_callFunc_extern Tryz.func232 (by kernel_rfl) (by kernel_rfl) (by kernel_rfl) (e:=sub64Entry) (by kernel_rfl),run_sub64 x y b hb]
 rfl
theorem b4u (f g:Nat->Nat) (k i:Nat):(if i=k then f k else if i<k then f i else g i)=if i<k+1 then f i else g i:=by
 by_cases h1:i=k
 ·subst h1;rw[if_pos rfl,if_pos (by omega)]
 ·rw[if_neg h1]
  by_cases h2:i<k
  ·rw[if_pos h2,if_pos (by omega)]
  ·rw[if_neg h2,if_neg (by omega)]
theorem a7n (a b:Nat):Det prog 196 [wd a,wd b] (.tuple #[wd (sb a b),.int .u64 (bw a b 8)]):=by
 refine a0B mixed c3c (by kernel_rfl) rfl ?_
 refine a0n ⟨words_size a,words_one a⟩ (a0n ⟨words_size b,words_one b⟩ ?_)
 refine⟨fun l=>∃k,k<=8/\l=[.int .u64 (bw a b k),.int .i64 (k:Nat),.agg (wf fun j=>if j<k then dig (sb a b) j else dig a j)],fun l=>(8-intOf (l.getD 1 undef)).toNat,⟨0,by omega,?_⟩,?_⟩
 ·rw[c7y];rfl
 ·rintro vals-⟨k,hk,rfl⟩
  refine a0n ⟨_,rfl⟩ (a1S (b:=decide ((k:Int)<8)) rfl (fun h=> ?_) (fun h=> ?_))
  ·have hk:k<8:=by simp at h;omega
   refine a0n ⟨_,_,rfl⟩ (a0n ⟨?_,?_⟩ ?_)
   ·show(0:Int)<=(k:Int);omega
   ·show(k:Int)<8;omega
   ·refine d1M (b1z (dig a k) (dig b k) (bw a b k) (d1T _ _ _)) ?_ ?_
    ·simp only[rxs,b8x _ hk,a1a b hk,Nat.lt_irrefl,if_false]
    ·refine a0n ⟨_,rfl,Nat.zero_lt_succ _⟩ (a0n ⟨_,rfl,Nat.lt_succ_self _⟩ (a0n ⟨rfl,?_⟩ ?_))
     ·exact b3d _ _
     ·refine⟨⟨k+1,by omega,?_⟩,?_⟩
      ·have e:(k:Int)+1=((k+1:Nat):Int):=by omega
       simp only[rxs,<-c7z,<-d1U a b hk,e,i64_in _ (show -9223372036854775808<=((k+1:Nat):Int)/\((k+1:Nat):Int)<=9223372036854775807 from by omega)]
       rw[b4r _ hk,a2u (g:=fun j=>if j<k+1 then dig (sb a b) j else dig a j) (fun i _=> ?_)]
       exact b4u _ _ k i
      ·simp only[rxs,i64_in _ (show -9223372036854775808<=(k:Int)+1/\(k:Int)+1<=9223372036854775807 from by omega)]
       omega
  ·have hk:k=8:=by simp at h;omega
   subst hk
   refine a1b ?_ rfl
   simp only[rxs,a4u,b4s (n:=sb a b) (f:=fun j=>if j<8 then dig (sb a b) j else dig a j) (fun i hi=>by rw[if_pos hi])]
   rfl
theorem b8F (a b:Nat):Det prog 195 [wd a,wd b] (.int .i64 (sg (a%M) (b%M))):=by
 refine a0B mixed c3d (by kernel_rfl) rfl ?_
 refine a0n ⟨words_size a,words_one a⟩ (a0n ⟨words_size b,words_one b⟩ ?_)
 refine⟨fun l=>∃k,k<=8/\(∀j,k<=j->j<8->dig a j=dig b j)/\l=[.int .i64 0,.int .i64 ((k:Int)-1)],fun l=>(intOf (l.getD 1 undef)+1).toNat,⟨8,by omega,fun j h1 h2=>by omega,rfl⟩,?_⟩
 rintro vals-⟨k,hk,hs,rfl⟩
 refine a0n ⟨_,rfl⟩ (a1S (b:=decide ((k:Int)-1≥0)) rfl (fun h=> ?_) (fun h=> ?_))
 ·have hk0:0<k:=by simp at h;omega
  obtain⟨m,rfl⟩:∃m,k=m+1:=⟨k-1,by omega⟩
  have hm:m<8:=by omega
  have em:((m+1:Nat):Int)-1=(m:Int):=by omega
  rw[em]
  refine a0n ⟨_,_,rfl⟩ (a0n ⟨?_,?_⟩ (a0n ⟨dig a m,?_⟩ (a0n ⟨dig b m,?_⟩ ?_)))
  ·show(0:Int)<=(m:Int);omega
  ·show(m:Int)<8;omega
  ·simp only[rxs,a1a a hm]
  ·simp only[rxs,a1a b hm]
  ·refine a1S (b:=decide (dig a m≠dig b m)) ?_ (fun h1=> ?_) (fun h1=> ?_)
   ·simp only[rxs,a1a a hm,a1a b hm]
    congr 1
    rw[Bool.eq_iff_iff];simp;omega
   ·have h1:dig a m≠dig b m:=by simpa using h1
    refine a1S (b:=decide (dig a m<dig b m)) ?_ (fun h2=> ?_) (fun h2=> ?_)
    ·simp only[rxs,a1a a hm,a1a b hm]
     congr 1
     rw[Bool.eq_iff_iff];simp
    ·have:=b1x hm (fun j h h'=>hs j (by omega) h') (by simpa using h2)
     exact a1b rfl (by simp[D,a4u,sg,this])
    ·have:=b1x (a:=b) (b:=a) hm (fun j h h'=>(hs j (by omega) h').symm) (by simp at h2;omega)
     exact a1b rfl (by simp only[rxs,a4u,sg];rw[if_neg (by omega),if_neg (by omega)])
   ·have h1:dig a m=dig b m:=by simpa using h1
    refine⟨⟨m,by omega,fun j h h'=> ?_,?_⟩,?_⟩
    ·rcases Nat.eq_or_lt_of_le h with rfl|h
     ·exact h1
     ·exact hs j (by omega) h'
    ·simp only[rxs,i64_in _ (show -9223372036854775808<=(m:Int)-1/\(m:Int)-1<=9223372036854775807 from by omega)]
    ·simp only[rxs,i64_in _ (show -9223372036854775808<=(m:Int)-1/\(m:Int)-1<=9223372036854775807 from by omega)]
     omega
 ·have hk0:k=0:=by simp at h;omega
  subst hk0
  refine a1b rfl ?_
  have:a%M=b%M:=by rw[a3w];exact a5w fun i hi=>hs i (by omega) hi
  simp[D,a4u,sg,this]
open Go.RowKit Go.RX Go.WD Go.IntWalk
theorem b3i {P:Program} {e:TypeId} (hu:P.underlying e=some (.int .u64)) (d x y:Nat) (w:World):(Op.equalIn (d+1) e (.int .u64 x) (.int .u64 y)).run P w= .ok (decide (x=y)) w:=by
 simp only[Op.equalIn,Sem.run_bind,run_underlying hu,Result.andThen_ok,if_true,Sem.run_pure]
 congr 1
 rw[Bool.eq_iff_iff];simp;omega
theorem a6f {P:Program} {e:TypeId} (hT:a2k P e=true) (hc:P.cellsOf e=1) (hag:a0M P e=false) (hu:P.underlying e=some (.int .u64)) (d:Nat) (f g:Nat->Nat) (w:World):∀is:List Nat,(∀i∈is,i<8)->
  (Op.eqItems (d+1) e (P.cellsOf e) (wf f) (wf g) is).run P w= .ok (decide (∀i∈is,f i=g i)) w:=by
 intro is
 induction is with
 |nil=>intro _;simp[Op.eqItems]
 |cons i is ih=>
  intro h
  have hi:=h i (by simp)
  have hp:∀f:Nat->Nat,(part e (wf f) (i*P.cellsOf e)).run P w= .ok (.int .u64 (f i)) w:=fun f=>by
   rw[a3C hT (by rw[c7x,hc];omega) (by omega) w,hag,hc,Nat.mul_one]
   simp only[Bool.false_eq_true,if_false,b8x f hi]
  simp only[Op.eqItems,Sem.run_bind,hp,Result.andThen_ok,b3i hu]
  by_cases he:f i=g i
  ·simp only[he,decide_true,Bool.not_true,Bool.false_eq_true,if_false,ih (fun j hj=>h j (by simp[hj]))]
   congr 1
   rw[Bool.eq_iff_iff];simp[he]
  ·simp[he]
theorem a6g (a b:Nat):(∀i∈List.range 8,dig a i=dig b i)↔a%M=b%M:=
 ⟨fun h=>by rw[a3w];exact a5w fun i hi=>h i (List.mem_range.2 hi),fun h i hi=>by rw[a3w]at h;exact a7h h (List.mem_range.1 hi)⟩
theorem b8G {P:Program} {o:Oper} {t t' e:TypeId} {x y:Operand} {va vb:Value} {a b:Nat} (ho:o.op= .binOp .eql t x y t') (hva:va=wd a) (hvb:vb=wd b) (hx:a0f [x,y] [va,vb] x=va) (hy:a0f [x,y] [va,vb] y=vb)
  (hu:P.underlying t=some (.array 8 e)) (hg:P.eqGuardType P.depth t=false) (hT:a2k P e=true) (hc:P.cellsOf e=1) (hag:a0M P e=false) (hue:P.underlying e=some (.int .u64)):
  Yld P o [va,vb] (.bool (decide (a%M=b%M))):=fun w=>by
 have hos:o.op.operands.toList=[x,y]:=by simp[ho,Op.operands]
 obtain⟨i,hi⟩:∃i,P.info? e=some i:=by
  unfold a2k at hT;rw[Bool.and_eq_true,Option.isSome_iff_exists]at hT;exact hT.1
 subst hva;subst hvb
 have hr:(Op.equal t (wd a) (wd b)).run P w= .ok (decide (a%M=b%M)) w:=by
  show(Op.equalIn (9999+1) t (.agg (wf (dig a))) (.agg (wf (dig b)))).run P w=_
  rw[run_equalIn_array w 9999 _ _ hu hi,show(9999:Nat)=9998+1 from rfl,a6f hT hc hag hue 9998 (dig a) (dig b) w _ (fun i hi=>List.mem_range.1 hi)]
  congr 1
  rw[Bool.eq_iff_iff,decide_eq_true_iff,decide_eq_true_iff];exact a6g a b
 rw[hos]
 simp only[execOp,ho,hx,hy]
 simp only[wd]at hr⊢
 simp[eqGuard,binOp,hg,hr]
section
variable {o:Oper} {x y:Operand} {va vb:Value} {a b:Nat}
theorem c7J (ho:o.op= .binOp .eql 206 x y 206) (hva:va=wd a) (hvb:vb=wd b) (hx:a0f [x,y] [va,vb] x=va) (hy:a0f [x,y] [va,vb] y=vb):Yld prog o [va,vb] (.bool (decide (a%M=b%M))):=
 b8G (e:=54) ho hva hvb hx hy (by kernel_rfl) (by kernel_rfl) (by kernel_rfl) (by kernel_rfl) (by kernel_rfl) (by kernel_rfl)
theorem c7K (ho:o.op= .binOp .eql 56 x y 56) (hva:va=wd a) (hvb:vb=wd b) (hx:a0f [x,y] [va,vb] x=va) (hy:a0f [x,y] [va,vb] y=vb):Yld prog o [va,vb] (.bool (decide (a%M=b%M))):=
 b8G (e:=54) ho hva hvb hx hy (by kernel_rfl) (by kernel_rfl) (by kernel_rfl) (by kernel_rfl) (by kernel_rfl) (by kernel_rfl)
end
theorem c3i (a:Nat):Det prog 262 [wd a] (.bool (decide (a%M=0))):=by
 refine a0B mixed c7C (by kernel_rfl) rfl (a0n ⟨words_size a,words_one a⟩ ?_)
 refine b8r (c7J (a:=a) (b:=0) rfl rfl a8K rfl rfl) rfl (a1b rfl ?_)
 show Value.bool (decide (a%M=0%M))=Value.bool (decide (a%M=0))
 congr 1
theorem d2b (b:Bool) (a:Nat):Det prog 234 [.bool b,wd a] (nb (b&& !decide (a%M=0)) a):=by
 refine a0B mixed d4V (by kernel_rfl) rfl (a0n ⟨words_size a,words_one a⟩ (a0n ⟨b,rfl⟩ (a1S (b:=b) rfl (fun h=> ?_) (fun h=> ?_))))
 ·subst h
  exact a1Y (c3i a) rfl (a0n ⟨_,rfl⟩ (a1b rfl rfl))
 ·subst h
  exact a1b rfl rfl
end Go.Proofs.YtmannekkmdockaaGreatDoor

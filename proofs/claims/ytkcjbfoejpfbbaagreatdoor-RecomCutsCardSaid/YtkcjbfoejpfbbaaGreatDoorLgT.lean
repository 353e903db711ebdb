/- MADE BY rxgen.py: the trees of wide/long.go. -/
import Derived.Test.YtkcjbfoejpfbbaaGreatDoorWdT
namespace Go.Proofs.YtkcjbfoejpfbbaaGreatDoor
open Go.Proofs.Tryz
open Go.RowKit Go.RX
noncomputable def b4F:Tree:=(.pm f167 1 1 [V1]
(.loop [V2]
(.join 1
(.ri V3
(.br (.io .gtr V3 (.ki 0))
(.pm f167 2 6 [V1,(.io .sub V3 (.ki 1))]
(.pm f167 2 7 [V4]
(.ru V5
(.next 1 [(.uo .eql V5 (.k (.int .u64 (0))))]))))
(.next 1 [(.k (.bool false))])))
(.rq (.bool V4)
(.br V4
(.ri V3
(.next 0 [(.io .sub V3 (.ki 1))]))
(.rq (.bool V0)
(.br V0
(.ri V3
(.pm f167 4 7 [V1,V3]
(.rq (.cells 1 V5)
(.ret [(.cat (.io .gtr V3 (.ki 0)) 1 V5)]))))
(.pm f167 4 7 [V1,V3]
(.rq (.cells 1 V5)
(.ret [(.cat (.k (.bool false)) 1 V5)]))))))))))
theorem b4G:tree prog [] [] [⟨3,2,[17],[]⟩,⟨0,2,[],[]⟩] [] 167=some b4F:=by kernel_rfl
theorem b0Z:(opr f167 4 7).op= .slice 145 (.tmp 25) none (some (.tmp 26)) none:=by kernel_rfl
noncomputable def a7Z:Tree:=(.rq (.cells 8 V0)
(.call false 166 [(.ag V0)]
(.pub 232 (.z 232)
(.ef false f94 1 3 [V2,V1]
(.pm f94 2 0 [V2]
(.pm f94 2 1 [V4]
(.pm f94 2 3 [V2]
(.pm f94 2 4 [V6]
(.ef true f94 2 2 []
(.ef true f94 2 5 [V8,V7]
(.call true 167 [V5,V9]
(.rq (.cells 2 V10)
(.ret [(.ag V10)])))))))))))))
theorem a8a:tree prog [3] [] [] [⟨2,[0,1,0,0,8,28,63,127],[1,1,2,1,1,2,2,6],[0,0,0,0,0,0,0,1],[0,1,3,4,2,5,6],[7]⟩] 94=some a7Z:=by kernel_rfl
noncomputable def b4H:Tree:=(.call false 36 [V0]
(.call false 94 [V1]
(.rq (.cells 2 V2)
(.ret [(.ag V2)]))))
theorem b4I:tree prog [] [] [] [] 159=some b4H:=by kernel_rfl
noncomputable def b4J:Tree:=(.rq (.cells 2 V0)
(.pm f93 1 2 [(.cell V0 1 0 noI)]
(.ri V1
(.br (.io .gtr V1 (.ki 8))
(.ret [(.z 53),(.ki 6)])
(.rq (.cells 1 (.cell V0 0 0 noI))
(.pub 232 (.z 232)
(.ef false f93 3 4 [V2,(.cat (.cell V0 0 0 noI) 1 (.z 230))]
(.pm f93 4 0 [V2]
(.pm f93 4 1 [V4]
(.ef false f93 4 4 [V5,(.cell V0 1 0 noI)]
(.pm f93 5 0 [V2]
(.call false 165 [V7]
(.rq (.tup 0 V8)
(.rq (.tup 1 V8)
(.rq (.cells 8 (.proj V8 0))
(.ret [(.ag (.proj V8 0)),(.proj V8 1)]))))))))))))))))
theorem b4K:tree prog [4] [] [] [⟨4,[0,1,0,4,15],[1,1,1,1,4],[0,0,0,0,0],[0,1,2,3],[4]⟩] 93=some b4J:=by kernel_rfl
theorem b1a:(opr f93 3 4).op= .store 232 (.tmp 4) (.tmp 12):=by kernel_rfl
noncomputable def c1v:Tree:=(.pm f214 1 1 [V0]
(.pm f214 1 3 [V1]
(.ri V2
(.ri V3
(.br (.io .neq V2 V3)
(.pm f214 2 1 [V0]
(.pm f214 2 3 [V1]
(.ri V4
(.ri V5
(.ret [(.io .sub V4 V5)])))))
(.pm f214 3 1 [V0]
(.ri V4
(.loop [(.ki 0),(.io .sub V4 (.ki 1))]
(.ri V6
(.br (.io .geq V6 (.ki 0))
(.pm f214 6 2 [V0,V6]
(.pm f214 6 3 [V7]
(.pm f214 6 6 [V1,V6]
(.pm f214 6 7 [V9]
(.ru V8
(.ru V10
(.br (.uo .lss V8 V10)
(.ret [(.k (.int .i64 (-1)))])
(.pm f214 8 2 [V0,V6]
(.pm f214 8 3 [V11]
(.pm f214 8 6 [V1,V6]
(.pm f214 8 7 [V13]
(.ru V12
(.ru V14
(.br (.uo .gtr V12 V14)
(.ret [(.ki 1)])
(.next 0 [V5,(.io .sub V6 (.ki 1))])))))))))))))))
(.ret [(.ki 0)])))))))))))
theorem c1w:tree prog [] [] [⟨0,4,[],[]⟩] [⟨6,[0,0,3,7,0,0,48,112,255,511],[0,0,1,1,0,0,1,1,0,0],[0,0,0,0,0,0,0,0,0,0],[0,1,2,3,4,5,6,7,8,9],[]⟩,⟨8,[0,0,3,7,0,0,48,112,255,511],[0,0,1,1,0,0,1,1,0,0],[0,0,0,0,0,0,0,0,0,0],[0,1,2,3,4,5,6,7,8,9],[]⟩] 214=some c1v:=by kernel_rfl
noncomputable def c1x:Tree:=(.pm f213 1 1 [V0]
(.pm f213 1 3 [V1]
(.ri V2
(.ri V3
(.join 2
(.br (.io .lss V2 V3)
(.next 0 [V1,V0])
(.next 0 [V0,V1]))
(.pm f213 3 1 [V4]
(.ri V6
(.ef false f213 3 3 [(.io .add V6 (.ki 1)),(.io .add V6 (.ki 1))]
(.pm f213 5 1 [V4]
(.loop [(.k (.int .u64 (0))),(.ki 0)]
(.ri V10
(.ri V8
(.br (.io .lss V10 V8)
(.pm f213 7 1 [V4,V10]
(.pm f213 7 2 [V11]
(.pm f213 9 2 [V5]
(.ri V13
(.join 1
(.br (.io .lss V10 V13)
(.pm f213 10 2 [V5,V10]
(.pm f213 10 3 [V14]
(.next 1 [V15])))
(.next 1 [(.k (.int .u64 (0)))]))
(.ext 242 [V12,V14,V9]
(.rq (.tup 0 V15)
(.rq (.tup 1 V15)
(.pm f213 11 9 [V7,V10]
(.ef false f213 11 10 [V16,(.proj V15 0)]
(.next 0 [(.proj V15 1),(.io .add V10 (.ki 1))])))))))))))
(.pm f213 13 2 [V4]
(.pm f213 13 4 [V7,V11]
(.ef false f213 13 5 [V12,V9]
(.ret [V7])))))))))))))))))
theorem c1y:tree prog [] [] [⟨2,14,[0,1],[]⟩,⟨2,31,[9],[]⟩,⟨0,6,[],[]⟩] [] 213=some c1x:=by kernel_rfl
noncomputable def b4L:Tree:=(.pm f215 1 1 [V0]
(.ef false f215 1 2 [V2,V2]
(.pm f215 3 1 [V0]
(.loop [(.k (.int .u64 (0))),(.ki 0)]
(.ri V6
(.ri V4
(.br (.io .lss V6 V4)
(.pm f215 5 1 [V0,V6]
(.pm f215 5 2 [V7]
(.pm f215 7 2 [V1]
(.ri V9
(.join 1
(.br (.io .lss V6 V9)
(.pm f215 8 2 [V1,V6]
(.pm f215 8 3 [V10]
(.next 1 [V11])))
(.next 1 [(.k (.int .u64 (0)))]))
(.ext 243 [V8,V10,V5]
(.rq (.tup 0 V11)
(.rq (.tup 1 V11)
(.pm f215 9 9 [V3,V6]
(.ef false f215 9 10 [V12,(.proj V11 0)]
(.next 0 [(.proj V11 1),(.io .add V6 (.ki 1))])))))))))))
(.ret [V3]))))))))
theorem b4M:tree prog [] [] [⟨2,23,[9],[]⟩,⟨0,4,[],[]⟩] [] 215=some b4L:=by kernel_rfl
noncomputable def c1z:Tree:=(.pm f244 1 1 [V0]
(.pm f244 1 3 [V1]
(.ri V2
(.ri V3
(.ef false f244 1 5 [(.io .add V2 V3),(.io .add V2 V3)]
(.pm f244 2 1 [V0]
(.loop [(.ki 0)]
(.ri V6
(.ri V5
(.br (.io .lss V6 V5)
(.pm f244 4 1 [V0,V6]
(.pm f244 4 2 [V7]
(.pm f244 6 1 [V1]
(.loop [(.k (.int .u64 (0))),(.ki 0)]
(.ri V11
(.ri V9
(.br (.io .lss V11 V9)
(.pm f244 8 1 [V1,V11]
(.pm f244 8 2 [V12]
(.call false 260 [V8,V13]
(.rq (.tup 0 V14)
(.rq (.tup 1 V14)
(.pm f244 10 4 [V4,(.io .add V6 V11)]
(.pm f244 10 5 [V15]
(.ext 242 [V16,(.proj V14 1),(.k (.int .u64 (0)))]
(.rq (.tup 0 V17)
(.rq (.tup 1 V17)
(.ext 242 [(.proj V17 0),V10,(.k (.int .u64 (0)))]
(.rq (.tup 0 V18)
(.rq (.tup 1 V18)
(.rq (.int .u64 (.proj V14 0))
(.rq (.int .u64 (.proj V17 1))
(.rq (.int .u64 (.proj V18 1))
(.pm f244 12 10 [V4,(.io .add V6 V11)]
(.ef false f244 12 11 [V19,(.proj V18 0)]
(.next 1 [(.uo .add (.uo .add (.proj V14 0) (.proj V17 1)) (.proj V18 1)),(.io .add V11 (.ki 1))])))))))))))))))))))
(.pm f244 14 3 [V1]
(.ri V12
(.pm f244 14 6 [V4,(.io .add V6 V12)]
(.ef false f244 14 7 [V13,V10]
(.next 0 [(.io .add V6 (.ki 1))]))))))))))))
(.ret [V4])))))))))))
theorem c1A:tree prog [] [] [⟨0,3,[],[]⟩,⟨0,7,[],[]⟩] [] 244=some c1z:=by kernel_rfl
noncomputable def c1B:Tree:=(.pm f262 1 1 [V0]
(.ri V1
(.br (.io .eql V1 (.ki 0))
(.ret [(.ki 0)])
(.pm f262 3 1 [V0]
(.ri V2
(.pm f262 3 5 [V0]
(.ri V3
(.pm f262 3 7 [V0,(.io .sub V3 (.ki 1))]
(.pm f262 3 8 [V4]
(.call false 268 [V5]
(.ri V6
(.ret [(.io .sub (.io .mul (.ki 64) V2) V6)]))))))))))))
theorem c1C:tree prog [] [] [] [] 262=some c1B:=by kernel_rfl
noncomputable def b4N:Tree:=(.pm f263 1 1 [V0]
(.ri V1
(.ri V2
(.ef false f263 1 6 [(.io .add (.io .add V2 (.io .quo V1 (.ki 64))) (.ki 1)),(.io .add (.io .add V2 (.io .quo V1 (.ki 64))) (.ki 1))]
(.pm f263 2 1 [V0]
(.loop [(.ki 0)]
(.ri V5
(.ri V4
(.br (.io .lss V5 V4)
(.pm f263 4 1 [V0,V5]
(.pm f263 4 2 [V6]
(.pm f263 5 5 [V3,(.io .add V5 (.io .quo V1 (.ki 64)))]
(.pm f263 5 6 [V8]
(.ru V7
(.rq (.nn (.io .rem V1 (.ki 64)))
(.ru V9
(.pm f263 5 12 [V3,(.io .add V5 (.io .quo V1 (.ki 64)))]
(.ef false f263 5 13 [V10,(.uo .or V9 (.uo .shl V7 (.io .rem V1 (.ki 64))))]
(.br (.io .gtr (.io .rem V1 (.ki 64)) (.ki 0))
(.rq (.nn (.io .sub (.ki 64) (.io .rem V1 (.ki 64))))
(.pm f263 7 11 [V3,(.io .add (.io .add V5 (.io .quo V1 (.ki 64))) (.ki 1))]
(.ef false f263 7 12 [V12,(.uo .shr V7 (.io .sub (.ki 64) (.io .rem V1 (.ki 64))))]
(.next 0 [(.io .add V5 (.ki 1))]))))
(.next 0 [(.io .add V5 (.ki 1))])))))))))))
(.call false 167 [(.k (.bool false)),V3]
(.rq (.agg 2 V6)
(.ret [(.cell V6 1 0 noI)]))))))))))))
theorem b4O:tree prog [] [] [⟨0,3,[],[]⟩] [⟨5,[0,0,0,4,14,31,63,0,0,256,896,2047,4095,8191],[0,0,0,0,0,1,1,0,0,0,0,0,1,4],[0,0,0,0,0,0,0,0,0,0,0,0,0,0],[0,1,2,3,4,5,6,7,8,9,10,11,12],[13]⟩] 263=some b4N:=by kernel_rfl
noncomputable def c1D:Tree:=(.pm f245 1 1 [V0]
(.ef false f245 1 2 [V2,V2]
(.pm f245 2 1 [V1]
(.ri V4
(.br (.io .eql V4 (.ki 1))
(.pm f245 4 1 [V0]
(.ri V5
(.loop [(.k (.int .u64 (0))),(.io .sub V5 (.ki 1))]
(.ri V7
(.br (.io .geq V7 (.ki 0))
(.pm f245 7 5 [V0,V7]
(.pm f245 7 6 [V8]
(.pm f245 7 8 [V1,(.ki 0)]
(.pm f245 7 9 [V10]
(.call true 261 [V6,V9,V11]
(.rq (.tup 0 V12)
(.rq (.tup 1 V12)
(.pm f245 7 14 [V3,V7]
(.ef false f245 7 15 [V13,(.proj V12 0)]
(.next 0 [(.proj V12 1),(.io .sub V7 (.ki 1))]))))))))))
(.ef false f245 8 2 [V6]
(.call false 167 [(.k (.bool false)),V8]
(.rq (.agg 2 V9)
(.ret [V3,(.cell V9 1 0 noI)])))))))))
(.call false 262 [V0]
(.call false 262 [V1]
(.ri V5
(.ri V6
(.loop [V0,(.io .sub V5 V6)]
(.ri V8
(.br (.io .geq V8 (.ki 0))
(.call false 263 [V1,V8]
(.call false 214 [V7,V9]
(.ri V10
(.br (.io .geq V10 (.ki 0))
(.call false 215 [V7,V9]
(.call false 167 [(.k (.bool false)),V11]
(.rq (.agg 2 V12)
(.pm f245 16 3 [V3,(.io .quo V8 (.ki 64))]
(.pm f245 16 4 [V13]
(.rq (.nn (.io .rem V8 (.ki 64)))
(.ru V14
(.pm f245 16 9 [V3,(.io .quo V8 (.ki 64))]
(.ef false f245 16 10 [V15,(.uo .or V14 (.uo .shl (.k (.int .u64 (1))) (.io .rem V8 (.ki 64))))]
(.next 0 [(.cell V12 1 0 noI),(.io .sub V8 (.ki 1))]))))))))))
(.next 0 [V7,(.io .sub V8 (.ki 1))])))))
(.ret [V3,V7])))))))))))))
theorem c1E:tree prog [] [] [⟨0,5,[],[]⟩,⟨0,11,[],[]⟩] [⟨7,[0,0,0,0,0,24,56,0,128,384,1020,2044,4092,4092,8191,24575,65535],[0,0,0,0,0,1,1,0,1,1,2,0,0,0,1,4,0],[0,0,0,0,0,0,0,0,0,0,0,0,0,0,0,0,0],[0,1,2,3,4,5,6,7,8,9,10,11,12,13,14],[15,16]⟩,⟨16,[0,0,2,7,15,0,32,96,255,511,1023],[0,0,0,1,1,0,0,0,0,1,4],[0,0,0,0,0,0,0,0,0,0,0],[0,1,2,3,4,5,6,7,8,9],[10]⟩] 245=some c1D:=by kernel_rfl
noncomputable def a8b:Tree:=(.rq (.cells 2 V0)
(.rq (.bool (.cell V0 0 0 noI))
(.call false 167 [(.nt (.cell V0 0 0 noI)),(.cell V0 1 0 noI)]
(.rq (.cells 2 V1)
(.ret [(.ag V1)])))))
theorem a8c:tree prog [] [] [] [] 169=some a8b:=by kernel_rfl
noncomputable def b4P:Tree:=(.rq (.cells 2 V0)
(.rq (.cells 2 V1)
(.rq (.bool (.cell V0 0 0 noI))
(.rq (.bool (.cell V1 0 0 noI))
(.br (.eqb false (.cell V0 0 0 noI) (.cell V1 0 0 noI))
(.call true 213 [(.cell V0 1 0 noI),(.cell V1 1 0 noI)]
(.call true 167 [(.cell V0 0 0 noI),V2]
(.rq (.cells 2 V3)
(.ret [(.ag V3)]))))
(.call false 214 [(.cell V0 1 0 noI),(.cell V1 1 0 noI)]
(.ri V2
(.br (.io .lss V2 (.ki 0))
(.call true 215 [(.cell V1 1 0 noI),(.cell V0 1 0 noI)]
(.call true 167 [(.cell V1 0 0 noI),V3]
(.rq (.cells 2 V4)
(.ret [(.ag V4)]))))
(.call true 215 [(.cell V0 1 0 noI),(.cell V1 1 0 noI)]
(.call true 167 [(.cell V0 0 0 noI),V3]
(.rq (.cells 2 V4)
(.ret [(.ag V4)]))))))))))))
theorem b4Q:tree prog [] [] [] [⟨2,[0,1,0,4,0,16,60,127,255],[1,1,1,1,1,1,2,2,6],[0,0,0,0,0,0,0,0,2],[0,1,2,3,4,5,6,7],[8]⟩,⟨5,[0,1,0,4,0,16,60,127,255],[1,1,1,1,1,1,2,2,6],[0,0,0,0,0,0,0,0,2],[0,1,2,3,4,5,6,7],[8]⟩] 163=some b4P:=by kernel_rfl
noncomputable def b1b:Tree:=(.rq (.cells 2 V0)
(.rq (.cells 2 V1)
(.call true 169 [(.ag V1)]
(.call true 163 [(.ag V0),V2]
(.rq (.cells 2 V3)
(.ret [(.ag V3)]))))))
theorem b1c:tree prog [] [] [] [⟨1,[0,0,2,7,15],[5,5,2,2,6],[0,1,0,0,2],[0,1,2,3],[4]⟩] 98=some b1b:=by kernel_rfl
noncomputable def b1d:Tree:=(.rq (.cells 2 V0)
(.rq (.cells 2 V1)
(.rq (.bool (.cell V0 0 0 noI))
(.rq (.bool (.cell V1 0 0 noI))
(.call true 244 [(.cell V0 1 0 noI),(.cell V1 1 0 noI)]
(.call true 167 [(.eqb true (.cell V0 0 0 noI) (.cell V1 0 0 noI)),V2]
(.rq (.cells 2 V3)
(.ret [(.ag V3)]))))))))
theorem b1e:tree prog [] [] [] [⟨1,[0,1,0,4,15,0,32,0,128,480,1023,2047],[1,1,1,1,0,1,1,1,1,2,2,6],[0,0,0,0,0,0,0,0,0,0,0,2],[0,1,2,3,4,5,6,7,8,9,10],[11]⟩] 216=some b1d:=by kernel_rfl
noncomputable def b1f:Tree:=(.rq (.cells 2 V0)
(.rq (.cells 2 V1)
(.call false 245 [(.cell V0 1 0 noI),(.cell V1 1 0 noI)]
(.rq (.tup 0 V2)
(.rq (.tup 1 V2)
(.rq (.bool (.cell V0 0 0 noI))
(.rq (.bool (.cell V1 0 0 noI))
(.call true 167 [(.eqb true (.cell V0 0 0 noI) (.cell V1 0 0 noI)),(.proj V2 0)]
(.call true 167 [(.cell V0 0 0 noI),(.proj V2 1)]
(.rq (.cells 2 V3)
(.rq (.cells 2 V4)
(.rq (.bool (.cell V4 0 0 noI))
(.br (.cell V4 0 0 noI)
(.rq (.cells 1 (.cell V1 1 0 noI))
(.call false 163 [(.ag V4),(.cat (.z 4) 1 (.cell V1 1 0 noI))]
(.rq (.cells 2 V5)
(.ef false f217 6 3 [(.k (.int .u64 (1)))]
(.rq (.cells 1 V6)
(.call false 163 [(.ag V3),(.cat (.nt (.cell V1 0 0 noI)) 1 V6)]
(.rq (.cells 2 V7)
(.ret [(.ag V7),(.ag V5)]))))))))
(.ret [(.ag V3),(.ag V4)]))))))))))))))
theorem b1g:tree prog [] [] [] [⟨2,[0,1,0,4,15,0,63,0,128,0,1023,2047,4095],[1,1,1,1,0,0,2,1,1,0,2,6,6],[0,0,0,0,0,0,0,0,0,0,0,2,3],[0,1,2,3,4,5,7,8,9,6,10],[11,12]⟩,⟨8,[0,0,1,7],[5,5,6,6],[2,3,2,3],[0,1],[2,3]⟩] 217=some b1f:=by kernel_rfl
noncomputable def a8d:Tree:=(.rq (.cells 2 V0)
(.rq (.cells 2 V1)
(.loop [(.cell V0 1 0 noI),(.cell V1 1 0 noI)]
(.pm f246 2 1 [V3]
(.ri V4
(.br (.io .gtr V4 (.ki 0))
(.call false 245 [V2,V3]
(.rq (.tup 0 V5)
(.rq (.tup 1 V5)
(.next 0 [V3,(.proj V5 1)]))))
(.rq (.cells 1 V2)
(.ret [(.cat (.z 4) 1 V2)]))))))))
theorem b6k:tree prog [] [] [⟨0,2,[],[]⟩] [⟨1,[0,1,0,4,3,31],[1,1,1,1,0,0],[0,0,0,0,0,0],[0,1,2,3,4,5],[]⟩] 246=some a8d:=by kernel_rfl
noncomputable def b4R:Tree:=(.rq (.cells 2 V0)
(.rq (.bool (.cell V0 0 0 noI))
(.br (.cell V0 0 0 noI)
(.ret [(.k (.int .i64 (-1)))])
(.pm f95 3 2 [(.cell V0 1 0 noI)]
(.ri V1
(.br (.io .eql V1 (.ki 0))
(.ret [(.ki 0)])
(.ret [(.ki 1)])))))))
theorem b4S:tree prog [] [] [] [] 95=some b4R:=by kernel_rfl
theorem d0s:tree prog [] [] [] [] 96=some (.rq (.cells 2 V0)
(.rq (.cells 2 V1)
(.call false 98 [(.ag V0),(.ag V1)]
(.call false 95 [V2]
(.ret [V3]))))):=by kernel_rfl
end Go.Proofs.YtkcjbfoejpfbbaaGreatDoor
/- MADE BY rxgen.py: the trees of package share. -/
namespace Go.Proofs.YtkcjbfoejpfbbaaGreatDoor
open Go.Proofs.Tryz
open Go.RowKit Go.RX
noncomputable def a8e:Tree:=(.rq (.cells 2 V0)
(.rq (.cells 2 V1)
(.call false 246 [(.ag V0),(.ag V1)]
(.rq (.cells 2 V2)
(.call false 217 [(.ag V0),(.ag V2)]
(.rq (.tup 0 V3)
(.rq (.tup 1 V3)
(.rq (.cells 2 (.proj V3 0))
(.rq (.cells 2 (.proj V3 1))
(.call false 217 [(.ag V1),(.ag V2)]
(.rq (.tup 0 V4)
(.rq (.tup 1 V4)
(.rq (.cells 2 (.proj V4 0))
(.rq (.cells 2 (.proj V4 1))
(.rq (.bool (.cell (.proj V4 0) 0 0 noI))
(.br (.cell (.proj V4 0) 0 0 noI)
(.call true 169 [(.ag (.proj V3 0))]
(.call true 169 [(.ag (.proj V4 0))]
(.rq (.cells 2 V5)
(.rq (.cells 2 V6)
(.ret [(.cat (.ag V5) 2 (.ag V6))])))))
(.ret [(.cat (.ag (.proj V3 0)) 2 (.ag (.proj V4 0)))])))))))))))))))))
theorem b6l:tree prog [] [] [] [⟨5,[0,1,0,7,15,31],[5,2,5,2,6,6],[4,0,6,0,4,6],[0,2,1,3],[4,5]⟩] 221=some a8e:=by kernel_rfl
noncomputable def b1h:Tree:=(.rq (.cells 2 V0)
(.call true 159 [(.ki 1)]
(.rq (.cells 2 V1)
(.ret [(.cat (.ag V0) 2 V1)]))))
theorem c1F:tree prog [] [] [] [⟨1,[0,0,3,7],[5,2,0,6],[0,0,0,1],[0,1,2],[3]⟩] 158=some b1h:=by kernel_rfl
noncomputable def b1i:Tree:=(.rq (.cells 4 V0)
(.call false 93 [(.sub V0 0 2 0 noI)]
(.rq (.tup 0 V1)
(.rq (.tup 1 V1)
(.rq (.cells 8 (.proj V1 0))
(.call false 93 [(.sub V0 2 2 0 noI)]
(.rq (.tup 0 V2)
(.rq (.tup 1 V2)
(.rq (.cells 8 (.proj V2 0))
(.join 1
(.rq (.int .i64 (.proj V1 1))
(.br (.io .neq (.proj V1 1) (.ki 0))
(.next 0 [(.k (.bool true))])
(.rq (.int .i64 (.proj V2 1))
(.next 0 [(.io .neq (.proj V2 1) (.ki 0))]))))
(.rq (.bool V3)
(.br V3
(.ret [(.cat (.z 53) 8 (.z 53)),(.ki 6)])
(.ret [(.cat (.ag (.proj V1 0)) 8 (.ag (.proj V2 0))),(.ki 0)])))))))))))))
theorem c1G:tree prog [] [] [⟨3,3,[25],[]⟩] [] 85=some b1i:=by kernel_rfl
noncomputable def b1j:Tree:=(.rq (.cells 4 V0)
(.rq (.cells 4 V1)
(.call true 216 [(.sub V0 0 2 0 noI),(.sub V1 2 2 0 noI)]
(.call true 216 [(.sub V1 0 2 0 noI),(.sub V0 2 2 0 noI)]
(.call true 163 [V2,V3]
(.call true 216 [(.sub V0 2 2 0 noI),(.sub V1 2 2 0 noI)]
(.call true 221 [V4,V5]
(.rq (.cells 4 V6)
(.ret [(.ag V6)])))))))))
theorem c1H:tree prog [] [] [] [⟨1,[0,1,0,4,15,0,32,0,128,511,1023,0,2048,0,8192,32767,65535,131071],[1,1,1,1,2,1,1,1,1,2,2,1,1,1,1,2,2,6],[0,0,0,0,0,0,0,0,0,0,0,0,0,0,0,0,0,2],[0,1,2,3,5,6,7,8,11,12,13,14,4,9,10,15,16],[17]⟩] 198=some b1j:=by kernel_rfl
noncomputable def a6U:Tree:=(.rq (.cells 4 V0)
(.call true 169 [(.sub V0 0 2 0 noI)]
(.rq (.cells 2 V1)
(.ret [(.put (.cat V1 2 (.z 147)) 2 2 (.sub V0 2 2 0 noI) 0 noI)]))))
theorem b2z:tree prog [] [] [] [⟨1,[0,1,3,0,8,31,63],[1,1,2,1,1,0,6],[0,0,0,0,0,0,1],[0,1,3,4,2,5],[6]⟩] 199=some a6U:=by kernel_rfl
noncomputable def a8f:Tree:=(.rq (.cells 4 V0)
(.rq (.cells 4 V1)
(.call true 199 [(.ag V1)]
(.call true 198 [(.ag V0),V2]
(.rq (.cells 4 V3)
(.ret [(.ag V3)]))))))
theorem b6m:tree prog [] [] [] [⟨1,[0,0,2,7,15],[5,5,2,2,6],[0,1,0,0,2],[0,1,2,3],[4]⟩] 152=some a8f:=by kernel_rfl
noncomputable def a8g:Tree:=(.rq (.cells 4 V0)
(.rq (.cells 4 V1)
(.call true 216 [(.sub V0 0 2 0 noI),(.sub V1 0 2 0 noI)]
(.call true 216 [(.sub V0 2 2 0 noI),(.sub V1 2 2 0 noI)]
(.call true 221 [V2,V3]
(.rq (.cells 4 V4)
(.ret [(.ag V4)])))))))
theorem b6n:tree prog [] [] [] [⟨1,[0,1,0,4,15,0,32,0,128,511,1023,2047],[1,1,1,1,2,1,1,1,1,2,2,6],[0,0,0,0,0,0,0,0,0,0,0,2],[0,1,2,3,5,6,7,8,4,9,10],[11]⟩] 195=some a8g:=by kernel_rfl
noncomputable def b1k:Tree:=(.rq (.cells 4 V0)
(.rq (.cells 4 V1)
(.call true 216 [(.sub V0 0 2 0 noI),(.sub V1 2 2 0 noI)]
(.call true 216 [(.sub V0 2 2 0 noI),(.sub V1 0 2 0 noI)]
(.call true 221 [V2,V3]
(.rq (.cells 4 V4)
(.ret [(.ag V4)])))))))
theorem c1I:tree prog [] [] [] [⟨1,[0,1,0,4,15,0,32,0,128,511,1023,2047],[1,1,1,1,2,1,1,1,1,2,2,6],[0,0,0,0,0,0,0,0,0,0,0,2],[0,1,2,3,5,6,7,8,4,9,10],[11]⟩] 197=some b1k:=by kernel_rfl
noncomputable def b4T:Tree:=(.rq (.cells 8 V0)
(.rq (.cells 8 V1)
(.pm f173 1 2 [(.ag V1),(.z 53)]
(.rq (.bool V2)
(.br V2
(.ret [(.cat (.z 53) 8 (.z 53)),(.ki 7)])
(.call true 94 [(.ag V0)]
(.call true 94 [(.ag V1)]
(.call true 221 [V3,V4]
(.call true 85 [V5]
(.rq (.tup 0 V6)
(.rq (.tup 1 V6)
(.rq (.cells 16 (.proj V6 0))
(.ret [(.ag (.proj V6 0)),(.proj V6 1)])))))))))))))
theorem c5b:tree prog [] [] [] [⟨3,[0,1,0,7,15,31,63,63,255,511],[5,2,5,2,2,2,0,0,6,0],[0,0,1,0,0,0,0,0,2,0],[0,2,1,3,4,5,6,7],[8,9]⟩] 173=some b4T:=by kernel_rfl
noncomputable def c6Y:Tree:=(.call false 36 [V0]
(.call false 36 [V1]
(.call false 173 [V2,V3]
(.rq (.tup 0 V4)
(.rq (.tup 1 V4)
(.rq (.cells 16 (.proj V4 0))
(.ret [(.ag (.proj V4 0)),(.proj V4 1)])))))))
theorem d3D:tree prog [] [] [] [] 105=some c6Y:=by kernel_rfl
noncomputable def b4U:Tree:=(.call false 159 [V0]
(.call false 158 [V1]
(.rq (.cells 4 V2)
(.ret [(.ag V2)]))))
theorem c5c:tree prog [] [] [] [] 89=some b4U:=by kernel_rfl
end Go.Proofs.YtkcjbfoejpfbbaaGreatDoor

/- MADE BY rxgen.py (mkGT.py): trees of chapter 32. -/
import Derived.Test.YtlmgkkjgdapnpaaGreatDoorProg
import Derived.Test.YtlmgkkjgdapnpaaGreatDoorRxW
namespace Go.Proofs.YtlmgkkjgdapnpaaGreatDoor
open Go.Proofs.Tryz
open Go.RowKit Go.RX
set_option maxRecDepth 100000
theorem d2s:a0w prog [] [] [] [] 38=some (.rq (.cells 16 V1)
(.rq (.cells 4 V2)
(.pm f38 1 2 [V0,(.ag V1)]
(.rq (.tup 0 V3)
(.rq (.tup 1 V3)
(.rq (.cells 4 (.proj V3 0))
(.rq (.bool (.proj V3 1))
(.br (.proj V3 1)
(.call false 42 [(.ag V2),(.ag (.proj V3 0))]
(.rq (.cells 4 V4)
(.ef false f38 4 3 [V0,(.ag V1),(.ag V4)]
(.ret []))))
(.ef false f38 4 3 [V0,(.ag V1),(.ag V2)]
(.ret [])))))))))):=by kernel_rfl
theorem d2t:a0w prog [] [] [⟨0,5,[],[]⟩] [] 39=some (.pm f39 1 1 [V0]
(.pm f39 1 2 [V1]
(.pm f39 1 3 [V2]
(.pm f39 1 4 [V3]
(.ri V4
(.br (.io .gtr V4 (.ki 400))
(.ret [(.k (.slice none 0 0)),(.ki 3)])
(.pm f39 4 1 [V0]
(.pm f39 4 2 [V5]
(.pm f39 4 3 [V6]
(.ef false f39 4 4 [V7]
(.loop [(.k (.slice none 0 0))]
(.ef false f39 5 0 [V8]
(.rq (.tup 0 V10)
(.rq (.bool (.proj V10 0))
(.br (.proj V10 0)
(.ef false f39 6 0 [V8]
(.rq (.tup 0 V11)
(.rq (.tup 1 V11)
(.rq (.cells 16 (.proj V11 0))
(.rq (.cells 4 (.proj V11 1))
(.call false 44 [(.ag (.proj V11 1))]
(.rq (.tup 0 V12)
(.rq (.tup 1 V12)
(.rq (.cells 16 (.proj V12 0))
(.rq (.int .i64 (.proj V12 1))
(.br (.io .neq (.proj V12 1) (.ki 0))
(.pm f39 9 1 [V0]
(.pm f39 9 2 [V13]
(.ef false f39 9 3 [V14,(.k (.bool true))]
(.ef false f39 10 4 [(.cat (.ag (.proj V11 0)) 16 (.ag (.proj V12 0)))]
(.ef false f39 10 5 [V9,V16]
(.next 0 [V17]))))))
(.ef false f39 10 4 [(.cat (.ag (.proj V11 0)) 16 (.ag (.proj V12 0)))]
(.ef false f39 10 5 [V9,V13]
(.next 0 [V14]))))))))))))))
(.pm f39 11 1 [V0]
(.pm f39 11 2 [V11]
(.pm f39 11 3 [V12]
(.rq (.bool V13)
(.br V13
(.ret [(.k (.slice none 0 0)),(.ki 6)])
(.call false 73 [V9,(.k (.func (.func 102) #[] #[]))]
(.ret [V9,(.ki 0)])))))))))))))))))))))):=by kernel_rfl
theorem c6I:a0w prog [] [] [] [⟨1,[0,1,3,0,8,31,63,127],[0,5,2,0,5,2,2,0],[0,0,0,0,1,0,0,0],[0,1,3,4,2,5,6,7],[]⟩] 102=some (.rq (.cells 32 V0)
(.rq (.cells 32 V1)
(.call true 40 [(.sub V0 0 16 0 noI)]
(.call true 40 [(.sub V1 0 16 0 noI)]
(.call true 41 [V2,V3]
(.ret [V4])))))):=by kernel_rfl
theorem d2u:a0w prog [] [] [⟨0,3,[],[1]⟩] [⟨5,[0,0,0,6,15,31],[5,0,5,2,2,6],[1,0,2,0,0,1],[0,1,2,3,4],[5]⟩] 144=some (.call false 36 [(.ki 0)]
(.rq (.cells 4 V2)
(.pm f144 2 1 [V0]
(.loop [(.ki 0),V2]
(.ri V4
(.ri V3
(.br (.io .lss V4 V3)
(.pm f144 4 0 [V0,V4]
(.pm f144 4 1 [V6]
(.rq (.cells 32 V7)
(.ef true f144 5 3 [V1,(.ag V7)]
(.call true 42 [(.ag V5),V8]
(.rq (.cells 4 V9)
(.next 0 [(.io .add V4 (.ki 1)),V9])))))))
(.ret [(.ag V5)])))))))):=by kernel_rfl
theorem d7m:a0w prog [] [] [] [] 43=some (.rq (.cells 32 V0)
(.call false 40 [(.sub V0 16 16 0 noI)]
(.rq (.cells 4 V1)
(.ret [(.ag V1)])))):=by kernel_rfl
theorem d2v:a0w prog [] [] [⟨3,1,[12],[]⟩,⟨3,6,[54],[]⟩,⟨0,4,[],[]⟩] [⟨6,[0,1,3,7,15,31,63,127,255,511,1023,2047,4095,8191,16383,32767,65535,131071,262143,524287,1048575,2097151,2097151,6291455,16777215,33554431,67108863,134217727,2097151,270532607,1073741823,2147483647,4294967295,8589934591,17179869183],[0,5,2,0,0,0,5,2,0,0,0,5,2,0,2,0,0,0,0,0,0,0,0,0,1,1,1,2,0,5,2,2,0,0,0],[0,0,0,0,0,0,0,0,0,0,0,0,0,0,0,0,0,0,0,0,0,0,0,0,0,0,0,0,0,0,0,0,0,0,0],[0,1,2,3,4,5,6,7,8,9,10,11,12,13,14,15,16,17,18,19,20,21,22,23,24,25,26,28,29,27,30,31,32,33,34],[]⟩] 94=some (.join 1
(.pm f94 1 1 [V0]
(.ri V1
(.br (.io .lss V1 (.ki 1))
(.next 0 [(.k (.bool true))])
(.pm f94 1 5 [V0]
(.ri V2
(.next 0 [(.io .gtr V2 (.ki 400))]))))))
(.rq (.bool V1)
(.br V1
(.ret [(.ki 50)])
(.pm f94 3 1 [V0]
(.loop [(.ki 0),(.ki 0)]
(.ri V4
(.ri V2
(.br (.io .lss V4 V2)
(.pm f94 5 1 [V0,V4]
(.pm f94 5 2 [V5]
(.rq (.cells 32 V6)
(.join 1
(.call true 97 [(.sub V6 0 16 0 noI)]
(.ri V7
(.br (.io .neq V7 (.ki 0))
(.next 1 [(.k (.bool true))])
(.call true 97 [(.sub V6 16 16 0 noI)]
(.ri V8
(.br (.io .neq V8 (.ki 0))
(.next 1 [(.k (.bool true))])
(.call true 43 [(.ag V6)]
(.rq (.agg 4 V9)
(.call true 143 [(.sub V9 0 2 0 noI)]
(.ri V10
(.br (.io .leq V10 (.ki 0))
(.next 1 [(.k (.bool true))])
(.br (.io .gtr V4 (.ki 0))
(.pm f94 6 24 [V0,(.io .sub V4 (.ki 1))]
(.pm f94 6 25 [V11]
(.pm f94 6 26 [V12]
(.call true 40 [V13]
(.call true 40 [(.sub V6 0 16 0 noI)]
(.call true 41 [V14,V15]
(.ri V16
(.next 1 [(.io .geq V16 (.ki 0))]))))))))
(.next 1 [(.k (.bool false))])))))))))))))
(.rq (.bool V7)
(.br V7
(.ret [(.ki 50)])
(.next 0 [V3,(.io .add V4 (.ki 1))])))))))
(.call false 144 [V0,(.k (.func (.func 43) #[] #[]))]
(.call false 36 [(.ki 1)]
(.call false 41 [V5,V6]
(.ri V7
(.br (.io .neq V7 (.ki 0))
(.ret [(.ki 50)])
(.ret [(.ki 0)])))))))))))))):=by kernel_rfl
theorem d2w:a0w prog [] [] [] [] 13=some (.call false 58 [V0,V1,(.k (.func (.func 59) #[] #[]))]
(.ret [V2])):=by kernel_rfl
theorem c6J:a0w prog [] [] [] [] 59=some (.rq (.cells 32 V0)
(.rq (.cells 32 V1)
(.pm f59 1 2 [(.ag V0),(.ag V1)]
(.ret [V2])))):=by kernel_rfl
theorem d2x:a0w prog [] [] [] [] 35=some (.call false 92 [V0,(.k (.func (.func 93) #[] #[]))]
(.rq (.bool V2)
(.br V2
(.ret [(.ki 50)])
(.call false 95 [V1,(.k (.func (.func 96) #[] #[]))]
(.rq (.bool V3)
(.br V3
(.ret [(.ki 20)])
(.ret [(.ki 0)]))))))):=by kernel_rfl
theorem c6K:a0w prog [] [] [] [] 93=some (.call false 94 [V0]
(.ri V1
(.ret [(.io .neq V1 (.ki 0))]))):=by kernel_rfl
theorem c6L:a0w prog [] [] [] [] 96=some (.rq (.cells 16 V0)
(.call false 97 [(.ag V0)]
(.ri V1
(.ret [(.io .neq V1 (.ki 0))])))):=by kernel_rfl
theorem d2y:a0w prog [22,999999] [] [⟨0,11,[],[]⟩] [⟨13,[0,1,3,7,0,0,63],[0,1,1,1,5,5,8],[0,0,0,0,1,0,0],[0,1,2,3,4,5],[6]⟩] 9=some (.pm f9 1 1 [V0]
(.ri V1
(.br (.io .gtr V1 (.ki 400))
(.ret [(.k (.slice none 0 0)),(.ki 3)])
(.call false 35 [(.k (.slice none 0 0)),V0]
(.ri V2
(.br (.io .neq V2 (.ki 0))
(.ret [(.k (.slice none 0 0)),V2])
(.pm f9 6 1 [V0]
(.ri V3
(.br (.io .eql V3 (.ki 0))
(.ret [(.k (.slice none 0 0)),(.ki 4)])
(.ef false f9 8 0 []
(.rq (.cells 1 V4)
(.pub 110 (.cat V4 1 (.z 4))
(.call false 36 [(.ki 1)]
(.pm f9 9 2 [V0]
(.call false 36 [V7]
(.call false 37 [V6,V8]
(.rq (.cells 4 V9)
(.pm f9 10 1 [V0]
(.loop [(.ki 0)]
(.ri V11
(.ri V10
(.br (.io .lss V11 V10)
(.pm f9 12 0 [V0,V11]
(.pm f9 12 1 [V12]
(.rq (.cells 16 V13)
(.pm f9 13 1 [V5]
(.pm f9 13 2 [V14]
(.pm f9 13 3 [V15]
(.call false 38 [V16,(.ag V13),(.ag V9)]
(.next 0 [(.io .add V11 (.ki 1))]))))))))
(.call false 39 [V5]
(.rq (.tup 0 V12)
(.rq (.tup 1 V12)
(.ret [(.proj V12 0),(.proj V12 1)])))))))))))))))))))))))))):=by kernel_rfl
theorem d2z:a0w prog [] [] [⟨0,6,[],[3,4]⟩] [⟨3,[0,0,0,1,11,31],[5,5,0,6,6,0],[1,2,0,1,2,0],[0,1,2],[3,4,5]⟩,⟨8,[0,1,3,0,15,31,63],[0,5,2,5,2,2,0],[0,5,0,0,0,0,0],[0,1,3,2,4,5,6],[]⟩,⟨10,[0,0,2,7,15],[5,5,2,2,6],[3,5,0,0,3],[0,1,2,3],[4]⟩,⟨17,[0,0,1,7,15],[5,5,6,6,0],[1,2,1,2,0],[0,1],[2,3,4]⟩,⟨18,[0,0,1,7,15],[5,5,6,6,0],[5,6,1,2,0],[0,1],[2,3,4]⟩] 10=some (.rq (.cells 16 V1)
(.ef false f10 1 1 [V0]
(.ef false f10 1 3 [(.ag V1)]
(.call false 35 [V2,V3]
(.ri V4
(.br (.io .neq V4 (.ki 0))
(.ret [(.z 61),(.z 61),V4])
(.call false 36 [(.ki 0)]
(.call false 36 [(.ki 0)]
(.rq (.cells 4 V5)
(.rq (.cells 4 V6)
(.pm f10 5 1 [V0]
(.loop [(.ki 0),V5,V6]
(.ri V8
(.ri V7
(.br (.io .lss V8 V7)
(.pm f10 7 0 [V0,V8]
(.pm f10 7 1 [V11]
(.rq (.cells 32 V12)
(.call true 40 [(.sub V12 0 16 0 noI)]
(.call true 40 [(.ag V1)]
(.call true 41 [V13,V14]
(.ri V15
(.br (.io .lss V15 (.ki 0))
(.call true 43 [(.ag V12)]
(.call true 42 [(.ag V9),V16]
(.rq (.cells 4 V17)
(.next 0 [(.io .add V8 (.ki 1)),V17,V10]))))
(.br (.io .eql V15 (.ki 0))
(.call false 43 [(.ag V12)]
(.rq (.cells 4 V16)
(.next 0 [(.io .add V8 (.ki 1)),V9,V16])))
(.next 0 [(.io .add V8 (.ki 1)),V9,V10]))))))))))
(.call false 44 [(.ag V9)]
(.rq (.tup 0 V11)
(.rq (.tup 1 V11)
(.rq (.cells 16 (.proj V11 0))
(.call false 44 [(.ag V10)]
(.rq (.tup 0 V12)
(.rq (.tup 1 V12)
(.rq (.cells 16 (.proj V12 0))
(.rq (.int .i64 (.proj V11 1))
(.br (.io .neq (.proj V11 1) (.ki 0))
(.ret [(.z 61),(.z 61),(.ki 6)])
(.rq (.int .i64 (.proj V12 1))
(.br (.io .neq (.proj V12 1) (.ki 0))
(.ret [(.z 61),(.z 61),(.ki 6)])
(.ret [(.ag (.proj V11 0)),(.ag (.proj V12 0)),(.ki 0)])))))))))))))))))))))))))))):=by kernel_rfl
theorem d2A:a0w prog [] [] [⟨0,4,[],[]⟩] [] 58=some (.pm f58 1 1 [V0]
(.pm f58 1 3 [V1]
(.ri V3
(.ri V4
(.br (.io .neq V3 V4)
(.ret [(.k (.bool false))])
(.pm f58 3 1 [V0]
(.loop [(.k (.bool false)),(.ki 0)]
(.ri V7
(.ri V5
(.br (.io .lss V7 V5)
(.pm f58 5 1 [V0,V7]
(.pm f58 5 2 [V8]
(.rq (.cells 32 V9)
(.pm f58 6 2 [V1,V7]
(.pm f58 6 3 [V10]
(.rq (.cells 32 V11)
(.ef false f58 7 3 [V2,(.ag V9),(.ag V11)]
(.rq (.bool V12)
(.br (.nt V12)
(.ret [(.k (.bool false))])
(.next 0 [V6,(.io .add V7 (.ki 1))]))))))))))
(.ret [(.k (.bool true))]))))))))))):=by kernel_rfl
theorem d2B:a0w prog [] [] [] [] 92=some (.call false 142 [V0,V1]
(.ri V2
(.ret [(.io .geq V2 (.ki 0))]))):=by kernel_rfl
theorem d2C:a0w prog [] [] [⟨0,2,[],[]⟩] [] 142=some (.pm f142 1 1 [V0]
(.loop [(.ki 0),(.ki 0)]
(.ri V4
(.ri V2
(.br (.io .lss V4 V2)
(.pm f142 4 3 [V0,V4]
(.pm f142 4 4 [V5]
(.ef false f142 4 5 [V1,V6]
(.rq (.bool V7)
(.br V7
(.ret [V4])
(.next 0 [V3,(.io .add V4 (.ki 1))]))))))
(.ret [(.k (.int .i64 (-1)))])))))):=by kernel_rfl
theorem d2D:a0w prog [] [] [] [] 95=some (.call false 145 [V0,V1]
(.ri V2
(.ret [(.io .geq V2 (.ki 0))]))):=by kernel_rfl
theorem d2E:a0w prog [] [] [⟨0,2,[],[]⟩] [] 145=some (.pm f145 1 1 [V0]
(.loop [(.ki 0),(.ki 0)]
(.ri V4
(.ri V2
(.br (.io .lss V4 V2)
(.pm f145 4 3 [V0,V4]
(.pm f145 4 4 [V5]
(.ef false f145 4 5 [V1,V6]
(.rq (.bool V7)
(.br V7
(.ret [V4])
(.next 0 [V3,(.io .add V4 (.ki 1))]))))))
(.ret [(.k (.int .i64 (-1)))])))))):=by kernel_rfl
theorem d2F:a0w prog [] [] [] [] 22=some (.rq (.cells 8 V0)
(.ri V1
(.br (.io .neq V1 (.ki 0))
(.rq (.cells 1 V1)
(.pm f22 2 2 [(.ag V1)]
(.ef false f22 2 3 [V2]
(.ret [(.ag V0)]))))
(.ret [(.ag V0)])))):=by kernel_rfl
theorem d2G:a0w prog [] [] [] [] 48=some (.ri V1
(.br (.io .neq V1 (.ki 0))
(.rq (.cells 1 V1)
(.pm f48 2 2 [(.ag V1)]
(.ef false f48 2 3 [V2]
(.ret [V0]))))
(.ret [V0]))):=by kernel_rfl
theorem d2H:a0w prog [] [] [] [] 50=some (.ri V1
(.br (.io .neq V1 (.ki 0))
(.rq (.cells 1 V1)
(.pm f50 2 2 [(.ag V1)]
(.ef false f50 2 3 [V2]
(.ret [V0]))))
(.ret [V0]))):=by kernel_rfl
theorem d2I:a0w prog [] [] [] [] 56=some (.ri V1
(.br (.io .neq V1 (.ki 0))
(.rq (.cells 1 V1)
(.pm f56 2 2 [(.ag V1)]
(.ef false f56 2 3 [V2]
(.ret [V0]))))
(.ret [V0]))):=by kernel_rfl
theorem d2J:a0w prog [] [] [] [] 68=some (.ri V1
(.br (.io .neq V1 (.ki 0))
(.rq (.cells 1 V1)
(.pm f68 2 2 [(.ag V1)]
(.ef false f68 2 3 [V2]
(.ret [V0]))))
(.ret [V0]))):=by kernel_rfl
theorem d2K:a0w prog [] [] [] [] 71=some (.rq (.cells 16 V0)
(.ri V1
(.br (.io .neq V1 (.ki 0))
(.rq (.cells 1 V1)
(.pm f71 2 2 [(.ag V1)]
(.ef false f71 2 3 [V2]
(.ret [(.ag V0)]))))
(.ret [(.ag V0)])))):=by kernel_rfl
theorem c1L:a0w prog [] [] [] [] 47=some (.rq (.bool V0)
(.br V0
(.call false 52 [V1]
(.ret []))
(.ret []))):=by kernel_rfl
theorem c1M:a0w prog [] [] [] [] 52=some (.ri V0
(.br (.io .neq V0 (.ki 0))
(.rq (.cells 1 V0)
(.pm f52 1 2 [(.ag V0)]
(.ef false f52 1 3 [V1]
(.ret []))))
(.ret []))):=by kernel_rfl
theorem c1N:a0w prog [23,999998] [] [⟨0,5,[],[]⟩] [⟨8,[0,0,2,6,14,30,0,64,192,510,1023,2047,4095,8191],[0,0,1,1,1,1,0,5,2,8,7,7,7,8],[0,0,0,0,0,0,0,1,0,0,0,0,0,0],[0,1,2,3,4,5,6,7,8],[9,10,11,12,13]⟩,⟨11,[0,1,3,7,15,31,0,64,192,511,1023],[0,7,7,7,7,7,0,0,5,0,8],[0,0,0,0,0,0,0,0,0,0,0],[],[0,1,2,3,4,5,6,7,8,9,10]⟩,⟨12,[0,1,0,4,12,28,63,127],[0,5,0,7,7,7,8,8],[0,0,0,0,0,0,0,0],[],[0,1,2,3,4,5,6,7]⟩] 20=some (.rq (.cells 12 V0)
(.call false 65 [(.sub V0 0 2 0 noI)]
(.call false 52 [V1]
(.call false 26 [(.sub V0 2 4 0 noI)]
(.call false 52 [V3]
(.rq (.cells 1 (.cell V0 7 0 noI))
(.rq (.cells 1 (.cell V0 8 0 noI))
(.rq (.cells 1 (.cell V0 6 0 noI))
(.rq (.cells 4 (.cat (.z 38) 1 (.cat (.sub (.put (.cat (.cell V0 7 0 noI) 1 (.cat (.z 3) 1 (.z 3))) 1 1 (.cell V0 8 0 noI) 0 noI) 0 2 0 noI) 2 (.cell V0 6 0 noI))))
(.pub 134 (.cat (.ag V0) 12 (.cat (.cat (.z 38) 1 (.cat (.sub (.put (.cat (.cell V0 7 0 noI) 1 (.cat (.z 3) 1 (.z 3))) 1 1 (.cell V0 8 0 noI) 0 noI) 0 2 0 noI) 2 (.cell V0 6 0 noI))) 4 (.z 4)))
(.pm f20 4 3 [(.cell V0 5 0 noI)]
(.loop [(.ki 0)]
(.ri V7
(.ri V6
(.br (.io .lss V7 V6)
(.pm f20 6 0 [(.cell V0 5 0 noI),V7]
(.pm f20 6 1 [V8]
(.rq (.cells 6 V9)
(.rq (.bool (.cell V9 5 0 noI))
(.br (.nt (.cell V9 5 0 noI))
(.pm f20 8 2 [V5]
(.pm f20 8 3 [V10]
(.pm f20 8 4 [V11]
(.pm f20 8 5 [V12]
(.ef true f20 8 8 [(.cell V9 1 0 noI)]
(.ef false f20 8 9 [V13,V14]
(.pm f20 8 10 [V5]
(.pm f20 8 11 [V16]
(.pm f20 8 12 [V17]
(.ef false f20 8 13 [V18,V15]
(.pm f20 9 2 [V5]
(.pm f20 9 3 [V20]
(.pm f20 9 4 [V21]
(.rq (.bool V22)
(.br V22
(.pm f20 9 10 [V5]
(.pm f20 9 11 [V23]
(.ef false f20 9 12 [V24,(.k (.bool true))]
(.next 0 [(.io .add V7 (.ki 1))]))))
(.rq (.int .i64 (.cell V9 1 0 noI))
(.pm f20 9 10 [V5]
(.pm f20 9 11 [V23]
(.ef false f20 9 12 [V24,(.io .gtr (.cell V9 1 0 noI) (.ki 0))]
(.next 0 [(.io .add V7 (.ki 1))]))))))))))))))))))))
(.next 0 [(.io .add V7 (.ki 1))]))))))
(.pm f20 11 1 [V5]
(.pm f20 11 2 [V8]
(.pm f20 11 3 [V9]
(.pm f20 11 4 [V10]
(.pm f20 11 5 [V11]
(.ri V12
(.rq (.int .i64 (.cell V0 0 0 noI))
(.call false 47 [(.io .neq V12 (.cell V0 0 0 noI)),(.ki 5)]
(.pm f20 12 3 [V5]
(.pm f20 12 4 [V14]
(.pm f20 12 5 [V15]
(.call false 66 [(.sub V0 0 2 0 noI),V16]
(.call false 52 [V17]
(.call false 67 [V5]
(.ret [V5])))))))))))))))))))))))))))))):=by kernel_rfl
theorem c1O:a0w prog [] [] [] [⟨9,[0,0,2,6,14,30,0,64,192,448,960,1984,4095],[0,0,1,1,1,1,0,1,1,1,1,1,2],[0,0,0,0,0,0,0,0,0,0,0,0,0],[0,1,2,3,4,5,6,7,8,9,10,11,12],[]⟩,⟨11,[0,0,2,6,14,30,0,64,192,448,960,1984,4095],[0,0,1,1,1,1,0,1,1,1,1,1,2],[0,0,0,0,0,0,0,0,0,0,0,0,0],[0,1,2,3,4,5,6,7,8,9,10,11,12],[]⟩,⟨13,[0,0,2,6,14,30,0,64,192,448,960,1984,4095],[0,0,1,1,1,1,0,1,1,1,1,1,2],[0,0,0,0,0,0,0,0,0,0,0,0,0],[0,1,2,3,4,5,6,7,8,9,10,11,12],[]⟩] 67=some (.pm f67 1 2 [V0]
(.pm f67 1 3 [V1]
(.pm f67 1 4 [V2]
(.pm f67 1 5 [V3]
(.ef false f67 1 6 [(.k (.func (.func 117) #[] #[])),V4,(.ki 9)]
(.pm f67 2 1 [V0]
(.pm f67 2 2 [V6]
(.pm f67 2 3 [V7]
(.pm f67 2 4 [V8]
(.ri V9
(.br (.io .eql V9 (.ki 0))
(.call false 52 [(.ki 2)]
(.ret []))
(.br (.io .eql V9 (.ki 1))
(.pm f67 6 1 [V0]
(.pm f67 6 2 [V10]
(.pm f67 6 3 [V11]
(.rq (.bool V12)
(.call false 47 [(.nt V12),(.ki 7)]
(.ret []))))))
(.br (.io .eql V9 (.ki 5))
(.pm f67 9 2 [V0]
(.pm f67 9 3 [V10]
(.pm f67 9 4 [V11]
(.pm f67 9 5 [V12]
(.pm f67 9 7 [V0]
(.pm f67 9 8 [V14]
(.pm f67 9 9 [V15]
(.pm f67 9 10 [V16]
(.pm f67 9 11 [V17]
(.ef true f67 9 12 [(.k (.func (.func 117) #[] #[])),V13,V18]
(.ret [])))))))))))
(.br (.io .eql V9 (.ki 6))
(.pm f67 9 2 [V0]
(.pm f67 9 3 [V10]
(.pm f67 9 4 [V11]
(.pm f67 9 5 [V12]
(.pm f67 9 7 [V0]
(.pm f67 9 8 [V14]
(.pm f67 9 9 [V15]
(.pm f67 9 10 [V16]
(.pm f67 9 11 [V17]
(.ef true f67 9 12 [(.k (.func (.func 117) #[] #[])),V13,V18]
(.ret [])))))))))))
(.br (.io .eql V9 (.ki 7))
(.pm f67 11 2 [V0]
(.pm f67 11 3 [V10]
(.pm f67 11 4 [V11]
(.pm f67 11 5 [V12]
(.pm f67 11 7 [V0]
(.pm f67 11 8 [V14]
(.pm f67 11 9 [V15]
(.pm f67 11 10 [V16]
(.pm f67 11 11 [V17]
(.ef true f67 11 12 [(.k (.func (.func 117) #[] #[])),V13,V18]
(.ret [])))))))))))
(.br (.io .eql V9 (.ki 8))
(.pm f67 13 2 [V0]
(.pm f67 13 3 [V10]
(.pm f67 13 4 [V11]
(.pm f67 13 5 [V12]
(.pm f67 13 7 [V0]
(.pm f67 13 8 [V14]
(.pm f67 13 9 [V15]
(.pm f67 13 10 [V16]
(.pm f67 13 11 [V17]
(.ef true f67 13 12 [(.k (.func (.func 117) #[] #[])),V13,V18]
(.ret [])))))))))))
(.ret []))))))))))))))))):=by kernel_rfl
theorem c6M:a0w prog [] [] [] [] 117=some (.ri V0
(.br (.io .lss V0 (.ki 0))
(.call false 47 [(.k (.bool true)),(.ki 2)]
(.ret []))
(.ri V1
(.call false 47 [(.io .geq V0 V1),(.ki 2)]
(.ret []))))):=by kernel_rfl
theorem d2L:a0w prog [] [] [] [⟨1,[0,1,3,7,15,0,32,96,224,480,0,0,2048,6144,14336,30720,0,65536,196608,458752,983040,0,2097152,6291456,14680064,31457280,0,67108864,201326592,469762048,1006632960,2147483647,4294967295,4294967295,17179869183,34359738367],[0,1,1,1,1,0,1,1,1,1,0,0,1,1,1,1,0,1,1,1,1,0,1,1,1,1,0,1,1,1,1,2,0,0,2,6],[0,0,0,0,0,0,0,0,0,0,0,0,0,0,0,0,0,0,0,0,0,0,0,0,0,0,0,0,0,0,0,0,0,0,0,0],[0,1,2,3,4,5,6,7,8,9,10,11,12,13,14,15,16,17,18,19,20,21,22,23,24,25,26,27,28,29,30,31,32,33,34],[35]⟩] 51=some (.pm f51 1 1 [V0]
(.pm f51 1 2 [V2]
(.pm f51 1 3 [V3]
(.pm f51 1 4 [V4]
(.pm f51 1 6 [V0]
(.pm f51 1 7 [V6]
(.pm f51 1 8 [V7]
(.pm f51 1 9 [V8]
(.pm f51 1 12 [V0]
(.pm f51 1 13 [V10]
(.pm f51 1 14 [V11]
(.pm f51 1 15 [V12]
(.pm f51 1 17 [V0]
(.pm f51 1 18 [V14]
(.pm f51 1 19 [V15]
(.pm f51 1 20 [V16]
(.pm f51 1 22 [V0]
(.pm f51 1 23 [V18]
(.pm f51 1 24 [V19]
(.pm f51 1 25 [V20]
(.pm f51 1 27 [V0]
(.pm f51 1 28 [V22]
(.pm f51 1 29 [V23]
(.pm f51 1 30 [V24]
(.call true 8 [V5,V9,V1,V13,V17,V21,V25]
(.rq (.tup 0 V26)
(.rq (.tup 1 V26)
(.call true 71 [(.proj V26 0),(.proj V26 1)]
(.rq (.cells 16 V27)
(.ret [(.ag V27)])))))))))))))))))))))))))))))):=by kernel_rfl
theorem d2M:a0w prog [1,3] [] [] [⟨1,[0,1,3,7,15,0,32,96,224,511,1023,1023,4095,0,16383],[1,1,1,1,1,1,1,1,1,2,0,0,2,3,8],[0,0,0,0,0,0,0,0,0,0,0,0,0,0,0],[0,1,2,3,4,5,6,7,8,9,10,11,12,13],[14]⟩] 21=some (.rq (.cells 1 V0)
(.pub 82 V0
(.pm f21 1 0 [V1]
(.pm f21 1 1 [V2]
(.pm f21 1 2 [V3]
(.pm f21 1 3 [V4]
(.pm f21 1 4 [V5]
(.pm f21 1 5 [V1]
(.pm f21 1 6 [V7]
(.pm f21 1 7 [V8]
(.pm f21 1 8 [V9]
(.call true 7 [V6,V10]
(.rq (.tup 0 V11)
(.rq (.tup 1 V11)
(.call true 68 [(.proj V11 0),(.proj V11 1)]
(.pub 53 (.z 53)
(.ef false f21 1 14 [V13,V12]
(.pm f21 2 0 [V13]
(.pm f21 2 1 [V15]
(.ri V16
(.call false 47 [(.io .eql V16 (.ki 0)),(.ki 4)]
(.ef false f21 3 0 [V13,V1]
(.ret [V18]))))))))))))))))))))))):=by kernel_rfl
theorem c6N:a0w prog [] [] [⟨0,1,[],[]⟩] [] 69=some (.pm f69 0 0 [V1]
(.pm f69 0 1 [V3]
(.loop [(.ki 0)]
(.ri V5
(.ri V4
(.br (.io .lss V5 V4)
(.pm f69 2 0 [V3,V5]
(.pm f69 2 1 [V6]
(.pm f69 3 2 [V2]
(.call false 51 [V8,V7]
(.ef false f69 3 5 [V0,V7,V9]
(.rq (.bool V10)
(.br (.nt V10)
(.ret [])
(.next 0 [(.io .add V5 (.ki 1))]))))))))
(.ret []))))))):=by kernel_rfl
theorem d2N:a0w prog [999998] [] [⟨0,3,[],[0]⟩,⟨0,8,[],[]⟩] [⟨10,[0,0,0,0,12,28,28,124,254,510,1023,2047],[0,5,5,5,8,0,0,8,0,8,8,0],[0,1,2,0,0,0,0,0,0,0,0,0],[],[0,1,2,3,4,5,6,7,8,9,10,11]⟩] 25=some (.ef false f25 2 1 [V0]
(.loop [(.z 59)]
(.ef false f25 3 0 [V1]
(.rq (.tup 0 V3)
(.rq (.bool (.proj V3 0))
(.br (.proj V3 0)
(.ef false f25 4 0 [V1]
(.rq (.tup 1 V4)
(.rq (.cells 8 (.proj V4 1))
(.call false 23 [(.ag V2),(.ag (.proj V4 1))]
(.rq (.tup 0 V5)
(.rq (.tup 1 V5)
(.call false 22 [(.proj V5 0),(.proj V5 1)]
(.rq (.cells 8 V6)
(.next 0 [V6])))))))))
(.ef false f25 7 1 [V0]
(.loop [(.k (.slice none 0 0))]
(.ef false f25 8 0 [V4]
(.rq (.tup 0 V6)
(.rq (.bool (.proj V6 0))
(.br (.proj V6 0)
(.ef false f25 9 0 [V4]
(.rq (.tup 0 V7)
(.rq (.tup 1 V7)
(.rq (.cells 16 (.proj V7 0))
(.rq (.cells 8 (.proj V7 1))
(.call false 72 [(.ag (.proj V7 1)),(.ag V2)]
(.rq (.tup 0 V8)
(.rq (.tup 1 V8)
(.call false 71 [(.proj V8 0),(.proj V8 1)]
(.rq (.cells 16 V9)
(.ef false f25 10 9 [(.cat (.ag (.proj V7 0)) 16 V9)]
(.ef false f25 10 10 [V5,V10]
(.next 1 [V11])))))))))))))
(.call false 73 [V5,(.k (.func (.func 74) #[] #[]))]
(.ret [V5])))))))))))))):=by kernel_rfl
theorem d2O:a0w prog [] [] [] [] 73=some (.pm f73 0 1 [V0]
(.ri V2
(.call false 122 [(.cv .u64 V2)]
(.call false 121 [V0,(.ki 0),V2,V3,V1]
(.ret []))))):=by kernel_rfl
theorem c6O:a0w prog [] [] [] [] 74=some (.rq (.cells 32 V0)
(.rq (.cells 32 V1)
(.call false 57 [(.sub V0 0 16 0 noI),(.sub V1 0 16 0 noI)]
(.rq (.tup 0 V2)
(.rq (.tup 1 V2)
(.call false 56 [(.proj V2 0),(.proj V2 1)]
(.ret [V3]))))))):=by kernel_rfl
theorem c1P:a0w prog [1] [] [] [] 5=some (.rq (.cells 12 V0)
(.pub 37 V0
(.ef false f5 1 0 [V1]
(.call false 18 [V2]
(.rq (.tup 0 V3)
(.rq (.tup 1 V3)
(.ret [(.proj V3 0),(.proj V3 1)]))))))):=by kernel_rfl
theorem b5m:a0w prog [] [] [⟨4,4,[],[]⟩] [⟨4,[0,0,0,0,12,0,60,124,124,508,1023],[5,5,5,5,1,2,2,0,0,2,4],[0,1,0,1,0,0,0,0,0,0,0],[0,1,2,3,4,5,6,7,8,9],[10]⟩] 19=some (.ef false f19 1 0 []
(.rq (.cells 1 V1)
(.pm f19 2 0 [V0]
(.call false 20 [V2]
(.call false 21 [V3]
(.rf V4 2 []
(.rq (.cells 16 V6)
(.pm f19 4 4 [(.cell V1 0 0 noI),(.ag V6)]
(.call true 24 [(.ki 1)]
(.call true 23 [V7,V8]
(.rq (.tup 0 V9)
(.rq (.tup 1 V9)
(.call true 22 [(.proj V9 0),(.proj V9 1)]
(.ef false f19 4 10 [(.cell V1 0 0 noI),(.ag V6),V10]
(.next 0 [])))))))))
(.call false 25 [(.cell V1 0 0 noI)]
(.ret [V5]))
(.dead 818))))))):=by kernel_rfl
theorem d2P:a0w prog [2,3] [] [] [⟨2,[0,1,0,4,0,3,47,127],[0,5,0,5,0,6,6,0],[0,2,0,2,0,0,1,0],[0,1,2,3,4],[5,6,7]⟩] 11=some (.rq (.cells 12 V0)
(.pub 37 V0
(.rq (.cells 1 V1)
(.pub 39 V1
(.ef false f11 1 0 [V2,V3]
(.call false 45 [V4]
(.rq (.tup 0 V5)
(.rq (.tup 1 V5)
(.rq (.cells 32 (.proj V5 0))
(.ret [(.sub (.proj V5 0) 0 16 0 noI),(.sub (.proj V5 0) 16 16 0 noI),(.proj V5 1)])))))))))):=by kernel_rfl
theorem c6P:a0w prog [] [] [] [⟨2,[0,1,3,7,15,0,32,96,224,0,1023,2047,2047,8191,16383,32767],[0,1,1,1,1,0,1,1,1,1,2,0,0,2,0,2],[0,0,0,0,0,0,0,0,0,0,0,0,0,0,0,0],[0,1,2,3,4,5,6,7,8,9,10,11,12,13,14,15],[]⟩] 46=some (.pm f46 1 0 [V0]
(.call false 20 [V2]
(.pm f46 2 1 [V3]
(.pm f46 2 2 [V4]
(.pm f46 2 3 [V5]
(.pm f46 2 4 [V6]
(.pm f46 2 6 [V3]
(.pm f46 2 7 [V8]
(.pm f46 2 8 [V9]
(.pm f46 2 9 [V1]
(.call true 49 [V7,V10,V11]
(.rq (.tup 0 V12)
(.rq (.tup 1 V12)
(.call true 48 [(.proj V12 0),(.proj V12 1)]
(.rq (.bool V13)
(.call true 47 [(.nt V13),(.ki 8)]
(.pm f46 3 0 [V0]
(.call false 5 [V15]
(.rq (.tup 0 V16)
(.rq (.tup 1 V16)
(.call false 50 [(.proj V16 0),(.proj V16 1)]
(.pm f46 4 2 [V1]
(.call false 51 [V3,V18]
(.call false 10 [V17,V19]
(.rq (.tup 0 V20)
(.rq (.tup 1 V20)
(.rq (.tup 2 V20)
(.rq (.cells 16 (.proj V20 0))
(.rq (.cells 16 (.proj V20 1))
(.call false 52 [(.proj V20 2)]
(.ret [(.cat (.ag (.proj V20 0)) 16 (.ag (.proj V20 1)))]))))))))))))))))))))))))))))))):=by kernel_rfl
theorem d2Q:a0w prog [2,3] [] [] [⟨2,[0,1,0,4,0,3,47,127],[0,5,0,5,0,0,6,0],[0,1,0,1,0,0,0,0],[0,1,2,3,4,5],[6,7]⟩] 12=some (.rq (.cells 12 V0)
(.pub 37 V0
(.rq (.cells 1 V1)
(.pub 4 V1
(.ef false f12 1 0 [V3,V2]
(.call false 53 [V4]
(.rq (.tup 0 V5)
(.rq (.tup 1 V5)
(.rq (.cells 17 (.proj V5 0))
(.ret [(.cell (.proj V5 0) 0 0 noI),(.sub (.proj V5 0) 1 16 0 noI),(.proj V5 1)])))))))))):=by kernel_rfl
theorem c6Q:a0w prog [2] [] [⟨3,5,[20],[]⟩,⟨4,5,[],[]⟩] [] 54=some (.pub 140 (.z 140)
(.ef false f54 1 0 [V2,V0]
(.rq (.cells 1 V3)
(.pm f54 2 0 [V1]
(.call false 20 [V4]
(.call false 21 [V5]
(.rf V6 2 []
(.rq (.cells 16 V8)
(.join 1
(.pm f54 5 0 [V2]
(.pm f54 5 1 [V9]
(.pm f54 5 2 [V10]
(.ri V11
(.br (.io .eql V11 (.ki 0))
(.next 2 [(.k (.bool true))])
(.ef false f54 5 7 [(.cell V3 0 0 noI),(.ag V8)]
(.next 2 [V12])))))))
(.rq (.bool V9)
(.br V9
(.rq (.cells 1 V7)
(.ef false f54 6 3 [V2,(.put (.cat V7 1 (.z 61)) 1 16 (.ag V8) 0 noI)]
(.next 0 [])))
(.next 0 [])))))
(.pm f54 7 0 [V2]
(.ef false f54 7 1 [V2,V7]
(.prim 999999 2 (ldO 140 2) [V2]
(.ret [V9]))))
(.dead 818)))))))):=by kernel_rfl
theorem a6b:(ldO 140 2).op= .load 140 (.tmp 2):=rfl
theorem c6R:a0w prog [] [] [] [] 55=some (.rq (.cells 16 V0)
(.pm f55 1 1 [V1]
(.pm f55 1 2 [V3]
(.call false 57 [(.ag V0),V4]
(.rq (.tup 0 V5)
(.rq (.tup 1 V5)
(.call false 56 [(.proj V5 0),(.proj V5 1)]
(.pm f55 2 0 [V2]
(.rq (.bool V7)
(.br V7
(.ri V6
(.br (.io .gtr V6 (.ki 0))
(.ret [(.k (.bool true))])
(.pm f55 2 6 [V2]
(.rq (.bool V8)
(.br (.nt V8)
(.ret [(.io .lss V6 (.ki 0))])
(.ret [(.k (.bool false))]))))))
(.pm f55 2 6 [V2]
(.rq (.bool V8)
(.br (.nt V8)
(.ri V6
(.ret [(.io .lss V6 (.ki 0))]))
(.ret [(.k (.bool false))])))))))))))))):=by kernel_rfl
end Go.Proofs.YtlmgkkjgdapnpaaGreatDoor

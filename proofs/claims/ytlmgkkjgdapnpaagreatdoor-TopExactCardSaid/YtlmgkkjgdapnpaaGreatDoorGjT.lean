/- MADE BY rxgen.py (mkGT.py): trees of chapter 32. -/
import Derived.Test.YtlmgkkjgdapnpaaGreatDoorProg
import Derived.Test.YtlmgkkjgdapnpaaGreatDoorRxW
namespace Go.Proofs.YtlmgkkjgdapnpaaGreatDoor
open Go.Proofs.Tryz
open Go.RowKit Go.RX
set_option maxRecDepth 100000
theorem d1m:a0w prog [] [] [] [] 89=some (.ri V1
(.br (.io .neq V1 (.ki 0))
(.rq (.cells 1 V1)
(.pm f89 2 2 [(.ag V1)]
(.ef false f89 2 3 [V2]
(.ret [V0]))))
(.ret [V0]))):=by kernel_rfl
theorem d1n:a0w prog [] [] [] [] 194=some (.rq (.cells 16 V0)
(.ri V1
(.br (.io .neq V1 (.ki 0))
(.rq (.cells 1 V1)
(.pm f194 2 2 [(.ag V1)]
(.ef false f194 2 3 [V2]
(.ret [(.ag V0)]))))
(.ret [(.ag V0)])))):=by kernel_rfl
theorem d1o:a0w prog [] [] [] [] 197=some (.ri V1
(.br (.io .neq V1 (.ki 0))
(.rq (.cells 1 V1)
(.pm f197 2 2 [(.ag V1)]
(.ef false f197 2 3 [V2]
(.ret [V0]))))
(.ret [V0]))):=by kernel_rfl
theorem d1p:a0w prog [] [] [] [] 199=some (.rq (.cells 2 V0)
(.ri V1
(.br (.io .neq V1 (.ki 0))
(.rq (.cells 1 V1)
(.pm f199 2 2 [(.ag V1)]
(.ef false f199 2 3 [V2]
(.ret [(.ag V0)]))))
(.ret [(.ag V0)])))):=by kernel_rfl
theorem d1q:a0w prog [] [] [] [] 87=some (.rq (.bool V0)
(.br V0
(.call false 86 [V1]
(.ret []))
(.ret []))):=by kernel_rfl
theorem d1r:a0w prog [] [] [] [] 86=some (.ri V0
(.br (.io .neq V0 (.ki 0))
(.rq (.cells 1 V0)
(.pm f86 1 2 [(.ag V0)]
(.ef false f86 1 3 [V1]
(.ret []))))
(.ret []))):=by kernel_rfl
theorem d1s:a0w prog [53] [] [⟨2,27,[9],[]⟩,⟨0,5,[],[]⟩] [⟨12,[0,0,0,0,0,0,0,112,240,240,1008,2047,4095,8191],[5,5,0,0,5,0,0,2,0,0,2,0,3,0],[0,1,0,0,1,0,0,0,0,0,0,0,0,0],[0,1,2,3,4,5,6,7,8,9,10,11,12,13],[]⟩] 33=some (.rq (.cells 2 V0)
(.rq (.cells 4 V1)
(.call false 65 [(.ag V0)]
(.call false 86 [V4]
(.call false 26 [(.ag V1)]
(.call false 86 [V6]
(.pm f33 4 2 [(.cell V1 3 0 noI)]
(.loop [(.ki 0),(.ki 0)]
(.ri V10
(.ri V8
(.br (.io .lss V10 V8)
(.pm f33 6 0 [(.cell V1 3 0 noI),V10]
(.pm f33 6 1 [V11]
(.rq (.cells 6 V12)
(.rq (.bool (.cell V12 5 0 noI))
(.join 1
(.br (.nt (.cell V12 5 0 noI))
(.ri V9
(.next 1 [(.io .add V9 (.ki 1))]))
(.next 1 [V9]))
(.next 0 [V13,(.io .add V10 (.ki 1))]))))))
(.ri V9
(.rq (.int .i64 (.cell V0 0 0 noI))
(.call false 87 [(.io .neq V9 (.cell V0 0 0 noI)),(.ki 5)]
(.call false 88 [(.ag V0),V2,V3]
(.call false 86 [V12]
(.call true 90 [(.ag V1),V2,V3]
(.rq (.tup 0 V14)
(.rq (.tup 1 V14)
(.call true 89 [(.proj V14 0),(.proj V14 1)]
(.rq (.cells 1 V2)
(.rq (.cells 1 V3)
(.rq (.cells 1 V15)
(.rq (.cells 9 (.cat (.ag V0) 2 (.cat (.ag V1) 4 (.cat (.sub (.put (.cat V2 1 (.cat (.z 3) 1 (.z 38))) 1 1 V3 0 noI) 0 2 0 noI) 2 V15))))
(.pub 190 (.cat (.ag V0) 2 (.cat (.ag V1) 4 (.cat (.sub (.put (.cat V2 1 (.cat (.z 3) 1 (.z 38))) 1 1 V3 0 noI) 0 2 0 noI) 2 V15)))
(.ret [V16])))))))))))))))))))))))))):=by kernel_rfl
theorem d1t:a0w prog [] [] [⟨0,3,[],[]⟩] [⟨5,[0,0,3,7,0,0,32,96,224,480,0,2016,4064,8176,16383,32767,65535],[0,0,1,1,0,0,1,1,1,1,0,1,1,2,0,1,8],[0,0,0,0,0,0,0,0,0,0,0,0,0,0,0,0,0],[0,1,2,3,4,5,6,7,8,9,10,11,12,13,14,15],[16]⟩] 201=some (.pm f201 1 1 [V0]
(.pm f201 1 2 [V2]
(.pm f201 1 3 [V3]
(.ef false f201 1 4 [V4,V4]
(.pm f201 2 1 [V0]
(.pm f201 2 2 [V6]
(.pm f201 2 3 [V7]
(.pm f201 2 4 [V8]
(.loop [(.ki 0)]
(.ri V10
(.ri V9
(.br (.io .lss V10 V9)
(.pm f201 4 1 [V8,V10]
(.pm f201 4 2 [V11]
(.pm f201 5 2 [V5,V12]
(.pm f201 5 3 [V13]
(.pm f201 5 6 [V0]
(.pm f201 5 7 [V15]
(.pm f201 5 8 [V16]
(.pm f201 5 9 [V17]
(.pm f201 5 11 [V18,V10]
(.pm f201 5 12 [V19]
(.ef true f201 5 13 [V1,V20]
(.ri V14
(.ri V21
(.pm f201 5 15 [V5,V12]
(.ef false f201 5 16 [V22,(.io .add V14 V21)]
(.next 0 [(.io .add V10 (.ki 1))]))))))))))))))))
(.ret [V5]))))))))))))):=by kernel_rfl
theorem d1u:a0w prog [] [] [⟨0,2,[],[]⟩] [] 203=some (.pm f203 1 1 [V0]
(.pm f203 1 2 [V2]
(.pm f203 1 3 [V3]
(.loop [(.k (.slice none 0 0)),(.ki 0)]
(.ri V6
(.ri V4
(.br (.io .lss V6 V4)
(.ef false f203 4 2 [V1,V6]
(.rq (.bool V7)
(.br V7
(.ef false f203 5 2 [V6]
(.ef false f203 5 3 [V5,V8]
(.next 0 [V9,(.io .add V6 (.ki 1))])))
(.next 0 [V5,(.io .add V6 (.ki 1))]))))
(.ret [V5])))))))):=by kernel_rfl
theorem d1v:a0w prog [] [] [] [] 196=some (.call false 240 [V0,(.ki 1)]
(.rq (.tup 0 V1)
(.rq (.tup 1 V1)
(.call false 194 [(.proj V1 0),(.proj V1 1)]
(.rq (.cells 16 V2)
(.ret [(.ag V2)])))))):=by kernel_rfl
theorem d1w:a0w prog [] [] [] [⟨1,[0,1,3,7,0,16,48,112,0,256,768,1792,4095,8191,8191,32767,65535],[0,1,1,1,0,1,1,1,0,1,1,1,2,0,0,2,6],[0,0,0,0,0,0,0,0,0,0,0,0,0,0,0,0,1],[0,1,2,3,4,5,6,7,8,9,10,11,12,13,14,15],[16]⟩] 134=some (.rq (.cells 2 V1)
(.pm f134 1 1 [V0]
(.pm f134 1 2 [V2]
(.pm f134 1 3 [V3]
(.pm f134 1 5 [V0]
(.pm f134 1 6 [V5]
(.pm f134 1 7 [V6]
(.pm f134 1 9 [V0]
(.pm f134 1 10 [V8]
(.pm f134 1 11 [V9]
(.call true 195 [V4,V7,V10]
(.rq (.tup 0 V11)
(.rq (.tup 1 V11)
(.call true 194 [(.proj V11 0),(.proj V11 1)]
(.rq (.cells 16 V12)
(.ret [(.ag V12)])))))))))))))))):=by kernel_rfl
theorem d1x:a0w prog [] [] [⟨0,3,[],[]⟩] [] 135=some (.rq (.cells 2 V1)
(.pm f135 1 1 [V0]
(.pm f135 1 2 [V2]
(.pm f135 1 3 [V3]
(.pm f135 1 4 [V4,(.ki 0)]
(.pm f135 1 5 [V5]
(.pm f135 2 1 [V0]
(.pm f135 2 2 [V7]
(.pm f135 2 3 [V8]
(.pm f135 2 4 [V9]
(.loop [V6,(.ki 0)]
(.ri V12
(.ri V10
(.br (.io .lss V12 V10)
(.pm f135 4 0 [V9,V12]
(.pm f135 4 1 [V13]
(.pm f135 5 2 [V11,V14]
(.next 0 [V15,(.io .add V12 (.ki 1))]))))
(.call false 196 [V11]
(.rq (.cells 16 V13)
(.ret [(.ag V13)]))))))))))))))))):=by kernel_rfl
theorem d1y:a0w prog [] [] [] [⟨1,[0,1,3,7,0,16,48,112,0,256,768,1792,4095,8191,8191,32767,65535,131071],[0,1,1,1,0,1,1,1,0,1,1,1,2,0,0,2,2,6],[0,0,0,0,0,0,0,0,0,0,0,0,0,0,0,0,0,1],[0,1,2,3,4,5,6,7,8,9,10,11,12,13,14,15,16],[17]⟩] 136=some (.rq (.cells 2 V1)
(.pm f136 1 1 [V0]
(.pm f136 1 2 [V2]
(.pm f136 1 3 [V3]
(.pm f136 1 5 [V0]
(.pm f136 1 6 [V5]
(.pm f136 1 7 [V6]
(.pm f136 1 9 [V0]
(.pm f136 1 10 [V8]
(.pm f136 1 11 [V9]
(.call true 198 [V4,V7,V10]
(.rq (.tup 0 V11)
(.rq (.tup 1 V11)
(.call true 197 [(.proj V11 0),(.proj V11 1)]
(.call true 196 [V12]
(.rq (.cells 16 V13)
(.ret [(.ag V13)]))))))))))))))))):=by kernel_rfl
theorem d1z:a0w prog [] [] [⟨0,3,[],[]⟩] [] 137=some (.rq (.cells 2 V1)
(.pm f137 1 1 [V0]
(.pm f137 1 2 [V2]
(.pm f137 1 3 [V3]
(.pm f137 1 4 [V4,(.ki 0)]
(.pm f137 1 5 [V5]
(.pm f137 2 1 [V0]
(.pm f137 2 2 [V7]
(.pm f137 2 3 [V8]
(.pm f137 2 4 [V9]
(.loop [V6,(.ki 0)]
(.ri V12
(.ri V10
(.br (.io .lss V12 V10)
(.pm f137 4 0 [V9,V12]
(.pm f137 4 1 [V13]
(.pm f137 5 2 [V11,V14]
(.next 0 [V15,(.io .add V12 (.ki 1))]))))
(.call false 196 [V11]
(.rq (.cells 16 V13)
(.ret [(.ag V13)]))))))))))))))))):=by kernel_rfl
theorem d1A:a0w prog [] [] [] [⟨1,[0,1,3,7,0,16,48,112,0,256,768,1792,0,4096,16383,32767,32767,131071,262143,524287,1048575],[0,1,1,1,0,1,1,1,0,1,1,1,0,5,2,0,0,2,0,2,6],[0,0,0,0,0,0,0,0,0,0,0,0,0,0,0,0,0,0,0,0,1],[0,1,2,3,4,5,6,7,8,9,10,11,12,13,14,15,16,17,18,19],[20]⟩] 138=some (.rq (.cells 2 V1)
(.pm f138 1 1 [V0]
(.pm f138 1 2 [V2]
(.pm f138 1 3 [V3]
(.pm f138 1 5 [V0]
(.pm f138 1 6 [V5]
(.pm f138 1 7 [V6]
(.pm f138 1 9 [V0]
(.pm f138 1 10 [V8]
(.pm f138 1 11 [V9]
(.call true 200 [V4,V7,V10,(.cell V1 0 0 noI)]
(.rq (.tup 0 V11)
(.rq (.tup 1 V11)
(.call true 199 [(.proj V11 0),(.proj V11 1)]
(.rq (.agg 2 V12)
(.call true 196 [(.cell V12 0 0 noI)]
(.rq (.cells 16 V13)
(.ret [(.ag V13)])))))))))))))))))):=by kernel_rfl
theorem d1B:a0w prog [] [] [] [⟨1,[0,1,3,7,0,16,48,112,0,256,768,1792,0,4096,16383,32767,32767,131071,262143,524287,1048575],[0,1,1,1,0,1,1,1,0,1,1,1,0,5,2,0,0,2,0,2,6],[0,0,0,0,0,0,0,0,0,0,0,0,0,0,0,0,0,0,0,0,1],[0,1,2,3,4,5,6,7,8,9,10,11,12,13,14,15,16,17,18,19],[20]⟩] 139=some (.rq (.cells 2 V1)
(.pm f139 1 1 [V0]
(.pm f139 1 2 [V2]
(.pm f139 1 3 [V3]
(.pm f139 1 5 [V0]
(.pm f139 1 6 [V5]
(.pm f139 1 7 [V6]
(.pm f139 1 9 [V0]
(.pm f139 1 10 [V8]
(.pm f139 1 11 [V9]
(.call true 200 [V4,V7,V10,(.cell V1 0 0 noI)]
(.rq (.tup 0 V11)
(.rq (.tup 1 V11)
(.call true 199 [(.proj V11 0),(.proj V11 1)]
(.rq (.agg 2 V12)
(.call true 196 [(.cell V12 1 0 noI)]
(.rq (.cells 16 V13)
(.ret [(.ag V13)])))))))))))))))))):=by kernel_rfl
theorem d1C:a0w prog [2,3,5] [] [] [⟨1,[0,1,3,7,15,31,15,79,207,463,975,2047,4095,8191],[1,1,0,0,1,1,1,1,1,1,1,0,0,2],[0,0,0,0,0,0,0,0,0,0,0,0,0,0],[0,1,2,3,4,5,6,7,8,9,10,11,12,13],[]⟩] 140=some (.rq (.cells 1 V0)
(.pub 99 V0
(.rq (.cells 2 V1)
(.pub 103 V1
(.pm f140 1 0 [V3]
(.pm f140 1 1 [V4]
(.ri V5
(.br (.io .lss V5 (.ki 0))
(.call true 87 [(.k (.bool true)),(.ki 2)]
(.pm f140 2 0 [V2]
(.ef false f140 2 1 [V3]
(.call false 201 [V7,V8]
(.pub 38 (.z 38)
(.ef false f140 2 4 [V10,V9]
(.pm f140 3 0 [V2]
(.ef false f140 3 1 [V10,V2]
(.call false 203 [V12,V13]
(.pm f140 3 3 [V14]
(.call false 196 [V15]
(.rq (.cells 16 V16)
(.ret [(.ag V16)])))))))))))))
(.pm f140 1 4 [V3]
(.pm f140 1 5 [V6]
(.pm f140 1 6 [V2]
(.pm f140 1 7 [V8]
(.pm f140 1 8 [V9]
(.pm f140 1 9 [V10]
(.pm f140 1 10 [V11]
(.ri V7
(.ri V12
(.call true 87 [(.io .geq V7 V12),(.ki 2)]
(.pm f140 2 0 [V2]
(.ef false f140 2 1 [V3]
(.call false 201 [V14,V15]
(.pub 38 (.z 38)
(.ef false f140 2 4 [V17,V16]
(.pm f140 3 0 [V2]
(.ef false f140 3 1 [V17,V2]
(.call false 203 [V19,V20]
(.pm f140 3 3 [V21]
(.call false 196 [V22]
(.rq (.cells 16 V23)
(.ret [(.ag V23)])))))))))))))))))))))))))))))):=by kernel_rfl
theorem c6d:a0w prog [] [] [] [] 202=some (.rq (.cells 6 V0)
(.pm f202 1 2 [V1]
(.pm f202 1 3 [V2]
(.pm f202 1 4 [(.cell V0 2 0 noI),V3]
(.pm f202 1 5 [V4]
(.ret [V5])))))):=by kernel_rfl
theorem c6e:a0w prog [] [] [] [⟨1,[0,0,3,7,15,0,32,96,224,0,992,2016,4095,8191],[1,0,1,1,0,1,1,1,1,0,1,1,0,0],[0,0,0,0,0,0,0,0,0,0,0,0,0,0],[0,1,2,3,4,5,6,7,8,9,10,11,12,13],[]⟩] 204=some (.pm f204 1 0 [V1]
(.pm f204 1 2 [V3,V0]
(.pm f204 1 3 [V4]
(.ri V5
(.pm f204 1 5 [V2]
(.pm f204 1 6 [V6]
(.pm f204 1 7 [V7]
(.pm f204 1 8 [V8]
(.pm f204 1 10 [V9,V0]
(.pm f204 1 11 [V10]
(.ri V11
(.ret [(.io .gtr (.io .mul (.ki 2) V5) V11)])))))))))))):=by kernel_rfl
theorem d1D:a0w prog [3,5,6,999998] [] [⟨0,4,[],[]⟩] [⟨1,[0,1,3,7,15,31,15,79,207,463,975,2047,4095,8191],[7,7,0,0,7,7,0,7,7,7,7,0,0,8],[0,0,0,0,0,0,0,0,0,0,0,0,0,0],[],[0,1,2,3,4,5,6,7,8,9,10,11,12,13]⟩,⟨6,[0,0,0,6,14,31,63],[1,0,2,2,2,8,8],[0,0,0,0,0,0,0],[0,1,2,3,4],[5,6]⟩] 141=some (.rq (.cells 2 V1)
(.pub 103 V1
(.pm f141 1 0 [V2]
(.pm f141 1 1 [V3]
(.ri V4
(.br (.io .lss V4 (.ki 0))
(.call false 87 [(.k (.bool true)),(.ki 2)]
(.pub 300 (.z 300)
(.pm f141 3 1 [V0]
(.pm f141 3 2 [V7]
(.pm f141 3 3 [V8]
(.pm f141 3 4 [V9]
(.loop [(.ki 0)]
(.ri V11
(.ri V10
(.br (.io .lss V11 V10)
(.pub 3 (.z 3)
(.ef false f141 5 2 [V12,V11]
(.pm f141 6 0 [V6]
(.ef true f141 6 2 [V12]
(.call true 201 [V0,V15]
(.ef true f141 6 4 [V16]
(.ef false f141 6 5 [V14,V17]
(.ef false f141 6 6 [V6,V18]
(.next 0 [(.io .add V11 (.ki 1))])))))))))
(.ef false f141 8 1 [V6,V2]
(.call false 203 [V0,V12]
(.pm f141 8 3 [V13]
(.call false 196 [V14]
(.rq (.cells 16 V15)
(.ret [(.ag V15)]))))))))))))))))
(.pm f141 1 4 [V2]
(.pm f141 1 5 [V5]
(.pm f141 1 7 [V0]
(.pm f141 1 8 [V7]
(.pm f141 1 9 [V8]
(.pm f141 1 10 [V9]
(.ri V6
(.ri V10
(.call false 87 [(.io .geq V6 V10),(.ki 2)]
(.pub 300 (.z 300)
(.pm f141 3 1 [V0]
(.pm f141 3 2 [V13]
(.pm f141 3 3 [V14]
(.pm f141 3 4 [V15]
(.loop [(.ki 0)]
(.ri V17
(.ri V16
(.br (.io .lss V17 V16)
(.pub 3 (.z 3)
(.ef false f141 5 2 [V18,V17]
(.pm f141 6 0 [V12]
(.ef true f141 6 2 [V18]
(.call true 201 [V0,V21]
(.ef true f141 6 4 [V22]
(.ef false f141 6 5 [V20,V23]
(.ef false f141 6 6 [V12,V24]
(.next 0 [(.io .add V17 (.ki 1))])))))))))
(.ef false f141 8 1 [V12,V2]
(.call false 203 [V0,V18]
(.pm f141 8 3 [V19]
(.call false 196 [V20]
(.rq (.cells 16 V21)
(.ret [(.ag V21)])))))))))))))))))))))))))))))):=by kernel_rfl
theorem c6f:a0w prog [] [] [] [] 205=some (.rq (.cells 6 V0)
(.pm f205 1 2 [V1]
(.pm f205 1 3 [(.cell V0 3 0 noI),V2]
(.pm f205 1 4 [V3]
(.ret [V4]))))):=by kernel_rfl
theorem c6g:a0w prog [] [] [⟨0,2,[],[]⟩] [⟨4,[0,0,2,7,15,31,31,127,255,31,31,1055,3615,7711,31,32287,65055,131071,262143],[0,1,1,0,0,0,0,1,1,1,1,1,1,1,0,1,1,0,0],[0,0,0,0,0,0,0,0,0,0,0,0,0,0,0,0,0,0,0],[0,1,2,3,4,5,6,7,8,9,10,11,12,13,14,15,16,17,18],[]⟩] 206=some (.pm f206 1 0 [V1]
(.pm f206 1 1 [V3]
(.loop [(.k (.bool false)),(.ki 0)]
(.ri V6
(.ri V4
(.br (.io .lss V6 V4)
(.pm f206 3 1 [V3,V6]
(.pm f206 3 2 [V7]
(.pm f206 4 1 [V2]
(.pm f206 4 2 [V9]
(.ri V10
(.br (.io .neq V6 V10)
(.pm f206 4 7 [V8,V0]
(.pm f206 4 8 [V11]
(.pm f206 4 9 [V1]
(.pm f206 4 10 [V2]
(.pm f206 4 11 [V14]
(.pm f206 4 12 [V13,V15]
(.pm f206 4 13 [V16]
(.pm f206 4 15 [V17,V0]
(.pm f206 4 16 [V18]
(.ri V12
(.ri V19
(.br (.io .geq V12 V19)
(.ret [(.k (.bool false))])
(.next 0 [V5,(.io .add V6 (.ki 1))])))))))))))))
(.next 0 [V5,(.io .add V6 (.ki 1))])))))))
(.ret [(.k (.bool true))]))))))):=by kernel_rfl
theorem d1E:a0w prog [] [] [] [] 91=some (.ef false f91 1 1 [V0]
(.ef false f91 1 3 [V0]
(.ef false f91 1 5 [V0]
(.ef false f91 1 7 [V0]
(.ef false f91 1 9 [V0]
(.ef false f91 1 11 [V0]
(.ef false f91 1 13 [V0]
(.ef false f91 1 15 [V0]
(.rq (.cells 1 V1)
(.rq (.cells 1 V2)
(.rq (.cells 1 V3)
(.rq (.cells 1 V4)
(.rq (.cells 1 V5)
(.rq (.cells 1 V6)
(.rq (.cells 1 V7)
(.rq (.cells 1 V8)
(.ret [(.put (.put (.put (.put (.put (.put (.put (.put (.z 192) 1 1 V1 0 noI) 2 1 V2 0 noI) 3 1 V3 0 noI) 4 1 V4 0 noI) 5 1 V5 0 noI) 6 1 V6 0 noI) 7 1 V7 0 noI) 8 1 V8 0 noI)]))))))))))))))))):=by kernel_rfl
theorem d1F:a0w prog [] [] [] [⟨3,[0,1,3,0,15,31],[0,0,5,5,2,6],[0,0,2,0,0,1],[0,1,2,3,4],[5]⟩] 34=some (.rq (.cells 2 V2)
(.call false 91 [V0]
(.rq (.cells 9 V3)
(.ri V1
(.br (.io .lss V1 (.ki 1))
(.call false 87 [(.k (.bool true)),(.ki 2)]
(.rq (.num V1)
(.rq (.lt 9 V1)
(.ef true f34 3 4 [(.cell V3 0 1 V1),(.ag V2)]
(.rq (.cells 16 V5)
(.ret [(.ag V5)]))))))
(.call false 87 [(.io .geq V1 (.ki 9)),(.ki 2)]
(.rq (.num V1)
(.rq (.lt 9 V1)
(.ef true f34 3 4 [(.cell V3 0 1 V1),(.ag V2)]
(.rq (.cells 16 V5)
(.ret [(.ag V5)]))))))))))):=by kernel_rfl
theorem d1G:a0w prog [7,8,9,10,11,12,13] [] [] [] 8=some (.rq (.cells 2 V0)
(.pub 32 V0
(.rq (.cells 4 V1)
(.pub 35 V1
(.rq (.cells 1 V2)
(.pub 39 V2
(.rq (.cells 1 V3)
(.pub 3 V3
(.rq (.cells 1 V4)
(.pub 3 V4
(.rq (.cells 1 V5)
(.pub 3 V5
(.rq (.cells 1 V6)
(.pub 3 V6
(.ef false f8 1 0 [V7,V8,V9,V10,V11,V12,V13]
(.call false 31 [V14]
(.rq (.tup 0 V15)
(.rq (.tup 1 V15)
(.rq (.cells 16 (.proj V15 0))
(.ret [(.ag (.proj V15 0)),(.proj V15 1)])))))))))))))))))))):=by kernel_rfl
theorem c6h:a0w prog [] [] [] [⟨1,[0,0,0,0,15,0,0,0,192,511,1023],[1,1,1,1,2,1,1,1,0,2,6],[0,0,0,0,0,0,0,0,0,0,0],[0,1,2,3,5,6,7,8,4,9],[10]⟩] 32=some (.pm f32 1 0 [V0]
(.pm f32 1 1 [V1]
(.pm f32 1 2 [V2]
(.pm f32 1 3 [V3]
(.pm f32 1 5 [V4]
(.pm f32 1 6 [V5]
(.pm f32 1 7 [V6]
(.rq (.cells 1 V12)
(.rq (.cells 1 V13)
(.call true 33 [V7,V8,V9,V10]
(.call true 34 [V14,V11,(.put (.cat V12 1 (.z 3)) 1 1 V13 0 noI)]
(.rq (.cells 16 V15)
(.ret [(.ag V15)]))))))))))))):=by kernel_rfl
theorem d1H:a0w prog [] [] [] [] 235=some (.rq (.cells 16 V0)
(.ri V1
(.br (.io .neq V1 (.ki 0))
(.rq (.cells 1 V1)
(.pm f235 2 2 [(.ag V1)]
(.ef false f235 2 3 [V2]
(.ret [(.ag V0)]))))
(.ret [(.ag V0)])))):=by kernel_rfl
theorem d1I:a0w prog [] [] [] [] 190=some (.ri V0
(.br (.io .neq V0 (.ki 0))
(.rq (.cells 1 V0)
(.pm f190 1 2 [(.ag V0)]
(.ef false f190 1 3 [V1]
(.ret []))))
(.ret []))):=by kernel_rfl
theorem d1J:a0w prog [] [] [] [] 191=some (.rq (.bool V0)
(.br V0
(.call false 190 [V1]
(.ret []))
(.ret []))):=by kernel_rfl
theorem d4Z:a0w prog [] [] [] [] 237=some (.call false 240 [V0,V1]
(.rq (.tup 0 V2)
(.rq (.tup 1 V2)
(.call false 235 [(.proj V2 0),(.proj V2 1)]
(.rq (.cells 16 V3)
(.ret [(.ag V3)])))))):=by kernel_rfl
theorem d1K:a0w prog [] [] [] [] 132=some (.rq (.cells 4 V0)
(.call false 26 [(.ag V0)]
(.call false 190 [V2]
(.ri V1
(.br (.io .lss V1 (.ki 1))
(.call false 191 [(.k (.bool true)),(.ki 2)]
(.rq (.cells 1 V1)
(.ret [(.cat (.ag V0) 4 V1)])))
(.call false 191 [(.io .gtr V1 (.ki 8)),(.ki 2)]
(.rq (.cells 1 V1)
(.ret [(.cat (.ag V0) 4 V1)])))))))):=by kernel_rfl
theorem d1L:a0w prog [1] [] [] [] 193=some (.rq (.cells 5 V0)
(.pub 240 V0
(.ef false f193 1 0 [V1]
(.ret [V2])))):=by kernel_rfl
theorem c6i:a0w prog [] [] [⟨0,1,[],[]⟩] [] 231=some (.pm f231 0 0 [V1]
(.pm f231 0 1 [V2]
(.pm f231 0 2 [V3]
(.pm f231 0 3 [V4]
(.loop [(.ki 0)]
(.ri V6
(.ri V5
(.br (.io .lss V6 V5)
(.pm f231 2 1 [V4,V6]
(.pm f231 2 2 [V7]
(.rq (.cells 6 V8)
(.rq (.bool (.cell V8 5 0 noI))
(.br (.cell V8 5 0 noI)
(.ret [])
(.ef false f231 3 6 [V0,V6,(.ag V8)]
(.rq (.bool V9)
(.br (.nt V9)
(.ret [])
(.next 0 [(.io .add V6 (.ki 1))])))))))))
(.ret []))))))))):=by kernel_rfl
theorem d1M:a0w prog [] [] [⟨4,3,[],[1]⟩] [] 234=some (.rq (.cells 5 V0)
(.call false 193 [(.ag V0)]
(.rf V1 2 [(.z 3)]
(.rq (.cells 6 V3)
(.rq (.int .i64 (.cell V4 0 0 noI))
(.rq (.int .i64 (.cell V3 1 0 noI))
(.next 0 [(.io .add (.cell V4 0 0 noI) (.cell V3 1 0 noI))]))))
(.rq (.cells 1 (.cell V2 0 0 noI))
(.ret [(.cell (.cell V2 0 0 noI) 0 0 noI)]))
(.dead 818)))):=by kernel_rfl
theorem d1N:a0w prog [] [] [⟨4,3,[],[1]⟩,⟨0,7,[],[]⟩] [] 192=some (.rq (.cells 5 V0)
(.call false 193 [(.ag V0)]
(.rf V2 2 [(.ki 0)]
(.rq (.int .i64 (.cell V5 0 0 noI))
(.next 0 [(.io .add (.cell V5 0 0 noI) (.ki 1))]))
(.pm f192 4 1 [V1]
(.ri V4
(.rq (.int .i64 (.cell V3 0 0 noI))
(.call false 191 [(.io .neq V4 (.cell V3 0 0 noI)),(.ki 220)]
(.ef false f192 5 0 []
(.pm f192 6 1 [V1]
(.loop [(.ki 0)]
(.ri V8
(.ri V7
(.br (.io .lss V8 V7)
(.pm f192 8 0 [V1,V8]
(.pm f192 8 1 [V9]
(.ri V10
(.br (.io .lss V10 (.ki 0))
(.call false 191 [(.k (.bool true)),(.ki 220)]
(.ef false f192 10 2 [V6,V10,(.k (.bool true))]
(.next 0 [(.io .add V8 (.ki 1))])))
(.rq (.int .i64 (.cell V0 4 0 noI))
(.call false 191 [(.io .geq V10 (.cell V0 4 0 noI)),(.ki 220)]
(.ef false f192 10 2 [V6,V10,(.k (.bool true))]
(.next 0 [(.io .add V8 (.ki 1))]))))))))
(.pm f192 12 1 [V6]
(.ri V9
(.rq (.int .i64 (.cell V0 4 0 noI))
(.call false 191 [(.io .neq V9 (.cell V0 4 0 noI)),(.ki 220)]
(.ret [])))))))))))))))
(.dead 818)))):=by kernel_rfl
theorem d1O:a0w prog [] [] [⟨4,6,[],[]⟩] [⟨6,[0,0,0,6,14,31,63,0,128,511,1023,2047],[5,5,0,1,1,1,1,0,5,0,1,8],[2,1,0,0,0,0,0,0,3,0,0,0],[0,1,2,3,4,5,6,7,8,9,10],[11]⟩] 133=some (.rq (.cells 5 V0)
(.rq (.cells 1 V1)
(.call false 192 [(.ag V0),(.cell V1 0 0 noI)]
(.ef false f133 2 2 [(.cell V0 4 0 noI),(.cell V0 4 0 noI)]
(.rq (.cells 1 V3)
(.call false 193 [(.ag V0)]
(.rf V4 2 []
(.rq (.cells 6 V6)
(.pm f133 6 3 [(.cell V1 0 0 noI),V5]
(.pm f133 6 4 [V7]
(.pm f133 6 5 [(.cell V3 0 0 noI),V8]
(.pm f133 6 6 [V9]
(.ri V10
(.rq (.int .i64 (.cell V6 1 0 noI))
(.pm f133 6 10 [(.cell V3 0 0 noI),V8]
(.ef false f133 6 11 [V11,(.io .add V10 (.cell V6 1 0 noI))]
(.next 0 []))))))))))
(.ret [(.cell V3 0 0 noI)])
(.dead 818)))))))):=by kernel_rfl
theorem d1P:a0w prog [3,4,5] [] [] [] 90=some (.rq (.cells 4 V0)
(.pub 35 V0
(.rq (.cells 1 V1)
(.pub 39 V1
(.rq (.cells 1 V2)
(.pub 3 V2
(.ef false f90 1 0 [V3,V5,V4]
(.call false 130 [V6]
(.rq (.tup 0 V7)
(.rq (.tup 1 V7)
(.ret [(.proj V7 0),(.proj V7 1)]))))))))))):=by kernel_rfl
theorem c6j:a0w prog [] [] [] [⟨1,[0,0,3,0,15,31],[1,1,2,1,2,0],[0,0,0,0,0,0],[0,1,3,2,4,5],[]⟩] 131=some (.pm f131 1 0 [V0]
(.pm f131 1 1 [V1]
(.pm f131 1 3 [V2]
(.call true 132 [V3,V4]
(.call true 133 [V6,V5]
(.ret [V7])))))):=by kernel_rfl
theorem d1Q:a0w prog [3,4,5] [] [] [] 262=some (.rq (.cells 4 V0)
(.pub 35 V0
(.rq (.cells 1 V1)
(.pub 39 V1
(.rq (.cells 1 V2)
(.pub 3 V2
(.ef false f262 1 0 [V3,V5,V4]
(.call false 273 [V6]
(.rq (.tup 0 V7)
(.rq (.tup 1 V7)
(.ret [(.proj V7 1)]))))))))))):=by kernel_rfl
theorem c6k:a0w prog [] [] [] [⟨1,[0,0,3,0,15],[1,1,2,1,2],[0,0,0,0,0],[0,1,3,2,4],[]⟩] 274=some (.pm f274 1 0 [V0]
(.pm f274 1 1 [V1]
(.pm f274 1 3 [V2]
(.call true 132 [V3,V4]
(.call true 192 [V6,V5]
(.ret [(.k (.bool true))])))))):=by kernel_rfl
theorem d1R:a0w prog [3,4,5] [] [] [] 195=some (.rq (.cells 4 V0)
(.pub 35 V0
(.rq (.cells 1 V1)
(.pub 39 V1
(.rq (.cells 1 V2)
(.pub 3 V2
(.ef false f195 1 0 [V3,V5,V4]
(.call false 232 [V6]
(.rq (.tup 0 V7)
(.rq (.tup 1 V7)
(.rq (.cells 16 (.proj V7 0))
(.ret [(.ag (.proj V7 0)),(.proj V7 1)])))))))))))):=by kernel_rfl
theorem c6l:a0w prog [] [] [] [⟨2,[0,0,3,0,15,31,63],[5,1,2,5,2,0,0],[1,0,0,1,0,0,0],[0,1,3,2,4,5,6],[]⟩,⟨4,[0,1,3,0,15,0,32,96,0,511,1023,2047,0,0,16383,32767,65535,65535,262143,524287],[0,1,1,0,2,0,1,1,0,2,0,2,0,1,2,2,0,0,2,6],[0,0,0,0,0,0,0,0,0,0,0,0,0,0,0,0,0,0,0,0],[0,1,2,3,5,6,7,8,12,13,4,9,10,11,14,15,16,17,18],[19]⟩] 233=some (.pm f233 1 0 [V0]
(.pm f233 1 1 [V1]
(.call false 132 [V3,V4]
(.rq (.cells 5 V5)
(.pm f233 2 1 [V2]
(.call true 133 [(.ag V5),V6]
(.call true 234 [(.ag V5)]
(.ri V8
(.call false 191 [(.io .eql V8 (.ki 0)),(.ki 7)]
(.pm f233 4 1 [V7,(.ki 0)]
(.pm f233 4 2 [V10]
(.pm f233 4 6 [V7,(.ki 0)]
(.pm f233 4 7 [V12]
(.pm f233 4 13 [V1]
(.call true 238 [V11,V7]
(.call true 239 [V13,V7]
(.ri V15
(.ri V16
(.call true 237 [(.io .sub V15 V16),(.ki 1)]
(.call true 237 [V8,V14]
(.call true 236 [V17,V18]
(.rq (.tup 0 V19)
(.rq (.tup 1 V19)
(.call true 235 [(.proj V19 0),(.proj V19 1)]
(.rq (.cells 16 V20)
(.ret [(.ag V20)])))))))))))))))))))))))))):=by kernel_rfl
theorem d1S:a0w prog [] [] [⟨0,2,[],[]⟩] [] 239=some (.pm f239 1 1 [V1]
(.loop [V0,(.ki 0)]
(.ri V4
(.ri V2
(.br (.io .lss V4 V2)
(.pm f239 3 0 [V1,V4]
(.pm f239 3 1 [V5]
(.pm f239 4 2 [V3,V6]
(.next 0 [V7,(.io .add V4 (.ki 1))]))))
(.ret [V3])))))):=by kernel_rfl
theorem d1T:a0w prog [] [] [⟨0,2,[],[]⟩] [] 238=some (.pm f238 1 1 [V1]
(.loop [V0,(.ki 0)]
(.ri V4
(.ri V2
(.br (.io .lss V4 V2)
(.pm f238 3 0 [V1,V4]
(.pm f238 3 1 [V5]
(.pm f238 4 2 [V3,V6]
(.next 0 [V7,(.io .add V4 (.ki 1))]))))
(.ret [V3])))))):=by kernel_rfl
theorem d1U:a0w prog [] [] [] [] 263=some (.rq (.cells 4 V0)
(.call false 26 [(.ag V0)]
(.ri V2
(.br (.io .neq V2 (.ki 0))
(.ret [(.cat (.z 35) 4 (.z 3)),V2])
(.ri V1
(.br (.io .lss V1 (.ki 0))
(.ret [(.cat (.z 35) 4 (.z 3)),(.ki 2)])
(.rq (.int .i64 (.cell V0 2 0 noI))
(.br (.io .geq V1 (.cell V0 2 0 noI))
(.ret [(.cat (.z 35) 4 (.z 3)),(.ki 2)])
(.rq (.cells 1 V1)
(.ret [(.cat (.ag V0) 4 V1),(.ki 0)])))))))))):=by kernel_rfl
theorem d1V:a0w prog [1] [] [] [] 275=some (.rq (.cells 5 V0)
(.pub 354 V0
(.ef false f275 1 0 [V1]
(.ret [V2])))):=by kernel_rfl
theorem c6m:a0w prog [] [] [⟨0,1,[],[]⟩] [] 282=some (.pm f282 0 0 [V1]
(.pm f282 0 1 [V2]
(.pm f282 0 2 [V3]
(.pm f282 0 3 [V4]
(.loop [(.ki 0)]
(.ri V6
(.ri V5
(.br (.io .lss V6 V5)
(.pm f282 2 1 [V4,V6]
(.pm f282 2 2 [V7]
(.rq (.cells 6 V8)
(.rq (.bool (.cell V8 5 0 noI))
(.br (.nt (.cell V8 5 0 noI))
(.pm f282 3 8 [V1]
(.pm f282 3 9 [V9]
(.pm f282 3 10 [(.cell V8 4 0 noI),V10]
(.pm f282 3 11 [V11]
(.ef false f282 3 12 [V0,V6,V12]
(.rq (.bool V13)
(.br (.nt V13)
(.ret [])
(.next 0 [(.io .add V6 (.ki 1))]))))))))
(.next 0 [(.io .add V6 (.ki 1))]))))))
(.ret []))))))))):=by kernel_rfl
theorem d1W:a0w prog [25] [] [⟨4,5,[],[]⟩,⟨0,15,[],[]⟩] [] 264=some (.rq (.cells 5 V0)
(.rq (.cells 1 V1)
(.ef false f264 1 0 []
(.rq (.cells 1 V2)
(.call false 275 [(.ag V0)]
(.rf V3 2 []
(.pm f264 5 2 [(.cell V2 0 0 noI),V5]
(.pm f264 6 1 [V6,(.k (.pointer none))]
(.rq (.bool V7)
(.br V7
(.rq (.cells 1 V5)
(.pub 332 (.cat V5 1 (.cat (.z 3) 1 (.z 5)))
(.ef false f264 8 3 [(.cell V2 0 0 noI),V5,V8]
(.pm f264 10 1 [(.cell V1 0 0 noI)]
(.ri V10
(.br (.io .gtr V10 (.ki 0))
(.pm f264 11 2 [(.cell V1 0 0 noI),V4]
(.pm f264 11 3 [V11]
(.pm f264 12 5 [(.cell V0 3 0 noI),V4]
(.pm f264 12 6 [V13]
(.pm f264 12 7 [V14]
(.call false 276 [V8,V15,V12]
(.next 0 [])))))))
(.pm f264 12 5 [(.cell V0 3 0 noI),V4]
(.pm f264 12 6 [V11]
(.pm f264 12 7 [V12]
(.call false 276 [V8,V13,(.ki 0)]
(.next 0 [])))))))))))
(.pm f264 10 1 [(.cell V1 0 0 noI)]
(.ri V8
(.br (.io .gtr V8 (.ki 0))
(.pm f264 11 2 [(.cell V1 0 0 noI),V4]
(.pm f264 11 3 [V9]
(.pm f264 12 5 [(.cell V0 3 0 noI),V4]
(.pm f264 12 6 [V11]
(.pm f264 12 7 [V12]
(.call false 276 [V6,V13,V10]
(.next 0 [])))))))
(.pm f264 12 5 [(.cell V0 3 0 noI),V4]
(.pm f264 12 6 [V9]
(.pm f264 12 7 [V10]
(.call false 276 [V6,V11,(.ki 0)]
(.next 0 []))))))))))))
(.ef false f264 14 1 [(.cell V2 0 0 noI)]
(.loop [(.k (.slice none 0 0))]
(.ef false f264 15 0 [V4]
(.rq (.tup 0 V6)
(.rq (.bool (.proj V6 0))
(.br (.proj V6 0)
(.ef false f264 16 0 [V4]
(.rq (.tup 1 V7)
(.pm f264 17 2 [(.proj V7 1)]
(.pm f264 17 3 [V8]
(.ef false f264 17 4 [V9]
(.ef false f264 17 5 [V5,V10]
(.next 0 [V11])))))))
(.call false 277 [V5,(.k (.func (.func 278) #[] #[]))]
(.ret [V5]))))))))
(.dead 818))))))):=by kernel_rfl
theorem c6n:a0w prog [] [] [] [] 278=some (.rq (.cells 3 V0)
(.rq (.cells 3 V1)
(.rq (.int .i64 (.cell V0 0 0 noI))
(.rq (.int .i64 (.cell V1 0 0 noI))
(.ret [(.io .sub (.cell V0 0 0 noI) (.cell V1 0 0 noI))]))))):=by kernel_rfl
theorem d1X:a0w prog [] [] [] [⟨1,[0,1,3,7,0,16,63,127,255,511],[0,1,1,1,0,0,0,1,1,8],[0,0,0,0,0,0,0,0,0,0],[0,1,2,3,4,5,6,7,8],[9]⟩] 276=some (.pm f276 0 1 [V0]
(.pm f276 0 2 [V3]
(.pm f276 0 3 [V4]
(.ri V5
(.ri V1
(.pm f276 0 6 [V0]
(.pm f276 0 7 [V6]
(.ef false f276 0 8 [V7,(.io .add V5 V1)]
(.pm f276 1 1 [V0]
(.pm f276 1 2 [V9]
(.pm f276 1 3 [V10]
(.rq (.num V2)
(.rq (.nn V2)
(.rq (.int .u8 V11)
(.pm f276 1 7 [V0]
(.pm f276 1 8 [V12]
(.ef false f276 1 9 [V13,(.op2 .or .u8 V11 (.op2 .shl .u8 (.k (.int .u8 (1))) V2))]
(.ret [])))))))))))))))))):=by kernel_rfl
theorem d1Y:a0w prog [] [] [] [] 243=some (.rq (.cells 3 V0)
(.call false 265 [(.cell V0 2 0 noI)]
(.ret [V1]))):=by kernel_rfl
theorem d1Z:a0w prog [] [] [⟨0,2,[],[]⟩] [] 244=some (.pm f244 1 1 [V0]
(.loop [(.k (.slice none 0 0)),(.ki 0)]
(.ri V5
(.ri V3
(.br (.io .lss V5 V3)
(.pm f244 3 0 [V0,V5]
(.pm f244 3 1 [V6]
(.rq (.cells 3 V7)
(.ef false f244 4 2 [V1,(.ag V7)]
(.rq (.bool V8)
(.br V8
(.ef false f244 5 3 [V2,(.ag V7)]
(.ef false f244 5 4 [V9]
(.ef false f244 5 5 [V4,V10]
(.next 0 [V11,(.io .add V5 (.ki 1))]))))
(.next 0 [V4,(.io .add V5 (.ki 1))])))))))
(.ret [V4])))))):=by kernel_rfl
theorem d2a:a0w prog [] [] [] [] 247=some (.rq (.cells 3 V0)
(.ret [(.k (.bool true))])):=by kernel_rfl
theorem d2b:a0w prog [] [] [] [] 245=some (.rq (.cells 3 V0)
(.ret [(.cell V0 0 0 noI)])):=by kernel_rfl
theorem d2c:a0w prog [] [] [] [] 241=some (.rq (.cells 4 V0)
(.call false 262 [(.ag V0),V1,V2]
(.ri V4
(.br (.io .neq V4 (.ki 0))
(.ret [(.k (.slice none 0 0)),V4])
(.call false 263 [(.ag V0),V3]
(.rq (.tup 0 V5)
(.rq (.tup 1 V5)
(.rq (.cells 5 (.proj V5 0))
(.rq (.int .i64 (.proj V5 1))
(.br (.io .neq (.proj V5 1) (.ki 0))
(.ret [(.k (.slice none 0 0)),(.proj V5 1)])
(.call false 264 [(.ag (.proj V5 0)),V1]
(.ret [V6,(.ki 0)])))))))))))):=by kernel_rfl
theorem d2d:a0w prog [] [] [] [] 200=some (.rq (.cells 4 V0)
(.call false 241 [(.ag V0),V1,V2,V3]
(.rq (.tup 0 V4)
(.rq (.tup 1 V4)
(.rq (.int .i64 (.proj V4 1))
(.br (.io .neq (.proj V4 1) (.ki 0))
(.ret [(.cat (.z 3) 1 (.z 3)),(.proj V4 1)])
(.call false 244 [(.proj V4 0),(.k (.func (.func 242) #[] #[])),(.k (.func (.func 245) #[] #[]))]
(.pm f200 5 3 [V5]
(.call false 244 [(.proj V4 0),(.k (.func (.func 247) #[] #[])),(.k (.func (.func 243) #[] #[]))]
(.call false 246 [V7]
(.rq (.cells 1 V6)
(.rq (.cells 1 V8)
(.ret [(.put (.cat V6 1 (.z 3)) 1 1 V8 0 noI),(.ki 0)]))))))))))))):=by kernel_rfl
theorem c6o:a0w prog [] [] [] [] 242=some (.rq (.cells 3 V0)
(.call false 243 [(.ag V0)]
(.ri V1
(.ret [(.io .gtr V1 (.ki 1))])))):=by kernel_rfl
theorem d2e:a0w prog [] [] [⟨0,2,[],[]⟩] [] 246=some (.pm f246 1 1 [V0]
(.loop [(.ki 0),(.ki 0)]
(.ri V3
(.ri V1
(.br (.io .lss V3 V1)
(.pm f246 3 0 [V0,V3]
(.pm f246 3 1 [V4]
(.ri V2
(.ri V5
(.next 0 [(.io .add V2 V5),(.io .add V3 (.ki 1))])))))
(.ret [V2])))))):=by kernel_rfl
theorem d5a:a0w prog [] [] [] [] 265=some (.pm f265 1 1 [(.k (.string ⟨#[0,1,1,2,1,2,2,3,1,2,2,3,2,3,3,4,1,2,2,3,2,3,3,4,2,3,3,4,3,4,4,5,1,2,2,3,2,3,3,4,2,3,3,4,3,4,4,5,2,3,3,4,3,4,4,5,3,4,4,5,4,5,5,6,1,2,2,3,2,3,3,4,2,3,3,4,3,4,4,5,2,3,3,4,3,4,4,5,3,4,4,5,4,5,5,6,2,3,3,4,3,4,4,5,3,4,4,5,4,5,5,6,3,4,4,5,4,5,5,6,4,5,5,6,5,6,6,7,1,2,2,3,2,3,3,4,2,3,3,4,3,4,4,5,2,3,3,4,3,4,4,5,3,4,4,5,4,5,5,6,2,3,3,4,3,4,4,5,3,4,4,5,4,5,5,6,3,4,4,5,4,5,5,6,4,5,5,6,5,6,6,7,2,3,3,4,3,4,4,5,3,4,4,5,4,5,5,6,3,4,4,5,4,5,5,6,4,5,5,6,5,6,6,7,3,4,4,5,4,5,5,6,4,5,5,6,5,6,6,7,4,5,5,6,5,6,6,7,5,6,6,7,6,7,7,8]⟩)),V0]
(.rq (.int .u8 V1)
(.ret [(.cv .i64 V1)]))):=by kernel_rfl
theorem d2f:a0w prog [] [] [⟨0,6,[],[]⟩] [⟨8,[0,1,3,7,0,16,63,127,0,256,768,1792,0,4096,16128,32512,65535],[0,1,1,1,0,5,1,1,0,1,1,1,0,5,1,1,0],[0,0,0,0,0,1,0,0,0,0,0,0,0,1,0,0,0],[0,1,2,3,4,5,6,7,8,9,10,11,12,13,14,15,16],[]⟩] 198=some (.rq (.cells 2 V0)
(.call false 129 [(.ag V0),V1,V2]
(.rq (.tup 0 V3)
(.rq (.tup 1 V3)
(.rq (.int .i64 (.proj V3 1))
(.br (.io .neq (.proj V3 1) (.ki 0))
(.ret [(.ki 0),(.proj V3 1)])
(.pm f198 5 1 [(.proj V3 0)]
(.pm f198 5 2 [V4]
(.pm f198 5 3 [V5]
(.pm f198 5 4 [V6]
(.pm f198 5 5 [V7]
(.loop [(.ki 0),(.ki 0)]
(.ri V10
(.ri V8
(.br (.io .lss V10 V8)
(.pm f198 7 0 [V7,V10]
(.pm f198 7 1 [V11]
(.rq (.cells 2 V12)
(.pm f198 8 1 [(.proj V3 0)]
(.pm f198 8 2 [V13]
(.pm f198 8 3 [V14]
(.pm f198 8 6 [V15,(.cell V12 0 0 noI)]
(.pm f198 8 7 [V16]
(.pm f198 8 9 [(.proj V3 0)]
(.pm f198 8 10 [V18]
(.pm f198 8 11 [V19]
(.pm f198 8 14 [V20,(.cell V12 1 0 noI)]
(.pm f198 8 15 [V21]
(.ri V17
(.ri V22
(.br (.io .neq V17 V22)
(.ri V9
(.next 0 [(.io .add V9 (.ki 1)),(.io .add V10 (.ki 1))]))
(.next 0 [V9,(.io .add V10 (.ki 1))])))))))))))))))))
(.ret [V9,(.ki 0)])))))))))))))))):=by kernel_rfl
end Go.Proofs.YtlmgkkjgdapnpaaGreatDoor

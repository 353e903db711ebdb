/- MADE BY rxgen.py (mkGT.py): trees of chapter 32. -/
import Derived.Test.YtlmgkkjgdapnpaaGreatDoorProg
import Derived.Test.YtlmgkkjgdapnpaaGreatDoorRxW
namespace Go.Proofs.YtlmgkkjgdapnpaaGreatDoor
open Go.Proofs.Tryz
open Go.RowKit Go.RX
set_option maxRecDepth 100000
theorem c2u:a0w prog [] [] [] [] 17=some (.rq (.cells 5 V0)
(.rq (.int .u8 (.cell V0 0 0 noI))
(.ret [(.io .add (.ki 1) (.cv .i64 (.op2 .rem .u8 (.cell V0 0 0 noI) (.k (.int .u8 (9))))))]))):=by kernel_rfl
theorem c2v:a0w prog [] [] [] [] 60=some (.rq (.cells 5 V0)
(.ri V1
(.pm f60 1 4 [(.cell V0 1 0 noI)]
(.ri V2
(.br (.io .lss (.io .sub V1 (.ki 1)) V2)
(.pm f60 2 4 [(.cell V0 1 0 noI),(.io .sub V1 (.ki 1))]
(.pm f60 2 5 [V3]
(.rq (.int .u8 V4)
(.rq (.nz V1)
(.ret [(.io .rem (.cv .i64 V4) V1)])))))
(.ret [(.io .sub V1 (.ki 1))])))))):=by kernel_rfl
theorem c2w:a0w prog [] [] [⟨3,4,[23],[]⟩,⟨3,7,[57],[]⟩,⟨0,4,[],[]⟩] [⟨6,[0,1,0,7,15,31,63,0,128,511,0,1024,0,7168,15360,31744,64512,0,131456,523648,394239,2097151],[0,5,0,1,1,1,0,5,2,0,0,5,0,1,1,1,0,5,2,0,0,0],[0,0,0,0,0,0,0,0,0,0,0,0,0,0,0,0,0,0,0,0,0,0],[0,1,2,3,4,5,6,7,10,11,12,13,14,15,16,17,8,9,18,19,20,21],[]⟩] 62=some (.rq (.cells 5 V0)
(.call false 60 [(.ag V0),V2]
(.ri V3
(.ri V1
(.br (.io .eql V3 V1)
(.ret [(.k (.bool true))])
(.loop [(.k (.bool false)),(.ki 0)]
(.join 1
(.pm f62 4 3 [(.cell V0 2 0 noI)]
(.ri V5
(.ri V6
(.br (.io .lss V5 V6)
(.next 1 [(.io .lss V5 (.ki 12))])
(.next 1 [(.k (.bool false))])))))
(.rq (.bool V6)
(.br V6
(.pm f62 6 3 [(.cell V0 2 0 noI),V5]
(.pm f62 6 4 [V7,(.ki 0)]
(.pm f62 6 5 [V8]
(.rq (.int .u8 V9)
(.pm f62 6 13 [(.cell V0 2 0 noI),V5]
(.pm f62 6 14 [V10,(.ki 1)]
(.pm f62 6 15 [V11]
(.rq (.int .u8 V12)
(.call true 17 [(.ag V0)]
(.ri V13
(.rq (.nz V13)
(.call true 17 [(.ag V0)]
(.ri V14
(.rq (.nz V14)
(.join 1
(.pm f62 7 2 [(.io .rem (.cv .i64 V9) V13),(.io .rem (.cv .i64 V12) V14)]
(.ri V15
(.br (.io .eql V15 V1)
(.pm f62 7 8 [(.io .rem (.cv .i64 V9) V13),(.io .rem (.cv .i64 V12) V14)]
(.ri V16
(.ri V2
(.next 1 [(.io .eql V16 V2)]))))
(.next 1 [(.k (.bool false))]))))
(.rq (.bool V15)
(.br V15
(.ret [(.k (.bool true))])
(.ri V5
(.next 0 [V4,(.io .add V5 (.ki 1))])))))))))))))))))))
(.ret [(.k (.bool false))])))))))))):=by kernel_rfl
theorem c2x:a0w prog [] [] [] [] 61=some (.rq (.cells 5 V0)
(.pm f61 1 3 [(.cell V0 3 0 noI)]
(.ri V1
(.ri V2
(.br (.io .lss V1 V2)
(.pm f61 2 3 [(.cell V0 3 0 noI),V1]
(.pm f61 2 4 [V3]
(.rq (.int .u8 V4)
(.ret [(.cv .i64 V4)]))))
(.ret [(.ki 0)])))))):=by kernel_rfl
theorem c2y:a0w prog [] [] [⟨0,3,[],[0,1,2]⟩,⟨0,6,[],[2]⟩] [] 15=some (.rq (.cells 5 V0)
(.call false 17 [(.ag V0)]
(.rq (.cells 1 V1)
(.loop [(.ki 0),V0,(.z 32),(.cat V1 1 (.z 30))]
(.ri V2
(.rq (.int .i64 (.cell V5 0 0 noI))
(.br (.io .lss V2 (.cell V5 0 0 noI))
(.loop [(.io .add V2 (.ki 1)),V5]
(.ri V6
(.rq (.int .i64 (.cell V7 0 0 noI))
(.br (.io .lss V6 (.cell V7 0 0 noI))
(.call false 62 [(.ag V3),V2,V6]
(.rq (.bool V8)
(.br V8
(.rq (.cells 1 V2)
(.rq (.cells 1 V6)
(.ef false f15 9 5 [(.put (.put (.z 150) 0 1 V2 0 noI) 1 1 V6 0 noI)]
(.ef false f15 9 6 [(.cell V7 1 0 noI),V9]
(.rq (.cells 1 V10)
(.next 1 [(.io .add V6 (.ki 1)),(.cat (.sub V7 0 1 0 noI) 1 V10)]))))))
(.next 1 [(.io .add V6 (.ki 1)),V7]))))
(.next 0 [(.io .add V2 (.ki 1)),V3,V4,V7])))))
(.ret [(.ag V5)])))))))):=by kernel_rfl
theorem c2z:a0w prog [] [] [⟨3,8,[36],[]⟩,⟨2,36,[8,5],[]⟩,⟨0,5,[],[]⟩] [] 14=some (.rq (.cells 5 V0)
(.ef false f14 1 0 [(.ki 0)]
(.rq (.int .u8 (.cell V0 4 0 noI))
(.loop [(.ki 1),V1,(.ki 1)]
(.call false 17 [(.ag V0)]
(.ri V4
(.ri V5
(.br (.io .lss V4 V5)
(.call false 60 [(.ag V0),V4]
(.pm f14 7 4 [V3,V6]
(.pm f14 7 5 [V7]
(.join 1
(.call false 61 [(.ag V0),V4]
(.ri V9
(.br (.io .eql (.io .rem V9 (.ki 2)) (.ki 1))
(.ri V2
(.next 1 [(.io .lss V2 (.io .add (.ki 1) (.cv .i64 (.op2 .rem .u8 (.cell V0 4 0 noI) (.k (.int .u8 (4)))))))]))
(.next 1 [(.k (.bool false))]))))
(.join 2
(.rq (.bool V9)
(.br V9
(.ri V2
(.next 1 [V2,(.io .add V2 (.ki 1))]))
(.next 1 [V8,V2])))
(.ef false f14 11 2 [V10]
(.ef false f14 11 3 [V3,V12]
(.next 0 [V11,V13,(.io .add V4 (.ki 1))]))))))))
(.ret [V3,V2]))))))))):=by kernel_rfl
theorem c2A:a0w prog [] [] [] [⟨3,[0,1,0,0,8,24,60,127,255,511,1023],[0,5,0,0,5,1,0,1,1,0,0],[0,0,0,0,0,0,0,0,0,0,0],[0,1,2,3,4,5,6,7,8,9,10],[]⟩] 112=some (.rq (.cells 5 V0)
(.pm f112 1 2 [(.cell V0 4 0 noI)]
(.ri V2
(.br (.io .eql V2 (.ki 0))
(.ret [(.ki 1)])
(.pm f112 3 5 [(.cell V0 4 0 noI)]
(.ri V1
(.ri V3
(.rq (.nz V3)
(.pm f112 3 7 [(.cell V0 4 0 noI),(.io .rem V1 V3)]
(.pm f112 3 8 [V4]
(.rq (.int .u8 V5)
(.ret [(.cv .i64 V5)])))))))))))):=by kernel_rfl
theorem c2B:a0w prog [] [] [⟨0,3,[],[]⟩] [] 113=some (.rq (.cells 5 V0)
(.loop [(.k (.slice none 0 0)),(.ki 0)]
(.ri V5
(.ri V1
(.br (.io .lss V5 V1)
(.ri V2
(.call false 112 [(.ag V0),(.io .add V2 V5)]
(.pm f113 5 7 [V6,V3]
(.ef false f113 5 8 [V7]
(.ef false f113 5 9 [V4,V8]
(.next 0 [V9,(.io .add V5 (.ki 1))]))))))
(.ret [V4])))))):=by kernel_rfl
theorem c2C:a0w prog [7,37,100,103,106,999996,999998] [] [⟨3,5,[7],[]⟩,⟨0,3,[],[0,1,2]⟩,⟨0,9,[],[]⟩,⟨0,14,[],[2]⟩] [⟨2000005,[],[],[],[9],[15]⟩,⟨5,[0,1,3,7,0,16,48,112,240,511,1023,2047,0,0,8192,29695,65535,0,262143],[0,0,0,0,0,0,0,0,0,3,1,1,5,0,0,2,0,3,8],[0,0,0,0,0,0,0,0,0,0,0,0,0,0,0,0,0,0,0],[0,1,2,3,4,5,6,7,8,12,13,14,9,10,11,15,16,17],[18]⟩,⟨1000005,[0,1,3,7,0,16,48,112,240,33279,33791,34815,0,0,8192,28672,65535,0,262143],[0,0,0,0,0,0,0,0,0,3,1,1,5,0,0,2,0,3,8],[0,0,0,0,0,0,0,0,0,0,0,0,0,0,0,0,0,0,0],[0,1,2,3,4,5,6,7,8,12,13,14,15,9,10,11,16,17],[18]⟩,⟨11,[0,1,0,0,8,24,0,120,252,508,1020,2047,4095,8191],[1,1,5,0,0,0,0,0,2,0,2,8,7,8],[0,0,0,0,0,0,0,0,0,0,0,0,0,0],[0,1,2,3,4,5,6,7,8,9,10],[11,12,13]⟩,⟨16,[0,1,0,4,12,0,32,96,0,256,768,2044,4092,8191,16383,32767],[0,5,0,5,3,0,5,3,0,5,3,0,8,8,0,6],[0,2,0,2,0,0,2,0,0,2,0,0,0,0,0,2],[0,1,2,3,5,6,8,9,4,7,10],[11,12,13,14,15]⟩] 63=some (.rq (.cells 5 V0)
(.rq (.int .u8 (.cell V0 0 0 noI))
(.rq (.int .u8 (.cell V0 1 0 noI))
(.rq (.int .u8 (.cell V0 2 0 noI))
(.loop [(.ki 0),V0,(.z 35),(.cat (.cv .i64 (.op2 .rem .u8 (.cell V0 0 0 noI) (.k (.int .u8 (3))))) 1 (.cat (.cv .i64 (.op2 .rem .u8 (.cell V0 1 0 noI) (.k (.int .u8 (4))))) 1 (.cat (.cv .i64 (.op2 .rem .u8 (.cell V0 2 0 noI) (.k (.int .u8 (3))))) 1 (.z 33))))]
(.ri V2
(.ri V1
(.br (.io .lss V2 V1)
(.join 1
(.both
(.mq f63 5 9 [(.cv .u8 (.io .add (.ki 97) (.io .rem V2 (.ki 26)))),(.cv .u8 (.io .add (.ki 97) (.io .rem (.io .quo V2 (.ki 26)) (.ki 26))))]
(.pm f63 5 10 [V6]
(.pm f63 5 11 [(.k (.string ⟨#[117]⟩)),V7]
(.call true 112 [(.ag V3),(.io .mul (.ki 9) V2)]
(.rq (.cells 1 V8)
(.rq (.cells 1 V9)
(.pub 52 (.z 52)
(.ef false f63 5 18 [V10,(.put (.cat V8 1 (.cat (.z 3) 1 (.cat (.z 38) 1 (.cat (.z 38) 1 (.cat (.z 38) 1 (.z 4)))))) 1 1 V9 0 noI)]
(.next 1 [V10])))))))))
(.call true 112 [(.ag V3),(.io .mul (.ki 9) V2)]
(.mq f63 5 9 [(.cv .u8 (.io .add (.ki 97) (.io .rem V2 (.ki 26)))),(.cv .u8 (.io .add (.ki 97) (.io .rem (.io .quo V2 (.ki 26)) (.ki 26))))]
(.pm f63 5 10 [V7]
(.pm f63 5 11 [(.k (.string ⟨#[117]⟩)),V8]
(.rq (.cells 1 V9)
(.rq (.cells 1 V6)
(.pub 52 (.z 52)
(.ef false f63 5 18 [V10,(.put (.cat V9 1 (.cat (.z 3) 1 (.cat (.z 38) 1 (.cat (.z 38) 1 (.cat (.z 38) 1 (.z 4)))))) 1 1 V6 0 noI)]
(.next 1 [V10]))))))))))
(.pm f63 6 6 [V6]
(.pm f63 6 7 [V7]
(.call false 113 [(.ag V3),(.cell V5 0 0 noI),(.io .add (.io .mul (.ki 9) V2) (.ki 1)),V8]
(.pm f63 6 9 [V6]
(.ef false f63 6 10 [V10,V9]
(.call false 113 [(.ag V3),(.cell V5 1 0 noI),(.io .add (.io .mul (.ki 9) V2) (.ki 3)),(.ki 255)]
(.pm f63 7 7 [V6]
(.ef false f63 7 8 [V13,V12]
(.loop [(.ki 0)]
(.ri V15
(.rq (.int .i64 (.cell V5 2 0 noI))
(.br (.io .lss V15 (.cell V5 2 0 noI))
(.pm f63 11 0 [V6]
(.pm f63 11 1 [V16]
(.call true 112 [(.ag V3),(.io .add (.io .add (.io .mul (.ki 9) V2) (.ki 7)) V15)]
(.ri V18
(.ef true f63 11 10 [(.io .rem V18 (.ki 3))]
(.ef false f63 11 11 [V17,V19]
(.pm f63 11 12 [V6]
(.ef false f63 11 13 [V21,V20]
(.next 1 [(.io .add V15 (.ki 1))])))))))))
(.pm f63 12 2 [V6]
(.ef false f63 12 3 [V16]
(.ef false f63 12 4 [(.cell V5 3 0 noI),V17]
(.rq (.cells 1 V18)
(.next 0 [(.io .add V2 (.ki 1)),V3,V4,(.cat (.sub V5 0 3 0 noI) 3 V18)]))))))))))))))))))
(.loop [(.ki 0),V5]
(.rq (.int .u8 (.cell V3 3 0 noI))
(.ri V6
(.br (.io .lss V6 (.cv .i64 (.op2 .rem .u8 (.cell V3 3 0 noI) (.k (.int .u8 (2))))))
(.mq f63 16 4 [(.cell V7 0 0 noI),(.cell V7 0 0 noI)]
(.mq f63 16 7 [(.cell V7 1 0 noI),(.cell V7 1 0 noI)]
(.mq f63 16 10 [(.cell V7 2 0 noI),(.cell V7 2 0 noI)]
(.rq (.cells 1 V8)
(.rq (.cells 1 V9)
(.rq (.cells 1 V10)
(.ef false f63 16 12 [(.cat (.k (.string ⟨#[115,101,97]⟩)) 1 (.cat (.z 3) 1 (.cat (.sub (.put (.cat V8 1 (.cat (.z 38) 1 (.cat (.z 38) 1 (.k (.bool true))))) 1 1 V9 0 noI) 0 2 0 noI) 2 (.cat V10 1 (.sub (.put (.cat V8 1 (.cat (.z 38) 1 (.cat (.z 38) 1 (.k (.bool true))))) 1 1 V9 0 noI) 3 1 0 noI)))))]
(.ef false f63 16 13 [(.cell V7 3 0 noI),V11]
(.rq (.cells 1 V12)
(.next 1 [(.io .add V6 (.ki 1)),(.cat (.sub V7 0 3 0 noI) 3 V12)]))))))))))
(.ret [(.ag V7)]))))))))))))):=by kernel_rfl
theorem c2D:a0w prog [] [] [] [] 16=some (.rq (.cells 5 V0)
(.call false 63 [(.cat (.k (.int .u8 (2))) 1 (.cat (.k (.int .u8 (3))) 1 (.cat (.k (.int .u8 (2))) 1 (.sub (.sub (.sub V0 1 4 0 noI) 1 3 0 noI) 1 2 0 noI)))),V1]
(.rq (.cells 4 V2)
(.ret [(.ag V2)])))):=by kernel_rfl
def d7p:SV:=(.put (.cat (.v 3) 2 (.cat (.z 35) 4 (.cat (.z 3) 1 (.cat (.z 3) 1 (.cat (.z 3) 1 (.cat (.z 3) 1 (.cat (.z 3) 1 (.z 3)))))))) 2 4 (.v 5) 0 noI)
def d7q:SV:=(.put (.cat (.sub d7p 0 6 0 noI) 6 (.cat (.proj (.v 2) 1) 1 (.sub d7p 7 5 0 noI))) 9 1 (.op2 .add .i64 (.ki 1) (.cv .i64 (.op2 .rem .u8 (.cell (.sub (.v 0) 1 15 0 noI) 12 0 noI) (.k (.int .u8 (8)))))) 0 noI)
def d2Y:SV:=(.put (.cat (.sub d7q 0 10 0 noI) 10 (.cat (.cv .i64 (.op2 .rem .u8 (.cell (.sub (.v 0) 1 15 0 noI) 13 0 noI) (.k (.int .u8 (2))))) 1 (.sub d7q 11 1 0 noI))) 11 1 (.cv .i64 (.op2 .rem .u8 (.cell (.sub (.v 0) 1 15 0 noI) 14 0 noI) (.k (.int .u8 (2))))) 0 noI)
def d3A:SV:=(.cat (.sub d2Y 0 7 0 noI) 7 (.cat (.v 9) 1 (.cat (.op2 .add .i64 (.v 7) (.cv .i64 (.cell (.sub (.v 0) 1 15 0 noI) 11 0 noI))) 1 (.sub (.sub d2Y 8 4 0 noI) 1 3 0 noI))))
theorem c2E:a0w prog [] [] [⟨2,68,[12],[]⟩,⟨3,14,[84],[]⟩,⟨2,84,[9],[]⟩,⟨0,6,[],[]⟩,⟨0,10,[],[]⟩] [⟨3,[0,1,3,0,8,0,32,103,255,0,0,1024,3072,7168,15360,0,32768,98304,229376,0,524288,1572864,3670016,8388607,0,33554431],[0,5,2,0,5,0,5,2,2,0,0,5,0,0,0,0,5,0,0,0,5,0,0,0,3,8],[0,0,0,0,0,0,0,0,0,0,0,0,0,0,0,0,0,0,0,0,0,0,0,0,0,2],[0,1,3,4,5,6,9,10,11,12,13,14,15,16,17,18,19,20,21,22,2,7,8,23,24],[25]⟩] 4=some (.rq (.cells 16 V0)
(.rq (.int .u8 (.cell V0 10 0 noI))
(.ri V1
(.rq (.nz V1)
(.call false 14 [(.sub (.cat (.cv .u8 (.io .rem (.cv .i64 (.cell V0 10 0 noI)) V1)) 1 (.sub V0 1 15 0 noI)) 0 5 0 noI)]
(.rq (.tup 0 V2)
(.rq (.tup 1 V2)
(.rq (.int .u8 (.cell (.sub V0 1 15 0 noI) 12 0 noI))
(.rq (.int .u8 (.cell (.sub V0 1 15 0 noI) 13 0 noI))
(.rq (.int .u8 (.cell (.sub V0 1 15 0 noI) 14 0 noI))
(.call true 15 [(.sub (.cat (.cv .u8 (.io .rem (.cv .i64 (.cell V0 10 0 noI)) V1)) 1 (.sub V0 1 15 0 noI)) 0 5 0 noI)]
(.call true 17 [(.sub (.cat (.cv .u8 (.io .rem (.cv .i64 (.cell V0 10 0 noI)) V1)) 1 (.sub V0 1 15 0 noI)) 0 5 0 noI)]
(.call true 16 [(.sub (.sub V0 1 15 0 noI) 4 5 0 noI),V4]
(.rq (.cells 2 V3)
(.rq (.cells 4 V5)
(.rq (.cells 1 (.proj V2 1))
(.rq (.cells 12 d2Y)
(.loop [(.k (.int .i64 (-1))),(.ki 0),(.ki 0)]
(.ri V8
(.rq (.int .i64 (.proj V2 1))
(.br (.io .lss V8 (.proj V2 1))
(.loop [(.ki 0),(.ki 0)]
(.pm f4 10 2 [(.proj V2 0)]
(.ri V10
(.ri V11
(.br (.io .lss V10 V11)
(.pm f4 12 2 [(.proj V2 0),V10]
(.pm f4 12 3 [V12]
(.ri V13
(.join 1
(.br (.io .eql V13 V8)
(.pm f4 13 5 [(.cell d2Y 5 0 noI),V10]
(.pm f4 13 6 [V14]
(.pm f4 13 7 [V15]
(.ri V9
(.ri V16
(.next 2 [(.io .add V9 V16)]))))))
(.next 2 [V9]))
(.next 1 [V14,(.io .add V10 (.ki 1))])))))
(.join 1
(.ri V6
(.br (.io .lss V6 (.ki 0))
(.next 2 [(.k (.bool true))])
(.ri V9
(.next 2 [(.io .lss V9 V6)]))))
(.join 1
(.rq (.bool V12)
(.br V12
(.next 2 [V9])
(.next 2 [V6])))
(.pm f4 16 2 [V7,V9]
(.next 0 [V13,V14,(.io .add V8 (.ki 1))])))))))))
(.rq (.int .u8 (.cell (.sub V0 1 15 0 noI) 10 0 noI))
(.ri V6
(.pm f4 17 5 [(.ki 0),(.io .sub V6 (.cv .i64 (.cell (.sub V0 1 15 0 noI) 10 0 noI)))]
(.rq (.cells 1 V9)
(.rq (.int .u8 (.cell (.sub V0 1 15 0 noI) 11 0 noI))
(.ri V7
(.rq (.cells 12 d3A)
(.ret [d3A,(.proj V2 0)]))))))))))))))))))))))))))))):=by kernel_rfl
theorem d5I:a0w prog [] [] [⟨3,4,[2],[]⟩,⟨3,6,[70],[]⟩,⟨3,30,[2],[]⟩,⟨0,10,[],[2]⟩,⟨0,17,[],[]⟩] [⟨30,[0,1,3,7,15,31,63,127,255,511,1023,2047,4095,8191,16383,32767,65535,131071,262143,524287,1048575,2097151,4194303,8388607,16777215,33554431,67108863,134217727,268435455,536870911,1073741823,2147483647,4294967295,4294967295,17179869183,34359738367,68719476735,137438953471,137438953471,549755813887,1099511627775,2199023255551,4398046511103,4398046511103,17592186044415,35184372088831,70368744177663,140737488355327,281474976710655,562949953421311,1125899906842623,140737488355327,4503599627370495,9007199254740991,18014398509481983,36028797018963967,36028797018963967,108086391056891903,252201579132747775,576460752303423487,1152921504606846975,2305843009213693951,36028797018963967,9223372036854775807,18446744073709551615,36893488147419103231],[0,0,0,0,0,0,0,0,0,0,0,0,0,0,0,0,0,0,0,0,0,0,0,0,0,0,0,0,1,0,0,0,0,0,2,0,0,5,5,1,0,0,5,5,1,0,0,0,1,1,1,5,1,0,0,0,0,1,0,1,1,1,5,1,0,0],[0,0,0,0,0,0,0,0,0,0,0,0,0,0,0,0,0,0,0,0,0,0,0,0,0,0,0,0,0,0,0,0,0,0,0,0,0,4,6,0,0,0,5,7,0,0,0,0,0,0,0,9,0,0,0,0,0,0,0,0,0,0,8,0,0,0],[0,1,2,3,4,5,6,7,8,9,10,11,12,13,14,15,16,17,18,19,20,21,22,23,24,25,26,27,28,29,30,31,32,33,34,35,36,37,38,39,40,41,42,43,44,45,46,47,48,49,50,51,52,53,54,55,56,57,58,59,60,61,62,63,64,65],[]⟩] 3=some (.rq (.cells 16 V0)
(.call false 4 [(.ag V0),(.ki 6)]
(.rq (.tup 0 V1)
(.rq (.tup 1 V1)
(.rq (.cells 12 (.proj V1 0))
(.call false 5 [(.ag (.proj V1 0))]
(.rq (.tup 0 V2)
(.rq (.tup 1 V2)
(.rq (.int .i64 (.proj V2 1))
(.br (.io .neq (.proj V2 1) (.ki 0))
(.join 1
(.br (.io .eql (.proj V2 1) (.ki 3))
(.next 0 [(.k (.bool true))])
(.br (.io .eql (.proj V2 1) (.ki 7))
(.next 0 [(.k (.bool true))])
(.next 0 [(.io .eql (.proj V2 1) (.ki 2))])))
(.ret [V3]))
(.call false 6 [(.sub (.proj V1 0) 2 4 0 noI)]
(.rq (.tup 0 V3)
(.rq (.tup 1 V3)
(.join 1
(.rq (.int .i64 (.proj V3 1))
(.br (.io .neq (.proj V3 1) (.ki 0))
(.next 0 [(.k (.bool true))])
(.rq (.int .i64 (.proj V3 0))
(.rq (.int .i64 (.cell (.proj V1 0) 0 0 noI))
(.next 0 [(.io .neq (.proj V3 0) (.cell (.proj V1 0) 0 0 noI))])))))
(.rq (.bool V4)
(.br V4
(.ret [(.k (.bool false))])
(.rq (.cells 1 (.cell (.proj V1 0) 7 0 noI))
(.rq (.cells 1 (.cell (.proj V1 0) 8 0 noI))
(.rq (.cells 1 (.cell (.proj V1 0) 6 0 noI))
(.rq (.cells 4 (.cat (.z 38) 1 (.cat (.sub (.put (.cat (.cell (.proj V1 0) 7 0 noI) 1 (.cat (.z 3) 1 (.z 3))) 1 1 (.cell (.proj V1 0) 8 0 noI) 0 noI) 0 2 0 noI) 2 (.cell (.proj V1 0) 6 0 noI))))
(.pm f3 9 4 [(.cell (.proj V1 0) 5 0 noI),(.proj V3 0)]
(.pm f3 9 5 [V5]
(.loop [(.ki 0),(.cat (.z 38) 1 (.cat (.sub (.put (.cat (.cell (.proj V1 0) 7 0 noI) 1 (.cat (.z 3) 1 (.z 3))) 1 1 (.cell (.proj V1 0) 8 0 noI) 0 noI) 0 2 0 noI) 2 (.cell (.proj V1 0) 6 0 noI)))]
(.ri V7
(.ri V6
(.br (.io .lss V7 V6)
(.pm f3 11 0 [V5,V7]
(.pm f3 11 1 [V9]
(.rq (.cells 6 V10)
(.ef false f3 12 4 [(.cell V10 1 0 noI)]
(.ef false f3 12 5 [(.cell V8 0 0 noI),V11]
(.rq (.cells 1 V12)
(.next 0 [(.io .add V7 (.ki 1)),(.cat V12 1 (.sub V8 1 3 0 noI))])))))))
(.call false 7 [(.sub (.proj V1 0) 0 2 0 noI),(.ag V8)]
(.rq (.tup 0 V9)
(.rq (.tup 1 V9)
(.pm f3 16 1 [(.proj V9 0)]
(.loop [(.k (.bool false)),(.k (.slice none 0 0)),(.ki 0)]
(.ri V13
(.ri V10
(.br (.io .lss V13 V10)
(.pm f3 18 0 [(.proj V9 0),V13]
(.pm f3 18 1 [V14]
(.call false 8 [(.sub (.proj V1 0) 0 2 0 noI),(.sub (.proj V1 0) 2 4 0 noI),V15,(.cell (.proj V1 0) 6 0 noI),(.cell (.proj V1 0) 9 0 noI),(.cell (.proj V1 0) 10 0 noI),(.cell (.proj V1 0) 11 0 noI)]
(.rq (.tup 0 V16)
(.rq (.tup 1 V16)
(.rq (.cells 16 (.proj V16 0))
(.rq (.int .i64 (.proj V16 1))
(.br (.io .neq (.proj V16 1) (.ki 0))
(.ret [(.k (.bool false))])
(.ef false f3 22 2 [(.ag (.proj V16 0))]
(.ef false f3 22 3 [V12,V17]
(.next 1 [V11,V18,(.io .add V13 (.ki 1))])))))))))))
(.call false 9 [V12]
(.rq (.tup 0 V14)
(.rq (.tup 1 V14)
(.call false 8 [(.sub (.proj V1 0) 0 2 0 noI),(.sub (.proj V1 0) 2 4 0 noI),(.proj V1 1),(.cell (.proj V1 0) 6 0 noI),(.cell (.proj V1 0) 9 0 noI),(.cell (.proj V1 0) 10 0 noI),(.cell (.proj V1 0) 11 0 noI)]
(.rq (.tup 0 V15)
(.rq (.tup 1 V15)
(.rq (.cells 16 (.proj V15 0))
(.call false 10 [(.proj V2 0),(.ag (.proj V15 0))]
(.rq (.tup 0 V16)
(.rq (.tup 1 V16)
(.rq (.tup 2 V16)
(.rq (.cells 16 (.proj V16 0))
(.rq (.cells 16 (.proj V16 1))
(.call false 11 [(.ag (.proj V1 0)),(.proj V1 1)]
(.rq (.tup 0 V17)
(.rq (.tup 1 V17)
(.rq (.tup 2 V17)
(.rq (.cells 16 (.proj V17 0))
(.rq (.cells 16 (.proj V17 1))
(.call false 12 [(.ag (.proj V1 0)),(.k (.bool true))]
(.rq (.tup 0 V18)
(.rq (.tup 1 V18)
(.rq (.tup 2 V18)
(.rq (.cells 16 (.proj V18 1))
(.call false 12 [(.ag (.proj V1 0)),(.k (.bool false))]
(.rq (.tup 0 V19)
(.rq (.tup 1 V19)
(.rq (.tup 2 V19)
(.rq (.cells 16 (.proj V19 1))
(.join 1
(.rq (.int .i64 (.proj V9 1))
(.br (.io .eql (.proj V9 1) (.ki 0))
(.rq (.int .i64 (.proj V14 1))
(.br (.io .eql (.proj V14 1) (.ki 0))
(.rq (.int .i64 (.proj V15 1))
(.br (.io .eql (.proj V15 1) (.ki 0))
(.rq (.int .i64 (.proj V16 2))
(.br (.io .eql (.proj V16 2) (.ki 0))
(.rq (.int .i64 (.proj V17 2))
(.br (.io .eql (.proj V17 2) (.ki 0))
(.rq (.int .i64 (.proj V18 2))
(.br (.io .eql (.proj V18 2) (.ki 0))
(.rq (.int .i64 (.proj V19 2))
(.br (.io .eql (.proj V19 2) (.ki 0))
(.pm f3 30 28 [(.proj V2 0)]
(.ri V20
(.br (.io .gtr V20 (.ki 0))
(.call true 13 [(.proj V2 0),(.proj V14 0)]
(.rq (.bool V21)
(.br V21
(.pm f3 30 39 [(.ag (.proj V16 0)),(.ag (.proj V17 0))]
(.rq (.bool V22)
(.br V22
(.pm f3 30 44 [(.ag (.proj V16 1)),(.ag (.proj V17 1))]
(.rq (.bool V23)
(.br V23
(.pm f3 30 48 [(.proj V2 0),(.ki 0)]
(.pm f3 30 49 [V24]
(.pm f3 30 50 [V25]
(.pm f3 30 52 [V26,(.ag (.proj V19 1))]
(.rq (.bool V27)
(.br V27
(.pm f3 30 57 [(.proj V2 0)]
(.ri V28
(.pm f3 30 59 [(.proj V2 0),(.io .sub V28 (.ki 1))]
(.pm f3 30 60 [V29]
(.pm f3 30 61 [V30]
(.pm f3 30 63 [V31,(.ag (.proj V18 1))]
(.next 2 [V32])))))))
(.next 2 [(.k (.bool false))])))))))
(.next 2 [(.k (.bool false))]))))
(.next 2 [(.k (.bool false))]))))
(.next 2 [(.k (.bool false))]))))
(.next 2 [(.k (.bool false))]))))
(.next 2 [(.k (.bool false))])))
(.next 2 [(.k (.bool false))])))
(.next 2 [(.k (.bool false))])))
(.next 2 [(.k (.bool false))])))
(.next 2 [(.k (.bool false))])))
(.next 2 [(.k (.bool false))])))
(.next 2 [(.k (.bool false))])))
(.ret [V20]))))))))))))))))))))))))))))))))))))))))))))))))))))))))))))))))):=by kernel_rfl
theorem b6K:(opr f3 9 4).op= .slice 33 (.tmp 80) none (some (.tmp 81)) none:=by kernel_rfl
end Go.Proofs.YtlmgkkjgdapnpaaGreatDoor

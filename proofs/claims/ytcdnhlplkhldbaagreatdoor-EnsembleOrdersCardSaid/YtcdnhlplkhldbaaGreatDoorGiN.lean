/- Trees of functions. -/
import Derived.Test.YtcdnhlplkhldbaaGreatDoorGiE
open Array renaming replicate->eV
open List renaming count->jU
open Nat renaming min_eq_right->jX
open Prod renaming ext->lV
set_option linter.all false
set_option maxRecDepth 100000
namespace Go.Z
open Proofs.Tryz RowKit RX
def d7X:d9 prog [] [] [⟨0,22,[],[]⟩] [⟨15,[0,1,3,7,15,31,63,127,255,511,1023,2047,4095,8191,16383,32767,65535,131071,262143,524287,1048575,2097151,4194303,8388607,8388607,33554431,67108863,134217727]++rPx 2 268435455++[1073741823,2147483647,4294967295]++rPx 2 8589934591++[34359738367,68719476735,137438953471,274877906943,549755813887,1099511627775,2199023255551,274877906943,8796093022207,17592186044415,35184372088831]++rPx 2 70368744177663++[211106232532991,492581209243647,1125899906842623,2251799813685247,4503599627370495,70368744177663,18014398509481983,36028797018963967],rPx 23 0++rDx 33 15111010000151110001250015500155,rPx 23 0++rDx 30 30000000090008500074++[2,0,0],rAx 0 56,[]⟩,⟨17,[0,1,0,4,15,31,63,63,127,511],rDx 10 22550,rDx 10 110,rAx 0 10,[]⟩] 3=some (.rq (.cells 16 V0) (.call false 4 []
(.rq (.bool V1) (.br (.nt V1) (.ret [(.k (.bool false))]) (.call false 5 [(.ag V0),(.ki 6)]
(.rq (.tup 0 V2) (.rq (.tup 1 V2) (.rq (.cells 12 (.pj V2 0)) (.call false 6 [(.ag (.pj V2 0))]
(.rq (.tup 0 V3) (.rq (.tup 1 V3) (.rq (.int .i64 (.pj V3 1)) (.br (.io .neq (.pj V3 1) (.ki 0)) (.ret [(.io .eql (.pj V3 1) (.ki 7))])
(.pm f3 7 1 [(.pj V3 0)]
(.ri V4
(.br (.io .eql V4 (.ki 0)) (.ret [(.k (.bool false))]) (.call false 7 [(.pj V3 0)]
(.ri V5
(.br (.io .neq V5 (.ki 0)) (.ret [(.k (.bool false))]) (.call false 8 [(.ag (.pj V2 0)),(.k (.bool true))]
(.rq (.tup 0 V6) (.rq (.tup 1 V6) (.rq (.tup 2 V6) (.rq (.cells 16 (.pj V6 1)) (.call false 8 [(.ag (.pj V2 0)),(.k (.bool false))]
(.rq (.tup 0 V7) (.rq (.tup 1 V7) (.rq (.tup 2 V7) (.rq (.cells 16 (.pj V7 1)) (.call false 9 [(.ag (.pj V2 0)),(.pj V2 1)]
(.rq (.tup 0 V8) (.rq (.tup 1 V8) (.rq (.tup 2 V8) (.rq (.cells 16 (.pj V8 0)) (.rq (.cells 16 (.pj V8 1)) (.call false 10 [(.ag (.pj V2 0)),(.pj V2 1)]
(.rq (.tup 0 V9) (.rq (.tup 1 V9) (.rq (.cells 16 (.pj V9 0)) (.call false 11 [(.pj V3 0),(.ag (.pj V9 0))]
(.rq (.tup 0 V10) (.rq (.tup 1 V10) (.rq (.tup 2 V10) (.rq (.cells 16 (.pj V10 0)) (.rq (.cells 16 (.pj V10 1)) (.call false 9 [(.ag (.pj V2 0)),(.pj V7 0)]
(.rq (.tup 0 V11) (.rq (.tup 1 V11) (.rq (.tup 2 V11) (.rq (.cells 16 (.pj V11 0)) (.rq (.cells 16 (.pj V11 1)) (.rq (.int .i64 (.pj V6 2)) (.br (.io .neq (.pj V6 2) (.ki 0)) (.ret [(.k (.bool false))]) (.rq (.int .i64 (.pj V7 2)) (.br (.io .neq (.pj V7 2) (.ki 0)) (.ret [(.k (.bool false))]) (.rq (.int .i64 (.pj V8 2)) (.br (.io .neq (.pj V8 2) (.ki 0)) (.ret [(.k (.bool false))]) (.rq (.int .i64 (.pj V10 2)) (.br (.io .neq (.pj V10 2) (.ki 0)) (.ret [(.k (.bool false))]) (.rq (.int .i64 (.pj V11 2)) (.br (.io .neq (.pj V11 2) (.ki 0)) (.ret [(.k (.bool false))]) (.rq (.bool (.pj V9 1)) (.br (.nt (.pj V9 1)) (.ret [(.k (.bool false))])
(.pm f3 15 25 [(.ag (.pj V8 0)),(.ag (.pj V10 0))]
(.rq (.bool V12) (.br V12
(.ret [(.k (.bool false))])
(.pm f3 15 30 [(.ag (.pj V8 1)),(.ag (.pj V10 1))]
(.rq (.bool V13) (.br V13
(.ret [(.k (.bool false))]) (.call true 12 [(.ki 0),(.ki 1)]
(.pm f3 15 35 [(.ag (.pj V11 0)),V14]
(.rq (.bool V15) (.br V15
(.ret [(.k (.bool false))])
(.pm f3 15 39 [(.pj V3 0),(.ki 0)]
(.pm f3 15 40 [V16]
(.pm f3 15 41 [V17]
(.pm f3 15 43 [V18,(.ag (.pj V7 1))]
(.rq (.bool V19) (.br V19
(.ret [(.k (.bool false))])
(.pm f3 15 48 [(.pj V3 0)]
(.ri V20
(.pm f3 15 50 [(.pj V3 0),(.io .sub V20 (.ki 1))]
(.pm f3 15 51 [V21]
(.pm f3 15 52 [V22]
(.pm f3 15 54 [V23,(.ag (.pj V6 1))]
(.rq (.bool V24) (.br V24
(.ret [(.k (.bool false))]) (.call true 14 [(.ag (.pj V2 0))]
(.call true 13 [(.sub (.pj V2 0) 0 2 0 noI),V25]
(.rq (.tup 0 V26) (.rq (.tup 1 V26) (.rq (.int .i64 (.pj V26 1)) (.br (.io .neq (.pj V26 1) (.ki 0)) (.ret [(.k (.bool false))])
(.pm f3 18 4 [(.pj V26 0)]
(.ri V27
(.br (.io .eql V27 (.ki 0)) (.ret [(.k (.bool false))])
(.pm f3 21 1 [(.pj V26 0)]
(.loop [(.k (.bool false)),(.k (.slice none 0 0)),(.ki 0)]
(.ri V31
(.ri V28
(.br (.io .lss V31 V28)
(.pm f3 23 0 [(.pj V26 0),V31]
(.pm f3 23 1 [V32]
(.call false 10 [(.ag (.pj V2 0)),V33]
(.rq (.tup 0 V34) (.rq (.tup 1 V34) (.rq (.cells 16 (.pj V34 0)) (.rq (.bool (.pj V34 1)) (.br (.nt (.pj V34 1)) (.ret [(.k (.bool false))])
(.ef false f3 27 2 [(.ag (.pj V34 0))]
(.ef false f3 27 3 [V30,V35]
(.next 0 [V29,V36,(.io .add V31 (.ki 1))]))))))))))) (.call false 15 [V30]
(.rq (.tup 0 V32) (.rq (.tup 1 V32) (.rq (.int .i64 (.pj V32 1)) (.br (.io .eql (.pj V32 1) (.ki 0)) (.call false 16 [(.pj V32 0),(.pj V3 0)]
(.ret [V33])) (.ret [(.k (.bool false))]))))))))))))))))))))))))))))))))))))))))))))))))))))))))))))))))))))))))))))))))))))))))))))))))))))))))))):=aB
def d7Y:d9 prog [61,73] [] [] [⟨5,[0,0,2,6,6,31,63,127,127,383,895,895,4095,8191,16383,32767,65535,131071,32767,32767,1048575]++rPx 3 2097151++[16777215,33554431,67108863,134217727,268435455,536870911]++rPx 2 134217727++[4294967295]++rPx 3 8589934591++[68719476735,137438953471,274877906943]++rPx 2 549755813887++[2199023255551,4398046511103,8796093022207]++rPx 2 17592186044415++[70368744177663,140737488355327,281474976710655,562949953421311,1125899906842623,2251799813685247,4503599627370495]++rPx 2 9007199254740991++[36028797018963967,72057594037927935,144115188075855871]++rPx 2 288230376151711743++[1152921504606846975,2305843009213693951,4611686018427387903,9223372036854775807,18446744073709551615,36893488147419103231,73786976294838206463],rDx 67 1250022000000012500220002000235222002000235222002002500200250,rPx 44 0++rDx 14 1++rDx 9 2,rAx 0 15++[18,15,16,17]++rAx 19 8++[30,27,28,29]++rAx 31 36,[]⟩,⟨6,[0,0,0,0,13,31],[5,5,3,3,8,8],[0,0,0,0,3,3],[0,1,2,3],[4,5]⟩,⟨11,[0,1,3,7,15,31,63,3,255,511,511,2047,4095,8191,16383,32767,65535,131071,262143,524287,1048575,2097151,4194303,8388607,16777215,33554431],rDx 26 200252202200,rDx 26 30000000,rDx 8 65432710++rAx 8 18,[]⟩] 4=some (.call false 17 []
(.rq (.cells 12 V0) (.call false 12 [(.ki 20),(.ki 1)]
(.call false 12 [(.ki 1),(.ki 3)]
(.rq (.cells 16 V1) (.rq (.cells 16 V2) (.call false 12 [(.ki 30),(.ki 1)]
(.call false 12 [(.ki 2),(.ki 3)]
(.rq (.cells 16 V3) (.rq (.cells 16 V4)
(.ef false f4 2 6 [(.put (.cat V1 16 (.z 53)) 16 16 V2 0 noI),(.put (.cat V3 16 (.z 53)) 16 16 V4 0 noI)]
(.call false 18 [V5]
(.call false 8 [(.ag V0),(.k (.bool true))]
(.rq (.tup 0 V7) (.rq (.tup 1 V7) (.rq (.tup 2 V7) (.rq (.cells 16 (.pj V7 1)) (.call false 8 [(.ag V0),(.k (.bool false))]
(.rq (.tup 0 V8) (.rq (.tup 1 V8) (.rq (.tup 2 V8) (.rq (.cells 16 (.pj V8 1)) (.call true 6 [(.ag V0)]
(.rq (.tup 0 V9) (.rq (.tup 1 V9)
(.ef true f4 5 5 [V6,(.pj V9 0),(.pj V9 1)]
(.rq (.bool V10) (.br V10
(.call true 19 [(.ag V0)]
(.rq (.tup 0 V11) (.rq (.tup 1 V11)
(.ef true f4 5 12 [V6,(.pj V11 0),(.pj V11 1)]
(.rq (.bool V12) (.br V12
(.call true 12 [(.ki 0),(.ki 1)]
(.call true 12 [(.ki 1),(.ki 3)]
(.call true 20 [V13,V14]
(.mq f4 5 19 [(.ki 0),(.ki 0),(.ki 1),(.ki 1)]
(.call true 9 [(.ag V0),V16]
(.rq (.tup 0 V17) (.rq (.tup 1 V17) (.rq (.tup 2 V17)
(.ef true f4 5 24 [V15,(.pj V17 0),(.pj V17 1),(.pj V17 2)]
(.rq (.bool V18) (.br V18
(.call true 12 [(.ki 1),(.ki 3)]
(.call true 12 [(.ki 2),(.ki 3)]
(.call true 20 [V19,V20]
(.mq f4 5 31 [(.ki 1),(.ki 0),(.ki 0),(.ki 0)]
(.call true 9 [(.ag V0),V22]
(.rq (.tup 0 V23) (.rq (.tup 1 V23) (.rq (.tup 2 V23)
(.ef true f4 5 36 [V21,(.pj V23 0),(.pj V23 1),(.pj V23 2)]
(.rq (.bool V24) (.br V24
(.ef true f4 5 40 [(.ki 0),(.ki 0),(.ki 0),(.ki 1)]
(.call true 21 [(.pj V7 0),V25]
(.rq (.bool V26) (.br V26
(.call true 12 [(.ki 30),(.ki 1)]
(.pm f4 5 46 [(.ag (.pj V7 1)),V27]
(.rq (.bool V28) (.br V28
(.rq (.int .i64 (.pj V7 2)) (.br (.io .eql (.pj V7 2) (.ki 0))
(.ef true f4 5 54 [(.ki 0),(.ki 0),(.ki 1),(.ki 1)]
(.call true 21 [(.pj V8 0),V29]
(.rq (.bool V30) (.br V30
(.call true 12 [(.ki 20),(.ki 1)]
(.pm f4 5 60 [(.ag (.pj V8 1)),V31]
(.rq (.bool V32) (.br V32
(.rq (.int .i64 (.pj V8 2)) (.call false 6 [(.cat (.sub (.ag V0) 0 7 0 noI) 7 (.cat (.ki 21) 1 (.sub (.ag V0) 8 4 0 noI)))]
(.rq (.tup 0 V33) (.rq (.tup 1 V33)
(.ef false f4 9 1 [(.ki 0),(.ki 0),(.ki 0),(.ki 0)]
(.call false 9 [(.ag V0),V34]
(.rq (.tup 0 V35) (.rq (.tup 1 V35) (.rq (.tup 2 V35) (.rq (.cells 16 (.pj V35 0)) (.rq (.cells 16 (.pj V35 1))
(.ef false f4 10 1 [(.ki 0),(.ki 0),(.ki 1),(.ki 1)]
(.call false 22 [(.ag V0),V36,(.ki 201),(.z 81)]
(.rq (.tup 0 V37) (.rq (.tup 1 V37) (.rq (.tup 2 V37) (.rq (.tup 3 V37) (.rq (.cells 1 (.pj V37 2)) (.br (.io .eql (.pj V8 2) (.ki 0)) (.call true 12 [(.ki 20),(.ki 1)]
(.call true 12 [(.ki 1),(.ki 1)]
(.rq (.cells 16 V38) (.rq (.cells 16 V39)
(.ef true f4 11 5 [(.put (.cat V38 16 (.z 53)) 16 16 V39 0 noI)]
(.call true 18 [V40]
(.call true 6 [(.cat (.sub (.ag V0) 0 7 0 noI) 7 (.cat (.ki 20) 1 (.sub (.ag V0) 8 4 0 noI)))]
(.rq (.tup 0 V42) (.rq (.tup 1 V42)
(.ef true f4 11 11 [V41,(.pj V42 0),(.pj V42 1)]
(.rq (.bool V43) (.br V43
(.rq (.int .i64 (.pj V33 1)) (.br (.io .eql (.pj V33 1) (.ki 4)) (.rq (.int .i64 (.pj V35 2)) (.br (.io .eql (.pj V35 2) (.ki 8)) (.rq (.int .i64 (.pj V37 3)) (.ret [(.io .eql (.pj V37 3) (.ki 2))])) (.ret [(.k (.bool false))]))) (.ret [(.k (.bool false))]))) (.ret [(.k (.bool false))]))))))))))))) (.ret [(.k (.bool false))])))))))))))))))))))) (.call false 6 [(.cat (.sub (.ag V0) 0 7 0 noI) 7 (.cat (.ki 21) 1 (.sub (.ag V0) 8 4 0 noI)))]
(.rq (.tup 0 V33) (.rq (.tup 1 V33)
(.ef false f4 9 1 [(.ki 0),(.ki 0),(.ki 0),(.ki 0)]
(.call false 9 [(.ag V0),V34]
(.rq (.tup 0 V35) (.rq (.tup 1 V35) (.rq (.tup 2 V35) (.rq (.cells 16 (.pj V35 0)) (.rq (.cells 16 (.pj V35 1))
(.ef false f4 10 1 [(.ki 0),(.ki 0),(.ki 1),(.ki 1)]
(.call false 22 [(.ag V0),V36,(.ki 201),(.z 81)]
(.rq (.tup 0 V37) (.rq (.tup 1 V37) (.rq (.tup 2 V37) (.rq (.tup 3 V37) (.rq (.cells 1 (.pj V37 2)) (.ret [(.k (.bool false))])))))))))))))))))))))) (.call false 6 [(.cat (.sub (.ag V0) 0 7 0 noI) 7 (.cat (.ki 21) 1 (.sub (.ag V0) 8 4 0 noI)))]
(.rq (.tup 0 V31) (.rq (.tup 1 V31)
(.ef false f4 9 1 [(.ki 0),(.ki 0),(.ki 0),(.ki 0)]
(.call false 9 [(.ag V0),V32]
(.rq (.tup 0 V33) (.rq (.tup 1 V33) (.rq (.tup 2 V33) (.rq (.cells 16 (.pj V33 0)) (.rq (.cells 16 (.pj V33 1))
(.ef false f4 10 1 [(.ki 0),(.ki 0),(.ki 1),(.ki 1)]
(.call false 22 [(.ag V0),V34,(.ki 201),(.z 81)]
(.rq (.tup 0 V35) (.rq (.tup 1 V35) (.rq (.tup 2 V35) (.rq (.tup 3 V35) (.rq (.cells 1 (.pj V35 2)) (.ret [(.k (.bool false))])))))))))))))))))))))) (.call false 6 [(.cat (.sub (.ag V0) 0 7 0 noI) 7 (.cat (.ki 21) 1 (.sub (.ag V0) 8 4 0 noI)))]
(.rq (.tup 0 V29) (.rq (.tup 1 V29)
(.ef false f4 9 1 [(.ki 0),(.ki 0),(.ki 0),(.ki 0)]
(.call false 9 [(.ag V0),V30]
(.rq (.tup 0 V31) (.rq (.tup 1 V31) (.rq (.tup 2 V31) (.rq (.cells 16 (.pj V31 0)) (.rq (.cells 16 (.pj V31 1))
(.ef false f4 10 1 [(.ki 0),(.ki 0),(.ki 1),(.ki 1)]
(.call false 22 [(.ag V0),V32,(.ki 201),(.z 81)]
(.rq (.tup 0 V33) (.rq (.tup 1 V33) (.rq (.tup 2 V33) (.rq (.tup 3 V33) (.rq (.cells 1 (.pj V33 2)) (.ret [(.k (.bool false))])))))))))))))))))))) (.call false 6 [(.cat (.sub (.ag V0) 0 7 0 noI) 7 (.cat (.ki 21) 1 (.sub (.ag V0) 8 4 0 noI)))]
(.rq (.tup 0 V29) (.rq (.tup 1 V29)
(.ef false f4 9 1 [(.ki 0),(.ki 0),(.ki 0),(.ki 0)]
(.call false 9 [(.ag V0),V30]
(.rq (.tup 0 V31) (.rq (.tup 1 V31) (.rq (.tup 2 V31) (.rq (.cells 16 (.pj V31 0)) (.rq (.cells 16 (.pj V31 1))
(.ef false f4 10 1 [(.ki 0),(.ki 0),(.ki 1),(.ki 1)]
(.call false 22 [(.ag V0),V32,(.ki 201),(.z 81)]
(.rq (.tup 0 V33) (.rq (.tup 1 V33) (.rq (.tup 2 V33) (.rq (.tup 3 V33) (.rq (.cells 1 (.pj V33 2)) (.ret [(.k (.bool false))])))))))))))))))))))))) (.call false 6 [(.cat (.sub (.ag V0) 0 7 0 noI) 7 (.cat (.ki 21) 1 (.sub (.ag V0) 8 4 0 noI)))]
(.rq (.tup 0 V27) (.rq (.tup 1 V27)
(.ef false f4 9 1 [(.ki 0),(.ki 0),(.ki 0),(.ki 0)]
(.call false 9 [(.ag V0),V28]
(.rq (.tup 0 V29) (.rq (.tup 1 V29) (.rq (.tup 2 V29) (.rq (.cells 16 (.pj V29 0)) (.rq (.cells 16 (.pj V29 1))
(.ef false f4 10 1 [(.ki 0),(.ki 0),(.ki 1),(.ki 1)]
(.call false 22 [(.ag V0),V30,(.ki 201),(.z 81)]
(.rq (.tup 0 V31) (.rq (.tup 1 V31) (.rq (.tup 2 V31) (.rq (.tup 3 V31) (.rq (.cells 1 (.pj V31 2)) (.ret [(.k (.bool false))])))))))))))))))))))))) (.call false 6 [(.cat (.sub (.ag V0) 0 7 0 noI) 7 (.cat (.ki 21) 1 (.sub (.ag V0) 8 4 0 noI)))]
(.rq (.tup 0 V25) (.rq (.tup 1 V25)
(.ef false f4 9 1 [(.ki 0),(.ki 0),(.ki 0),(.ki 0)]
(.call false 9 [(.ag V0),V26]
(.rq (.tup 0 V27) (.rq (.tup 1 V27) (.rq (.tup 2 V27) (.rq (.cells 16 (.pj V27 0)) (.rq (.cells 16 (.pj V27 1))
(.ef false f4 10 1 [(.ki 0),(.ki 0),(.ki 1),(.ki 1)]
(.call false 22 [(.ag V0),V28,(.ki 201),(.z 81)]
(.rq (.tup 0 V29) (.rq (.tup 1 V29) (.rq (.tup 2 V29) (.rq (.tup 3 V29) (.rq (.cells 1 (.pj V29 2)) (.ret [(.k (.bool false))]))))))))))))))))))))))))))))) (.call false 6 [(.cat (.sub (.ag V0) 0 7 0 noI) 7 (.cat (.ki 21) 1 (.sub (.ag V0) 8 4 0 noI)))]
(.rq (.tup 0 V19) (.rq (.tup 1 V19)
(.ef false f4 9 1 [(.ki 0),(.ki 0),(.ki 0),(.ki 0)]
(.call false 9 [(.ag V0),V20]
(.rq (.tup 0 V21) (.rq (.tup 1 V21) (.rq (.tup 2 V21) (.rq (.cells 16 (.pj V21 0)) (.rq (.cells 16 (.pj V21 1))
(.ef false f4 10 1 [(.ki 0),(.ki 0),(.ki 1),(.ki 1)]
(.call false 22 [(.ag V0),V22,(.ki 201),(.z 81)]
(.rq (.tup 0 V23) (.rq (.tup 1 V23) (.rq (.tup 2 V23) (.rq (.tup 3 V23) (.rq (.cells 1 (.pj V23 2)) (.ret [(.k (.bool false))]))))))))))))))))))))))))))))) (.call false 6 [(.cat (.sub (.ag V0) 0 7 0 noI) 7 (.cat (.ki 21) 1 (.sub (.ag V0) 8 4 0 noI)))]
(.rq (.tup 0 V13) (.rq (.tup 1 V13)
(.ef false f4 9 1 [(.ki 0),(.ki 0),(.ki 0),(.ki 0)]
(.call false 9 [(.ag V0),V14]
(.rq (.tup 0 V15) (.rq (.tup 1 V15) (.rq (.tup 2 V15) (.rq (.cells 16 (.pj V15 0)) (.rq (.cells 16 (.pj V15 1))
(.ef false f4 10 1 [(.ki 0),(.ki 0),(.ki 1),(.ki 1)]
(.call false 22 [(.ag V0),V16,(.ki 201),(.z 81)]
(.rq (.tup 0 V17) (.rq (.tup 1 V17) (.rq (.tup 2 V17) (.rq (.tup 3 V17) (.rq (.cells 1 (.pj V17 2)) (.ret [(.k (.bool false))])))))))))))))))))))))))) (.call false 6 [(.cat (.sub (.ag V0) 0 7 0 noI) 7 (.cat (.ki 21) 1 (.sub (.ag V0) 8 4 0 noI)))]
(.rq (.tup 0 V11) (.rq (.tup 1 V11)
(.ef false f4 9 1 [(.ki 0),(.ki 0),(.ki 0),(.ki 0)]
(.call false 9 [(.ag V0),V12]
(.rq (.tup 0 V13) (.rq (.tup 1 V13) (.rq (.tup 2 V13) (.rq (.cells 16 (.pj V13 0)) (.rq (.cells 16 (.pj V13 1))
(.ef false f4 10 1 [(.ki 0),(.ki 0),(.ki 1),(.ki 1)]
(.call false 22 [(.ag V0),V14,(.ki 201),(.z 81)]
(.rq (.tup 0 V15) (.rq (.tup 1 V15) (.rq (.tup 2 V15) (.rq (.tup 3 V15) (.rq (.cells 1 (.pj V15 2)) (.ret [(.k (.bool false))])))))))))))))))))))))))))))))))))))))))))))))):=aB
def d0W:d9 prog [] [] [] [] 10=some (.rq (.cells 12 V0) (.call false 55 [(.sub V0 0 2 0 noI),(.sub V0 2 4 0 noI),V1,(.cell V0 6 0 noI),(.cell V0 9 0 noI),(.cell V0 10 0 noI),(.cell V0 11 0 noI)]
(.rq (.tup 0 V2) (.rq (.tup 1 V2) (.rq (.cells 16 (.pj V2 0)) (.rq (.int .i64 (.pj V2 1)) (.ret [(.ag (.pj V2 0)),(.io .eql (.pj V2 1) (.ki 0))]))))))):=aB
def d7Z:d9 prog [] [] [] [] 12=some (.call false 59 [V0,V1]
(.rq (.tup 0 V2) (.rq (.tup 1 V2) (.rq (.cells 16 (.pj V2 0)) (.ret [(.ag (.pj V2 0))]))))):=aB
def d8a:d9 prog [] [] [⟨0,3,[],[2]⟩] [] 14=some (.rq (.cells 12 V0) (.rq (.cells 1 (.cell V0 7 0 noI)) (.rq (.cells 1 (.cell V0 8 0 noI)) (.rq (.cells 1 (.cell V0 6 0 noI)) (.rq (.cells 4 (.cat (.z 39) 1 (.cat (.sub (.put (.cat (.cell V0 7 0 noI) 1 (.cat (.z 3) 1 (.z 3))) 1 1 (.cell V0 8 0 noI) 0 noI) 0 2 0 noI) 2 (.cell V0 6 0 noI))))
(.pm f14 2 3 [(.cell V0 5 0 noI)]
(.loop [(.ki 0),(.cat (.z 39) 1 (.cat (.sub (.put (.cat (.cell V0 7 0 noI) 1 (.cat (.z 3) 1 (.z 3))) 1 1 (.cell V0 8 0 noI) 0 noI) 0 2 0 noI) 2 (.cell V0 6 0 noI)))]
(.ri V2
(.ri V1
(.br (.io .lss V2 V1)
(.pm f14 4 0 [(.cell V0 5 0 noI),V2]
(.pm f14 4 1 [V4]
(.rq (.cells 6 V5) (.rq (.bool (.cell V5 5 0 noI)) (.br (.nt (.cell V5 5 0 noI))
(.ef false f14 6 4 [(.cell V5 1 0 noI)]
(.ef false f14 6 5 [(.cell V3 0 0 noI),V6]
(.rq (.cells 1 V7) (.next 0 [(.io .add V2 (.ki 1)),(.cat V7 1 (.sub V3 1 3 0 noI))])))) (.next 0 [(.io .add V2 (.ki 1)),V3])))))) (.ret [(.ag V3)]))))))))))):=aB
def c6n:d9 prog [] [] [⟨0,4,[],[]⟩] [⟨6,[0,0,3,7,0,0,48,112,255],rDx 9 111001100,rPx 9 0,rAx 0 9,[]⟩] 16=some (.pm f16 1 1 [V0]
(.pm f16 1 3 [V1]
(.ri V2
(.ri V3
(.br (.io .neq V2 V3) (.ret [(.k (.bool false))]) (.loop [(.k (.bool false)),(.ki 0)]
(.pm f16 4 2 [V0]
(.ri V5
(.ri V6
(.br (.io .lss V5 V6)
(.pm f16 6 2 [V0,V5]
(.pm f16 6 3 [V7]
(.pm f16 6 6 [V1,V5]
(.pm f16 6 7 [V9]
(.pm f16 6 8 [V8,V10]
(.rq (.bool V11) (.br V11
(.ret [(.k (.bool false))]) (.next 0 [V4,(.io .add V5 (.ki 1))])))))))) (.ret [(.k (.bool true))]))))))))))):=aB
@[reducible] def z4_:SV:= .cell (.pn (.pn (.pn (.pn (.z 157) 0 1 (.k (.string ⟨#[97]⟩))) 1 1 (.k (.string ⟨#[98]⟩))) 2 1 (.k (.string ⟨#[99]⟩))) 3 1 (.k (.string ⟨#[100]⟩))) 0 1 V1
def d8b:d9 prog [] [] [⟨0,3,[],[1]⟩] [] 17=some (.ef false f17 1 3 [(.put (.put (.z 156) 0 1 (.ki 0) 0 noI) 1 1 (.ki 1) 0 noI),(.put (.put (.z 156) 0 1 (.ki 1) 0 noI) 1 1 (.ki 2) 0 noI),(.put (.put (.z 156) 0 1 (.ki 2) 0 noI) 1 1 (.ki 3) 0 noI)]
(.rq (.cells 1 V0) (.loop [(.ki 0),(.cat (.cat (.ki 4) 1 V0) 2 (.cat (.z 36) 4 (.cat (.ki 2) 1 (.cat (.ki 10) 1 (.cat (.ki 30) 1 (.cat (.ki 2) 1 (.cat (.z 3) 1 (.z 3))))))))]
(.ri V1
(.br (.io .lss V1 (.ki 4)) (.rq (.num V1) (.rq (.lt 4 V1) (.rq (.cells 1 z4_)
(.ef false f17 5 5 [(.put (.cat z4_ 1 (.cat (.z 3) 1 (.cat (.z 39) 1 (.cat (.z 39) 1 (.cat (.z 39) 1 (.z 4)))))) 1 1 (.ki 10) 0 noI)]
(.ef false f17 5 6 [(.cell V2 5 0 noI),V3]
(.rq (.cells 1 V4) (.next 0 [(.io .add V1 (.ki 1)),(.cat (.sub V2 0 5 0 noI) 5 (.cat V4 1 (.sub V2 6 6 0 noI)))]))))))) (.ret [(.ag V2)])))))):=aB
def d8c:d9 prog [1] [] [] [] 18=some (.rq (.cells 1 V0) (.pub 43 V0
(.ef false f18 1 0 [V1]
(.ret [V2])))):=aB
def d0X:d9 prog [] [] [] [] 66=some (.ri V1
(.br (.io .eql V1 (.ki 0))
(.pm f66 1 4 [V2]
(.call false 67 [V0,V3]
(.ret [V4]))) (.ret [(.k (.bool false))]))):=aB
def d8d:d9 prog [1] [] [] [] 19=some (.rq (.cells 12 V0) (.pub 38 V0
(.ef false f19 1 0 [V1]
(.call false 27 [V2]
(.rq (.tup 0 V3) (.rq (.tup 1 V3) (.ret [(.pj V3 0),(.pj V3 1)]))))))):=aB
def d0Y:d9 prog [] [] [⟨4,5,[],[]⟩] [⟨5,[0,0,0,0,12,0,32,0,0,256,992,2016,2016,8160,16380,32764,32764,131068,262143],rDx 19 4200220021101115555,rDx 19 1010,rAx 0 18,[18]⟩] 68=some (.ef false f68 1 0 []
(.rq (.cells 1 V1)
(.pm f68 2 0 [V0]
(.call false 29 [V2]
(.call false 30 [V3]
(.rf V4 2 []
(.rq (.cells 16 V6)
(.pm f68 5 4 [(.cell V1 0 0 noI),(.ag V6)]
(.pm f68 5 5 [V0]
(.pm f68 5 6 [V8]
(.pm f68 5 8 [V0]
(.pm f68 5 9 [V10]
(.call true 69 [V9,V5,V11]
(.rq (.tup 0 V12) (.rq (.tup 1 V12) (.call true 31 [(.pj V12 0),(.pj V12 1)]
(.call true 32 [V7,V13]
(.rq (.tup 0 V14) (.rq (.tup 1 V14) (.call true 31 [(.pj V14 0),(.pj V14 1)]
(.ef false f68 5 18 [(.cell V1 0 0 noI),(.ag V6),V15]
(.next 0 [])))))))))))))))) (.call false 34 [(.cell V1 0 0 noI)]
(.ret [V5])) (.dead 818))))))):=aB
def d8e:d9 prog [] [] [⟨0,7,[],[2]⟩] [⟨12,[0,0,2,7,15],[5,5,2,2,6],[2,3,0,0,2],[0,1,2,3],[4]⟩] 69=some (.rq (.cells 2 V0) (.call false 119 [(.ag V0),V1,V2]
(.ri V3
(.br (.io .neq V3 (.ki 0)) (.ret [(.z 51),V3]) (.call false 120 [V1,V2]
(.rq (.tup 0 V4) (.rq (.tup 1 V4) (.call false 90 [(.ki 1)]
(.rq (.cells 2 V5)
(.pm f69 6 1 [(.pj V4 0)]
(.loop [(.ki 0),(.ki 0),V5]
(.ri V8
(.ri V6
(.br (.io .lss V8 V6)
(.pm f69 8 0 [(.pj V4 0),V8]
(.pm f69 8 1 [V10]
(.call false 121 [(.ag V0),V11]
(.rq (.tup 0 V12) (.rq (.tup 1 V12) (.rq (.cells 8 (.pj V12 0)) (.rq (.int .i64 (.pj V12 1)) (.br (.io .neq (.pj V12 1) (.ki 0)) (.ret [(.z 51),(.pj V12 1)]) (.call true 93 [(.ag (.pj V12 0))]
(.call true 94 [(.ag V9),V13]
(.rq (.cells 2 V14) (.next 0 [V7,(.io .add V8 (.ki 1)),V14])))))))))))) (.call false 111 [(.ag V9)]
(.rq (.tup 0 V10) (.rq (.tup 1 V10) (.rq (.cells 8 (.pj V10 0)) (.ret [(.ag (.pj V10 0)),(.pj V10 1)]))))))))))))))))))):=aB
def d8f:d9 prog [2,3] [] [] [] 20=some (.rq (.cells 16 V0) (.pub 53 V0
(.rq (.cells 16 V1) (.pub 53 V1
(.ef false f20 1 0 [V2,V3]
(.ret [V4])))))):=aB
def d0Z:d9 prog [] [] [] [] 70=some (.rq (.cells 16 V0) (.rq (.cells 16 V1)
(.pm f70 1 1 [V3]
(.pm f70 1 2 [(.ag V0),V5]
(.rq (.bool V6) (.br V6
(.pm f70 1 5 [V4]
(.pm f70 1 6 [(.ag V1),V7]
(.rq (.bool V8) (.br V8
(.ri V2
(.ret [(.io .eql V2 (.ki 0))])) (.ret [(.k (.bool false))]))))) (.ret [(.k (.bool false))]))))))):=aB
def d8g:d9 prog [4,5,6,7] [] [] [⟨2,[0,1,0,4,0,16,0,3,143,447,1023],rDx 11 6000505050,rDx 11 101010,rAx 0 9,[9,10]⟩] 22=some (.rq (.cells 12 V0) (.pub 38 V0
(.rq (.cells 1 V1) (.pub 40 V1
(.rq (.cells 1 V2) (.pub 3 V2
(.rq (.cells 1 V3) (.pub 81 V3
(.ef false f22 1 0 [V4,V6,V5,V7]
(.call false 71 [V8]
(.rq (.tup 0 V9) (.rq (.tup 1 V9) (.rq (.cells 3 (.pj V9 0)) (.ret [(.cell (.pj V9 0) 0 0 noI),(.cell (.pj V9 0) 1 0 noI),(.sub (.pj V9 0) 2 1 0 noI),(.pj V9 1)])))))))))))))):=aB
def d1a:d9 prog [] [] [⟨0,6,[],[1]⟩] [⟨7,[0,1,3,7,15,0,32,96,224,0,512,0,2048,8191,16383]++rPx 4 32767++[0,589823,1703935,3932159,8388607],rDx 24 80030000025050111011110,rPx 10 0++rDx 12 101++[2,0],rAx 0 22,[22,23]⟩,⟨9,[0,0,1,5,15,31],[0,5,0,6,0,6],[0,2,0,1,0,1],[0,1,2],[3,4,5]⟩,⟨11,[0,0,0,0,12,0,60,124,124,508,1023],rDx 11 42002215050,rDx 11 3030,rAx 0 10,[10]⟩] 72=some (.pm f72 1 0 [V0]
(.call false 29 [V4]
(.pm f72 2 0 [V1]
(.ri V6
(.br (.io .lss V6 (.ki 1)) (.call false 49 [(.k (.bool true)),(.ki 2)]
(.pm f72 3 0 [V2]
(.pm f72 3 1 [V3]
(.rq (.cells 1 V8) (.rq (.cells 1 V9)
(.ef false f72 4 0 []
(.pm f72 5 0 [V1]
(.loop [(.ki 0),(.cat (.z 44) 1 (.put (.cat V8 1 (.z 81)) 1 1 V9 0 noI))]
(.ri V12
(.ri V11
(.br (.io .lss V12 V11)
(.pm f72 7 1 [V5]
(.pm f72 7 2 [V14]
(.pm f72 7 3 [V15]
(.pm f72 7 4 [V16]
(.pm f72 7 6 [V5]
(.pm f72 7 7 [V18]
(.pm f72 7 8 [V19]
(.call true 73 [V17,V20,(.cell V13 1 0 noI),(.sub V13 2 1 0 noI)]
(.rq (.tup 0 V21) (.rq (.tup 1 V21) (.rq (.tup 2 V21) (.rq (.tup 3 V21) (.rq (.cells 1 (.pj V21 2)) (.call false 54 [(.pj V21 3)]
(.rq (.cells 1 (.pj V21 0)) (.call false 53 [V5,(.pj V21 0)]
(.rq (.cells 16 V23)
(.pm f72 11 4 [V10,(.ag V23)]
(.call true 33 [(.ki 1)]
(.call true 32 [V24,V25]
(.rq (.tup 0 V26) (.rq (.tup 1 V26) (.call true 31 [(.pj V26 0),(.pj V26 1)]
(.ef false f72 11 10 [V10,(.ag V23),V27]
(.next 0 [(.io .add V12 (.ki 1)),(.cat (.sub V13 0 1 0 noI) 1 (.cat (.pj V21 0) 1 (.ag (.pj V21 2))))]))))))))))))))))))))))))) (.call false 34 [V10]
(.rq (.cells 1 V14) (.ret [(.cat V14 1 (.sub V13 1 2 0 noI))]))))))))))))))
(.pm f72 2 3 [V1]
(.ri V7
(.call false 49 [(.io .gtr V7 (.ki 200)),(.ki 2)]
(.pm f72 3 0 [V2]
(.pm f72 3 1 [V3]
(.rq (.cells 1 V9) (.rq (.cells 1 V10)
(.ef false f72 4 0 []
(.pm f72 5 0 [V1]
(.loop [(.ki 0),(.cat (.z 44) 1 (.put (.cat V9 1 (.z 81)) 1 1 V10 0 noI))]
(.ri V13
(.ri V12
(.br (.io .lss V13 V12)
(.pm f72 7 1 [V5]
(.pm f72 7 2 [V15]
(.pm f72 7 3 [V16]
(.pm f72 7 4 [V17]
(.pm f72 7 6 [V5]
(.pm f72 7 7 [V19]
(.pm f72 7 8 [V20]
(.call true 73 [V18,V21,(.cell V14 1 0 noI),(.sub V14 2 1 0 noI)]
(.rq (.tup 0 V22) (.rq (.tup 1 V22) (.rq (.tup 2 V22) (.rq (.tup 3 V22) (.rq (.cells 1 (.pj V22 2)) (.call false 54 [(.pj V22 3)]
(.rq (.cells 1 (.pj V22 0)) (.call false 53 [V5,(.pj V22 0)]
(.rq (.cells 16 V24)
(.pm f72 11 4 [V11,(.ag V24)]
(.call true 33 [(.ki 1)]
(.call true 32 [V25,V26]
(.rq (.tup 0 V27) (.rq (.tup 1 V27) (.call true 31 [(.pj V27 0),(.pj V27 1)]
(.ef false f72 11 10 [V11,(.ag V24),V28]
(.next 0 [(.io .add V13 (.ki 1)),(.cat (.sub V14 0 1 0 noI) 1 (.cat (.pj V22 0) 1 (.ag (.pj V22 2))))]))))))))))))))))))))))))) (.call false 34 [V11]
(.rq (.cells 1 V15) (.ret [(.cat V15 1 (.sub V14 1 2 0 noI))]))))))))))))))))))))):=aB
def d8h:d9 prog [] [] [⟨0,4,[],[]⟩] [⟨6,[0,0,3,7,0,0,48,112,255],rDx 9 111001100,rPx 9 0,rAx 0 9,[]⟩] 67=some (.pm f67 1 1 [V0]
(.pm f67 1 3 [V1]
(.ri V2
(.ri V3
(.br (.io .neq V2 V3) (.ret [(.k (.bool false))])
(.pm f67 3 1 [V0]
(.loop [(.k (.bool false)),(.ki 0)]
(.ri V6
(.ri V4
(.br (.io .lss V6 V4)
(.pm f67 6 2 [V0,V6]
(.pm f67 6 3 [V7]
(.pm f67 6 6 [V1,V6]
(.pm f67 6 7 [V9]
(.pm f67 6 8 [V8,V10]
(.rq (.bool V11) (.br V11
(.ret [(.k (.bool false))]) (.next 0 [V5,(.io .add V6 (.ki 1))])))))))) (.ret [(.k (.bool true))]))))))))))):=aB
open Go.GS Go.RZ Go.WD
section
variable {H B:PH} {u v w e:Value} {m:List MaT}
def Yc {a b:Int} {r:Rat} (p0: -9223372036854775808<=a) (p1:a<9223372036854775808) (q0: -9223372036854775808<=b) (q1:b<9223372036854775808) (hb:b≠0) (hr:Rat.divInt a b=r) (hg:Rg r):j4 prog 12 [ii a,ii b] H (shR r):=by
 refine g5 mixed d7Z ?_;have e:Gi a b= .tuple #[shR r,ii 0]:=by unfold Gi;rw[if_neg hb,hr,Sj hg];rfl
 refine i8 ((show j4 prog 59 [ii a,ii b] H (.tuple #[shR r,ii 0])from(yt a b p0 p1 q0 q1).mono fun u H' h=>⟨h.1,h.2.trans e⟩)) rfl fun H1 l1=> ?_;refine g7 (g7 ?_);refine b4 (j7 _ _) ?_;exact d4 rfl ⟨l1,rfl⟩
def WP {o:Oper} {x y:Operand} (q:MaT) (ho:o.op= .binOp .neq 63 x y 63) (hx:e8 [x,y] [veM q,veM q] x=veM q) (hy:e8 [x,y] [veM q,veM q] y=veM q):Yld prog o [veM q,veM q] (.bool false):=fun w=>by
 have qE:o.op.operands.toList=[x,y]:=by simp[ho,Op.operands]
 rw[qE];have h1:=run_neq_struct (P:=prog) w 63 (shw q.1.1++shw q.1.2) (shw q.1.1++shw q.1.2);have h2:=run_eqGuard_agg (P:=prog) w .neq 63 x y (shw q.1.1++shw q.1.2) (shw q.1.1++shw q.1.2) aB;have h3:(Op.equalIn 10000 63 (.agg (shw q.1.1++shw q.1.2)) (.agg (shw q.1.1++shw q.1.2))).run prog w= .ok true w:=by
  rw[run_equalIn_struct w 9999 _ _ _ aB aB,e1n];have e:=fun r w=>DU r 9996 w;simp[Op.eqFields,e4N,e4Q,e4L,e4M,e4O,e4P,d7D,e1o,e]
 rw[h3]at h1;have e1:veM q= .agg (shw q.1.1++shw q.1.2):=rfl;simp only[execOp,ho,hx,hy,Sem.run_bind];rw[e1];simp only[h2,h1,Result.andThen_ok];rfl
def d1b (hu:SE H 32 ceM u m) (hv:SE H 32 ceM v m):Asks prog 67 [u,v] H (.bool true):=by
 refine g5 mixed d8h ?_;have hl:=hu.len;refine m9 el_mass hu ?_;refine m9 el_mass hv ?_;refine b9 (b9 ?_);refine i7 (Py (a:=((m.length:Nat):Int)) (b:=((m.length:Nat):Int)) rfl) ?_;refine m9 el_mass hu ?_;refine Df (α:=Nat) (fun i=>[.bool false,ii (i:Nat)]) (fun i=>i<=m.length) (fun i=>m.length-i) (0) rfl ((bK _)) fun i hQ=> ?_;refine b9 (b9 ?_);refine g6 (b:=decide (((i:Nat):Int)<(m.length:Nat))) rfl (fun h=> ?_) (fun h=> ?_)
 ·replace h:=oDt h;have qG:i<m.length:=aA;obtain⟨y,hy,_⟩:=q8 qG;refine n9 el_mass hu hy fun _=> ?_;refine n9 el_mass hv hy fun _=> ?_;refine j8 ((WP y rfl rfl rfl).rds _) rfl ?_;refine b9 ?_;refine i7 rfl ?_;exact⟨(i+1),by show m.length-(i+1)<m.length-i;omega,(i0 rfl (j5 rfl aA)),⟨qG,rfl⟩⟩
 ·replace h:=oDf h;exact d4 rfl ⟨rfl,rfl⟩
def b9B (hu:SE H 32 ceM u m) (hv:SE H 32 ceM v m):Asks prog 16 [u,v] H (.bool true):=by
 refine g5 mixed c6n ?_;have hl:=hu.len;refine m9 el_mass hu ?_;refine m9 el_mass hv ?_;refine b9 (b9 ?_);refine i7 (Py (a:=((m.length:Nat):Int)) (b:=((m.length:Nat):Int)) rfl) ?_;refine Df (α:=Nat) (fun i=>[.bool false,ii (i:Nat)]) (fun i=>i<=m.length) (fun i=>m.length-i) (0) rfl ((bK _)) fun i hQ=> ?_;refine m9 el_mass hu ?_;refine b9 (b9 ?_);refine g6 (b:=decide (((i:Nat):Int)<(m.length:Nat))) rfl (fun h=> ?_) (fun h=> ?_)
 ·replace h:=oDt h;have qG:i<m.length:=aA;obtain⟨y,hy,_⟩:=q8 qG;refine n9 el_mass hu hy fun _=> ?_;refine n9 el_mass hv hy fun _=> ?_;refine j8 ((WP y rfl rfl rfl).rds _) rfl ?_;refine b9 ?_;refine i7 rfl ?_;exact⟨(i+1),by show m.length-(i+1)<m.length-i;omega,(i0 rfl (j5 rfl aA)),⟨qG,rfl⟩⟩
 ·replace h:=oDf h;exact d4 rfl ⟨rfl,rfl⟩
def d8i:Sc prog 43:=⟨aB,aB,aB⟩
def WQ (hu:SE H 32 ceM u m):Con prog 18 [u] H fun r H'=>Pl H H'/\∃c,r= .func (.func 66) #[] #[.pointer (some ⟨c,0,none⟩)]/\H' c=some (.cells #[u] 43 (0,0)):=by
 refine g5 mixed d8c ?_;refine b4 (hu.one) ?_;refine o0 (cs:= #[u]) hu.cells fun c hc=> ?_;have lc:=PH.le_put hc (.cells #[u] 43 (0,0));refine y8 (Ai (vs:=[.pointer (some ⟨c,0,none⟩)]) rfl rfl) rfl ?_;exact d4 rfl ⟨lc,c,rfl,PH.put_self _ _ _⟩
def EY {c:Nat} (hc:H c=some (.cells #[v] 43 (0,0))) (hu:SE H 32 ceM u m) (hv:SE H 32 ceM v m):Asks prog 66 [u,ii 0,.pointer (some ⟨c,0,none⟩)] H (.bool true):=by
 refine g5 mixed d0X ?_;refine b9 ?_;refine Aq rfl ?_;refine g9 (u:=v) d8i rfl rfl hc rfl rfl ?_;refine j9 (d1b hu hv) rfl ?_;exact d4 rfl ⟨rfl,rfl⟩
def Ib (r:Rat):Value.agg (shR r).cells=shR r:=by rw[Jb,Di]
def WR {a b:Rat}:Con prog 20 [shR a,shR b] H fun r H'=>Pl H H'/\∃c d,r= .func (.func 70) #[] #[.pointer (some ⟨c,0,none⟩),.pointer (some ⟨d,0,none⟩)]/\H' c=some (.cells (shw a) 53 (0,0))/\H' d=some (.cells (shw b) 53 (0,0)):=by
 refine g5 mixed d8f ?_;refine b4 (j7 _ _) ?_;refine o0 (cs:=shw a) (Jb a) fun c hc=> ?_;have lc:=PH.le_put hc (.cells (shw a) 53 (0,0));refine b4 (j7 _ _) ?_;refine o0 (cs:=shw b) (Jb b) fun d hd=> ?_;have ld:=PH.le_put hd (.cells (shw b) 53 (0,0));refine y8 (Ai (vs:=[.pointer (some ⟨c,0,none⟩),.pointer (some ⟨d,0,none⟩)]) rfl rfl) rfl ?_;exact d4 rfl ⟨lc.trans ld,c,d,rfl,ld _ _ (PH.put_self _ _ _),PH.put_self _ _ _⟩
def WS (r:Rat):Value.agg (shw r).toList.toArray=shR r:=by rw[Di]
def WT {c d:Nat} {a b:Rat} (hc:H c=some (.cells (shw a) 53 (0,0))) (hd:H d=some (.cells (shw b) 53 (0,0))):Asks prog 70 [shR a,shR b,ii 0,.pointer (some ⟨c,0,none⟩),.pointer (some ⟨d,0,none⟩)] H (.bool true):=by
 refine g5 mixed d0Z ?_;have hs:∀r:Rat,(shw r).toList.length=16:=fun r=>by rw[bA,Az]
 refine b4 (j7 _ _) ?_;refine b4 (j7 _ _) ?_;refine x5 (vs:=(shw a).toList) (Xi a) rfl rfl hc (by rw[cS,eB]) (by rw[hs,Az];decide) rfl ?_;rw[WS];refine j8 ((qk a rfl rfl rfl).rds _) (i0 (Ib a) rfl) ?_;refine b9 ?_;refine Aq rfl ?_;refine x5 (vs:=(shw b).toList) (Xi b) rfl rfl hd (by rw[cS,eB]) (by rw[hs,Az];decide) rfl ?_;rw[WS];refine j8 ((qk b rfl rfl rfl).rds _) (i0 (Ib b) rfl) ?_;refine b9 ?_;refine Aq rfl ?_;refine b9 ?_;exact d4 rfl ⟨rfl,rfl⟩
end
section
variable {dm:Dm} {H B:PH} {n k ms lv who:Nat} {es:List (Nat×Nat)} {us:List Un} {w rw u:Value} {lo hi:Int} {p:List Int}
def WU (hM:StM H w rw es us) (hS:StOk dm n k ms lv who es us lo hi) (hz:ms=1->s5 us n=true) (hp:SI H u p) (ho:PlOk n k p):j4 prog 10 [stV dm n k ms lv who w rw lo hi,u] H (.tuple #[shR (An dm n es us k ms lv who p),.bool true]):=by
 refine g5 mixed d0W ?_;refine b4 (En (t8 hM.gr) hM.ro.one) ?_;refine i8 ((TY hM.gr hS.gv hM.ro hS.rv hp ho hS.hk (hS.mok hz))) rfl fun H1 l1=> ?_;refine g7 (g7 ?_);refine b4 (j7 _ _) ?_;refine b9 ?_;exact d4 rfl ⟨l1,rfl⟩
end
def uc4:List UC:=[⟨[97],10,(none,0,0),(none,0,0),(none,0,0),false⟩,⟨[98],10,(none,0,0),(none,0,0),(none,0,0),false⟩,⟨[99],10,(none,0,0),(none,0,0),(none,0,0),false⟩,⟨[100],10,(none,0,0),(none,0,0),(none,0,0),false⟩]
def e4Y:j3 prog 156= .agg #[ii 0,ii 0]:=aB
def e4Z:j3 prog 157= .agg #[st [],st [],st [],st []]:=aB
def e1G:j3 prog 36= .agg #[ii 0,ii 0,ii 0,.slice none 0 0]:=aB
def d8j:j3 prog 39= .slice none 0 0:=aB
def d8k:j3 prog 4= .bool false:=aB
def e1H:j3 prog 3=ii 0:=aB
section
variable {ρ:List Value} {x y z:SV} {s:Slc}
def e3F:D prog ρ (.z 157)= .agg [st [],st [],st [],st []].toArray:=e4Z
def e3G:D prog ρ (.z 36)= .agg [ii 0,ii 0,ii 0,.slice none 0 0].toArray:=e1G
def EZ:D prog ρ (.z 39)= .slice none 0 0:=d8j
def e3H:D prog ρ (.z 4)= .bool false:=d8k
def FB:D prog ρ (.z 3)=ii 0:=e1H
def FC {a b:Nat} (hx:D prog ρ x=ii (a:Nat)) (hy:D prog ρ y=ii (b:Nat)):D prog ρ (.put (.put (.z 156) 0 1 x 0 noI) 1 1 y 0 noI)=ev2 (a,b):=
 Np (l:=[ii (a:Nat),ii 0]) (Np (l:=[ii 0,ii 0]) e4Y hx rfl) hy rfl
def WV {i:Nat} {uc:UC} (hx:D prog ρ x=ii (i:Nat)) (hu:uc4[i]? =some uc):D prog ρ (.cell (.put (.put (.put (.put (.z 157) 0 1 (.k (.string ⟨#[97]⟩)) 0 noI) 1 1 (.k (.string ⟨#[98]⟩)) 0 noI) 2 1 (.k (.string ⟨#[99]⟩)) 0 noI) 3 1 (.k (.string ⟨#[100]⟩)) 0 noI) 0 1 x)=st uc.name:=by
 have h:=Np (P:=prog) (ρ:=ρ) (o:=3) (n:=1) (l:=[st [97],st [98],st [99],st []]) (y:= .k (.string ⟨#[100]⟩)) (Np (o:=2) (n:=1) (l:=[st [97],st [98],st [],st []]) (y:= .k (.string ⟨#[99]⟩)) (Np (o:=1) (n:=1) (l:=[st [97],st [],st [],st []]) (y:= .k (.string ⟨#[98]⟩)) (Np (o:=0) (n:=1) (l:=[st [],st [],st [],st []]) (y:= .k (.string ⟨#[97]⟩)) e3F rfl rfl) rfl rfl) rfl rfl) rfl rfl;show(D prog ρ _).cells.getD (0+1*t6 (D prog ρ x)) undef=_;rw[h,hx]
 match i,hu with
 |0,hu=>cases hu;rfl
 |1,hu=>cases hu;rfl
 |2,hu=>cases hu;rfl
 |3,hu=>cases hu;rfl
def e3J {uc:UC} {i:Nat} (hx:D prog ρ x=st uc.name) (hu:uc4[i]? =some uc):D prog ρ (.put (.cat x 1 (.cat (.z 3) 1 (.cat (.z 39) 1 (.cat (.z 39) 1 (.cat (.z 39) 1 (.z 4)))))) 1 1 (.k (.int .i64 10)) 0 noI)=veU uc:=by
 have h:=Np (P:=prog) (ρ:=ρ) (o:=1) (n:=1) (y:= .k (.int .i64 10)) (Bt (n:=1) hx rfl (Bt (n:=1) FB rfl (Bt (n:=1) EZ rfl (Bt (n:=1) EZ rfl (qd (n:=1) EZ rfl e3H rfl))))) rfl rfl;rw[h]
 match i,hu with
 |0,hu=>cases hu;rfl
 |1,hu=>cases hu;rfl
 |2,hu=>cases hu;rfl
 |3,hu=>cases hu;rfl
def e3K (hx:D prog ρ x=vs s):D prog ρ (.cat (.cat (.k (.int .i64 4)) 1 x) 2 (.cat (.z 36) 4 (.cat (.k (.int .i64 2)) 1 (.cat (.k (.int .i64 10)) 1 (.cat (.k (.int .i64 30)) 1 (.cat (.k (.int .i64 2)) 1 (.cat (.z 3) 1 (.z 3))))))))=stV dm0 4 2 2 0 0 (vs s) (.slice none 0 0) 10 30:=
 Kr (n:=2) (qd (n:=1) (v:=ii 4) rfl rfl hx rfl) (Kr (n:=4) (l:=[ii 0,ii 0,ii 0,.slice none 0 0]) e3G (Bt (n:=1) (v:=ii 2) rfl rfl (Bt (n:=1) (v:=ii 10) rfl rfl (Bt (n:=1) (v:=ii 30) rfl rfl (Bt (n:=1) (v:=ii 2) rfl rfl (qd (n:=1) FB rfl FB rfl))))))
end
section
variable {H:PH}
def e5a {u:Value} (h:SE H 6 ceU u uc4):RoR H u us4:=by
 refine⟨uc4,h,rfl,fun i a x h1 h2=> ?_⟩;have hn:SI H (vs (none,0,0)) []:=SE.nil _ _ _
 match i,h1,h2 with
 |0,h1,h2=>cases h1;cases h2;exact⟨rfl,rfl,rfl,hn,hn,hn⟩
 |1,h1,h2=>cases h1;cases h2;exact⟨rfl,rfl,rfl,hn,hn,hn⟩
 |2,h1,h2=>cases h1;cases h2;exact⟨rfl,rfl,rfl,hn,hn,hn⟩
 |3,h1,h2=>cases h1;cases h2;exact⟨rfl,rfl,rfl,hn,hn,hn⟩
 |i+4,h1,h2=>cases h1
set_option maxHeartbeats 1000000 in
def d1c (hT:Tb H):Con prog 17 [] H fun r H'=>Pl H H'/\∃w rw,r=stV dm0 4 2 2 0 0 w rw 10 30/\StM H' w rw es4 us4:=by
 refine g5 mixed d8b ?_;refine Gj el_edge (l:=es4) (vs:=[ev2 (0,1),ev2 (1,2),ev2 (2,3)]) rfl aC aC rfl rfl (By (FC (a:=0) (b:=1) rfl rfl) (FC (a:=1) (b:=2) rfl rfl) (FC (a:=2) (b:=3) rfl rfl)) fun v H1 l1 o1 _=> ?_;simp only[cA,nA];obtain⟨sa,rfl⟩:=Lx o1.se;refine b4 o1.se.one ?_;refine r7 (α:=Nat×Value) (fun⟨i,u⟩=>[ii (i:Nat),stV dm0 4 2 2 0 0 (vs sa) u 10 30]) (fun⟨i,u⟩=>fun K=>i<=4/\Pl H1 K/\SO H1 K 90 6 ceU u (uc4.take i)) (fun⟨i,u⟩=>4-i) ((0,.slice none 0 0)) (i0 rfl (e3K rfl)) (⟨bK _,Pl.refl _,SO.nil _ _ _ _ _⟩) fun⟨i,u⟩ K hQ=> ?_;simp only[cA,nA];obtain⟨hi1,lK,oK⟩:=hQ;refine b9 ?_;refine g6 (b:=decide (((i:Nat):Int)<4)) rfl (fun qL=> ?_) (fun qL=> ?_)
 ·replace qL:=oDt qL;have tJ:i<4:=aA;refine b4 ⟨_,_,rfl⟩ ?_;refine b4 ⟨by show(0:Int)<=(i:Nat);omega,by show((i:Nat):Int)<4;omega⟩ ?_;obtain⟨uy,huy,_⟩:=q8 (l:=uc4) (show i<uc4.length from tJ);refine b4 (by show(D prog _ (.cell _ 0 1 _)).cells.size=1/\_;rw[WV (i:=i) rfl huy];exact st_one _) ?_;refine Cf Cb rfl rfl rfl aF aF lK oK (by rw[bH];omega) (p6 (e3J (i:=i) (WV (i:=i) rfl huy) huy)) aF rfl fun q u' K3 l3 o3=> ?_;simp only[cA,nA];have sZ:uc4.take (i+1)=uc4.take i++[uy]:=by rw[dE,huy];rfl
  rw[<-sZ]at o3;refine b4 (o3.se.one) ?_;exact⟨(i+1,u'),by show 4-(i+1)<4-i;omega,(i0 (j5 rfl aA) (Kr (l:=[ii (4:Nat),vs sa,ii (0:Nat),ii (0:Nat),ii (0:Nat)]) (Cj (l:=stC dm0 4 2 2 0 0 (vs sa) u 10 30) rfl) (Bt rfl o3.se.cells (Cj (l:=stC dm0 4 2 2 0 0 (vs sa) u 10 30) rfl)))),⟨by show i+1<=4;omega,l3,o3⟩⟩
 ·replace qL:=oDf qL;have hi4:i=4:=aA;subst hi4;exact d4 rfl ⟨l1.trans lK,vs sa,u,rfl,hT.mono (l1.trans lK),o1.se.mono lK,e5a oK.se⟩
end
section
variable {dm:Dm} {H:PH} {n k ms lv who:Nat} {es:List (Nat×Nat)} {us:List Un} {w rw:Value} {lo hi:Int}
set_option maxHeartbeats 1000000 in
def d1d (hM:StM H w rw es us) (hv:RoV dm n us):Con prog 14 [stV dm n k ms lv who w rw lo hi] H fun r H'=>Pl H H'/\∃wts,r=bv wts lo hi (k:Nat)/\SI H' wts (wlU us n):=by
 refine g5 mixed d8a ?_;obtain⟨ul,sW,qC,hur⟩:=id hM.ro;have sM:=hv.l64;have pY:=hv.le;refine b4 (En (t8 hM.gr) hM.ro.one) ?_;refine b4 (by show(D prog _ (.cell _ 7 0 noI)).cells.size=1/\j0 (D prog _ (.cell _ 7 0 noI)).cells;rw[Gv (l:=stC dm n k ms lv who w rw lo hi) rfl];exact el_int.vcells _) ?_;refine b4 (by show(D prog _ (.cell _ 8 0 noI)).cells.size=1/\j0 (D prog _ (.cell _ 8 0 noI)).cells;rw[Gv (l:=stC dm n k ms lv who w rw lo hi) rfl];exact el_int.vcells _) ?_;refine b4 (by show(D prog _ (.cell _ 6 0 noI)).cells.size=1/\j0 (D prog _ (.cell _ 6 0 noI)).cells;rw[Gv (l:=stC dm n k ms lv who w rw lo hi) rfl];exact el_int.vcells _) ?_;refine b4 (DZ (lo:=lo) (hi:=hi) (k:=k) (Gv (l:=stC dm n k ms lv who w rw lo hi) rfl) (Gv (l:=stC dm n k ms lv who w rw lo hi) rfl) (Gv (l:=stC dm n k ms lv who w rw lo hi) rfl)) ?_;refine Dc Cb rfl rfl sW (p6 (Gv (l:=stC dm n k ms lv who w rw lo hi) rfl)) ?_;refine r7 (α:=Nat×Value) (fun⟨i,wv⟩=>[ii (i:Nat),bv wv lo hi (k:Nat)]) (fun⟨i,wv⟩=>fun K=>i<=us.length/\Pl H K/\SO H K 3 1 (fun z:Int=>[ii z]) wv (wlU us (min i n))) (fun⟨i,wv⟩=>us.length-i) ((0,.slice none 0 0)) (i0 rfl (DY (lo:=lo) (hi:=hi) (k:=k) (Gv (l:=stC dm n k ms lv who w rw lo hi) rfl) (Gv (l:=stC dm n k ms lv who w rw lo hi) rfl) (Gv (l:=stC dm n k ms lv who w rw lo hi) rfl))) (⟨bK _,Pl.refl _,by rw[Nat.zero_min];exact SO.nil _ _ _ _ _⟩) fun⟨i,wv⟩ K hQ=> ?_;obtain⟨hi1,lK,oK⟩:=hQ;refine b9 (b9 ?_);refine g6 (b:=decide (((i:Nat):Int)<(ul.length:Nat))) rfl (fun qL=> ?_) (fun qL=> ?_)
 ·replace qL:=oDt qL;obtain⟨uy,huy,_⟩:=q8 (show i<ul.length by omega);obtain⟨ux,hux,_⟩:=q8 (show i<us.length by omega);have rT:=hur i uy ux huy hux;have hpp:=rT.ppl;have rG:uy.wat=decide (n<=i):=rT.wat.trans (hv.wat i ux hux);refine Ac Cb rfl rfl rfl rfl aF (sW.mono lK) huy (i0 (Gv (l:=stC dm n k ms lv who w rw lo hi) rfl) rfl) aF fun _=> ?_;refine b4 (Gn _) ?_;refine b9 ?_;refine g6 (b:=(!uy.wat)) rfl (fun hw=> ?_) (fun hw=> ?_)
  ·skip
   have wZ:i<n:=by rw[rG]at hw;simpa using hw
   refine Cf el_int rfl rfl rfl aF aF lK oK (by unfold wlU;rw[aR,bH];omega) (show _=[ii uy.ppl]from rfl) aF rfl fun q2 w3 K3 l3 o3=> ?_;rw[cD aA,hpp,<-DX hux]at o3;refine b4 (o3.se.one) ?_;exact⟨(i+1,w3),by show us.length-(i+1)<us.length-i;omega,(i0 (j5 rfl aA) (Bt rfl o3.se.cells (Cj (l:=[wv,ii lo,ii hi,ii (k:Nat)]) rfl))),⟨by show i+1<=us.length;omega,l3,by rw[cD aA];exact o3⟩⟩
  ·skip
   have wZ:n<=i:=by rw[rG]at hw;simpa using hw
   exact⟨(i+1,wv),by show us.length-(i+1)<us.length-i;omega,(i0 (j5 rfl aA) rfl),⟨by show i+1<=us.length;omega,lK,by show SO H K _ 1 _ wv (wlU us (min (i+1) n));rw[jX aA];rw[jX wZ]at oK;exact oK⟩⟩
 ·replace qL:=oDf qL;have hie:n<=i:=aA;rw[jX hie]at oK;exact d4 rfl ⟨lK,wv,rfl,oK.se⟩
end
def c6o:n8 prog 72=true:=aB
def WW:Hu prog 71 122 160 45 20 ((prog.funcs[71]?).getD default) ((prog.funcs[122]?).getD default) (Iu ((prog.funcs[122]?).getD default).body):=⟨aB,aB,aB,aB,aB,aB,aB,aB,aB,aB⟩
def e5b:CcT prog 160 45 (.agg #[.slice none 0 0,.slice none 0 0,.int .u64 0]):=⟨aB,aB,aB,aB,aB,aB,aB,fun h=>absurd (show r8 prog 160=true by kernel_rfl) (by rw[h];decide)⟩
def e1K:Iu ((prog.funcs[122]?).getD default).body=dw ((prog.funcs[122]?).getD default) 20 168 4 160 45 (.alloc 160) (.load 160 (.tmp 5)) (.region 4 #[mkO (opr f122 4 0) (some 16) (.move (.tmp 2)),mkO (opr f122 4 1) none (.panic (.tmp 16))] false):=aB
def e1L {e:Int}:qj prog 160 45 168 4 ((prog.funcs[122]?).getD default) (.agg #[.slice none 0 0,.slice none 0 0,.int .u64 0]) e (Fe e) 20 (.alloc 160) (.load 160 (.tmp 5)) where
 ifc:=⟨_,_,rfl⟩
 asr:=fun w=>by kernel_rfl
 zB:=aB
 hB:=aB
 cB:=aB
 fB:=fun w k=>by kernel_rfl
 zs:=aB
 zo:=fun c hc=>by simp[Value.cells]at hc;rcases hc with rfl|rfl<;>rfl
 hT:=aB
 E1:=aB
 aE:=aB
 hE:=aB
 nb:=fun w=>by kernel_rfl
 z5:=WM aB aB aB aB
 d5:=fun c h=>by cases h
 ord:=aB
def e1M {e:Int}:bf prog 122 160 45 (.agg #[.slice none 0 0,.slice none 0 0,.int .u64 0]) (Fe e) e:=by
 have h:=WW;rw[e1K]at h;exact EX mixed h e1L
def d8n:(Value.agg #[.slice none 0 0,.slice none 0 0,.int .u64 0]).cells.size=3/\j0 (Value.agg #[.slice none 0 0,.slice none 0 0,.int .u64 0]).cells:=⟨rfl,fun c hc=>by simp[Value.cells]at hc;rcases hc with rfl|rfl<;>rfl⟩
section
variable {dm:Dm} {H B:PH} {n k ms lv who:Nat} {es:List (Nat×Nat)} {us:List Un} {w rw u ch:Value} {lo hi:Int} {l:List Int}
def b9C {a s c d:Nat} (ha:H a=some (.cells (stC dm n k ms lv who w rw lo hi).toArray 38 (0,0))) (hs:H s=some (.cells #[ii 201] 3 (0,0))) (hM:StM H w rw es us) (hS:StOk dm n k ms lv who es us lo hi) (hz:ms=1->s5 us n=true):Gg prog 72 [.pointer (some ⟨a,0,none⟩),.pointer (some ⟨s,0,none⟩),.pointer (some ⟨c,0,none⟩),.pointer (some ⟨d,0,none⟩)] H (fun _ _=>False) fun x H'=>Pl H H'/\x=Fe 2:=by
 refine Lc mixed d1a aB rfl ?_;refine x5 (vs:=(stC dm n k ms lv who w rw lo hi)) Nj rfl rfl ha rfl (show 0+12<=12 by decide) rfl ?_;refine f0 (Uk hM hS hz) rfl ?_;rintro _ H1 ⟨l1,b,wts,rfl,hW⟩;refine nmI ?_;refine g9 (u:=ii 201) sc_int rfl rfl (l1 _ _ hs) rfl rfl ?_;refine b9 ?_;refine i7 rfl ?_;refine g9 (u:=ii 201) sc_int rfl rfl (l1 _ _ hs) rfl rfl ?_;refine b9 ?_;exact Og (qi (e:=2) aC) rfl (fun _ _ h=>h.elim) ((fun x H' h=>⟨l1.trans h.1,h.2⟩))
def b6a (hu:SI H u l) (hch:ch.cells.size=1/\j0 ch.cells) (hM:StM H w rw es us) (hS:StOk dm n k ms lv who es us lo hi) (hz:ms=1->s5 us n=true):Con prog 22 [stV dm n k ms lv who w rw lo hi,u,ii 201,ch] H fun r H'=>Pl H H'/\∃x y z,r= .tuple #[x,y,z,ii 2]/\z.cells.size=1/\j0 z.cells:=by
 refine g5 mixed d8g ?_;refine b4 (En (t8 hM.gr) hM.ro.one) ?_;refine o0 (cs:=(stC dm n k ms lv who w rw lo hi).toArray) rfl fun a ha=> ?_;simp only[cA,nA];have la:=PH.le_put ha (.cells (stC dm n k ms lv who w rw lo hi).toArray 38 (0,0));refine b4 (hu.one) ?_;refine o0 (cs:= #[u]) hu.cells fun c hc=> ?_;simp only[cA,nA];have lc:=PH.le_put hc (.cells #[u] 40 (0,0));refine b4 (el_int.vcells _) ?_;refine o0 (cs:= #[ii 201]) rfl fun s hs=> ?_;simp only[cA,nA];have ls:=PH.le_put hs (.cells #[ii 201] 3 (0,0));refine b4 hch ?_;refine o0 (cs:=ch.cells) rfl fun d hd=> ?_;simp only[cA,nA];have ld:=PH.le_put hd (.cells ch.cells 81 (0,0));have hA:=ld _ _ (ls _ _ (lc _ _ (PH.put_self H a (.cells (stC dm n k ms lv who w rw lo hi).toArray 38 (0,0)))));have hB:=ld _ _ (PH.put_self _ s (.cells #[ii 201] 3 (0,0)));have l04:=la.trans (lc.trans (ls.trans ld));refine y8 (Ai (vs:=[.pointer (some ⟨a,0,none⟩),.pointer (some ⟨s,0,none⟩),.pointer (some ⟨c,0,none⟩),.pointer (some ⟨d,0,none⟩)]) rfl rfl) rfl ?_;simp only[cA,nA];refine f0 (bm (caps:=[.pointer (some ⟨a,0,none⟩),.pointer (some ⟨s,0,none⟩),.pointer (some ⟨c,0,none⟩),.pointer (some ⟨d,0,none⟩)]) (V:=fun _ _=>False) (XE:=fun e H'=>e=2/\Pl H H') mixed WW e5b c6o (b9C hA hB (hM.mono l04) hS hz) (fun _ _ h=>h.elim) (fun x H' hx=>⟨2,hx.2 ▸ e1M,rfl,l04.trans hx.1⟩)) rfl ?_;rintro _ H4 hX;refine nmI ?_;simp only[cA,nA];rcases hX with⟨_,h,_⟩|⟨e,⟨rfl,l4⟩,rfl⟩
 ·exact h.elim
 have hrd:rdV prog 160 (Value.agg #[.slice none 0 0,.slice none 0 0,.int .u64 0]).cells= .agg #[.slice none 0 0,.slice none 0 0,.int .u64 0]:=by unfold rdV;rw[show r8 prog 160=true by kernel_rfl];rfl
 rw[hrd];refine g7 (g7 ?_);refine b4 d8n ?_;exact d4 rfl ⟨l4,.slice none 0 0,.slice none 0 0,.agg #[.int .u64 0],rfl,rfl,fun c hc=>by simp[Value.cells]at hc;subst hc;rfl⟩
end
def e1N:Iu ((prog.funcs[98]?).getD default).body=dw ((prog.funcs[98]?).getD default) 20 168 4 124 45 (.alloc 124) (.load 124 (.tmp 5)) (.region 4 #[mkO (opr f98 4 0) (some 16) (.move (.tmp 2)),mkO (opr f98 4 1) none (.panic (.tmp 16))] false):=aB
def FD (n:Nat):j0 (Value.agg (eV n (.int .u64 0))).cells:=fun c hc=>by
 simp[Value.cells]at hc;rw[hc.2];rfl
def e1O {e:Int}:qj prog 124 45 168 4 ((prog.funcs[98]?).getD default) (.agg (eV 32 (.int .u64 0))) e (Fe e) 20 (.alloc 124) (.load 124 (.tmp 5)) where
 ifc:=⟨_,_,rfl⟩
 asr:=fun w=>by kernel_rfl
 zB:=aB
 hB:=aB
 cB:=aB
 fB:=fun w k=>by kernel_rfl
 zs:=aB
 zo:=FD 32
 hT:=aB
 E1:=aB
 aE:=aB
 hE:=aB
 nb:=fun w=>by kernel_rfl
 z5:=WM aB aB aB aB
 d5:=fun c h=>by cases h
 ord:=aB
def e1P {e:Int}:bf prog 98 124 45 (.agg (eV 32 (.int .u64 0))) (Fe e) e:=by
 have h:=EG;rw[e1N]at h;exact EX mixed h e1O
def zSh:Value:= .agg (eV 16 (.int .u64 0))
def WX:zSh.cells.size=16/\j0 zSh.cells:=⟨rfl,FD 16⟩
def WY {ρ:List Value} {x:SV} {o:Nat} (hx:(D prog ρ x).cells=eV 32 (.int .u64 0)) (ho:o+16<=32):D prog ρ (.sub x o 16 0 noI)=zSh:=by
 show Value.agg ((D prog ρ x).cells.extract (o+0*t6 (D prog ρ noI)) (o+0*t6 (D prog ρ noI)+16))=_;rw[hx,bV,cJ,Array.extract_replicate,show min (o+16) 32-o=16 by omega];rfl
section
variable {dm:Dm} {H B:PH} {n k ms lv who:Nat} {es:List (Nat×Nat)} {us:List Un} {w rw wts:Value} {lo hi:Int} {b:Nat}
def c6q (hW:Wo dm H b n k ms lv who w rw es us lo hi wts) (hS:StOk dm n k ms lv who es us lo hi) (hp:p7 n k es us lo hi=0):Gg prog 30 [.pointer (some ⟨b,0,none⟩)] H (fun _ _=>False) fun x H'=>Pl H H'/\x=Fe 4:=by
 refine Lc mixed UE aB rfl ?_;refine b4 (Uc rfl rfl) ?_;refine o0 (cs:= #[.pointer (some ⟨b,0,none⟩)]) rfl fun c hc=> ?_;simp only[cA,nA];have lc:=PH.le_put hc (.cells #[.pointer (some ⟨b,0,none⟩)] 94 (0,0));have vF:=PH.put_self H c (.cells #[.pointer (some ⟨b,0,none⟩)] 94 (0,0));generalize H.put c (.cells #[.pointer (some ⟨b,0,none⟩)] 94 (0,0))=H1 at lc vF⊢;have sO:=hW.mono lc;refine g9 cw rfl rfl vF rfl rfl ?_;simp only[cA,nA];refine j6 ?_;simp only[cA,nA];refine g8 Cd ?_;simp only[cA,nA];refine g8 Xn ?_;simp only[cA,nA];refine x5 (vs:=[ii (n:Nat),w]) Qg rfl rfl sO.bk rfl (show 0+0+0+2<=17 by decide) rfl ?_;simp only[cA,nA];refine g9 cw rfl rfl vF rfl rfl ?_;simp only[cA,nA];refine j6 ?_;simp only[cA,nA];refine g8 Hy ?_;simp only[cA,nA];refine x5 (vs:=[wts,ii lo,ii hi,ii (k:Nat)]) Xq rfl rfl sO.bk rfl (show 0+12+4<=17 by decide) rfl ?_;simp only[cA,nA];refine f0 (BV sO.mm.tb sO.mm.gr hS.gv hS.n6 sO.wt hS.bd) rfl ?_;rintro _ H2 ⟨l2,v,m,rfl,vP,qC,rV⟩;refine⟨(fun _=>l2),?_⟩;simp only[cA,nA];refine g7 (g7 ?_);refine j9 (UU _) rfl ?_;simp only[cA,nA];obtain⟨_,a1,c1,rfl,_⟩:=id vP;refine o0 (cs:= #[.slice none 0 0]) VE fun z hz=> ?_;simp only[cA,nA];refine Bq (u:= .slice a1 m.length c1) cx rfl rfl rfl (PH.put_self _ _ _) aD rfl rfl rfl (fun h=>(nomatch h)) ?_;simp only[cA,nA];rw[PH.put_put];change den _ _ _ _ _ _ (H2.put z (.cells #[.slice a1 m.length c1] 64 (0,0)));have lz:=PH.le_put hz (.cells #[.slice a1 m.length c1] 64 (0,0));have vL:=PH.put_self H2 z (.cells #[.slice a1 m.length c1] 64 (0,0));generalize H2.put z (.cells #[.slice a1 m.length c1] 64 (0,0))=H3 at lz vL⊢;refine g9 cx rfl rfl vL rfl rfl ?_;simp only[cA,nA];refine m9 Pe (vP.mono lz) ?_;simp only[cA,nA];refine b9 ?_;exact Og (qi (e:=4) aC) (i0 ((bE0 m.length).trans (by rw[oDd (by have:m.length=p7 n k es us lo hi:=qC;omega)])) rfl) (fun _ _ h=>h.elim) ((fun x H' h=>⟨(lc.trans (l2.trans lz)).trans h.1,h.2⟩))
end
section
variable {dm:Dm} {H B:PH} {n k ms lv who:Nat} {es:List (Nat×Nat)} {us:List Un} {w rw u:Value} {lo hi:Int} {p:List Int}
def b9D {a c:Nat} (hs:H a=some (.cells (stC dm n k ms lv who w rw lo hi).toArray 38 (0,0))) (hc:H c=some (.cells #[u] 40 (0,0))) (hu:SI H u p) (ho:Fo n es (wlU us n) lo hi (k:Nat) p=false) (hM:StM H w rw es us) (hS:StOk dm n k ms lv who es us lo hi) (hz:ms=1->s5 us n=true):
  Gg prog 48 [.pointer (some ⟨a,0,none⟩),.pointer (some ⟨c,0,none⟩)] H (fun _ _=>False) fun x H'=>Pl H H'/\x=Fe 8:=by
 refine Lc mixed UG aB rfl ?_;have wP:bdE n (wlU us n) lo hi (k:Nat)=0:=by
  unfold bdE;rw[if_pos ⟨hS.bd.len,hS.bd.b0,hS.bd.b1,hS.bd.d1,hS.bd.d8,hS.bd.ok⟩]
 refine x5 (vs:=(stC dm n k ms lv who w rw lo hi)) Nj rfl rfl hs rfl (show 0+12<=12 by decide) rfl ?_;simp only[cA,nA];refine f0 (Uk hM hS hz) rfl ?_;rintro _ H1 ⟨l1,b,wts,rfl,hW⟩;refine nmI ?_;simp only[cA,nA];refine j6 ?_;simp only[cA,nA];refine g8 Cd ?_;simp only[cA,nA];refine g8 Xn ?_;simp only[cA,nA];refine x5 (vs:=[ii (n:Nat),w]) Qg rfl rfl hW.bk rfl (show 0+0+0+2<=17 by decide) rfl ?_;simp only[cA,nA];refine j6 ?_;simp only[cA,nA];refine g8 Hy ?_;simp only[cA,nA];refine x5 (vs:=[wts,ii lo,ii hi,ii (k:Nat)]) Xq rfl rfl hW.bk rfl (show 0+12+4<=17 by decide) rfl ?_;simp only[cA,nA];refine g9 Fb rfl rfl (l1 _ _ hc) rfl rfl ?_;simp only[cA,nA];refine i8 (NI hW.mm.tb hW.mm.gr hS.gv hW.wt (hu.mono l1)) rfl fun H2 l2=> ?_;simp only[cA,nA];rw[wP,ho];refine g7 (g7 ?_);refine j9 (UV _) rfl ?_;simp only[cA,nA];refine b9 ?_;exact Og (qi (e:=8) aC) rfl (fun _ _ h=>h.elim) ((fun x H' h=>⟨l1.trans (l2.trans h.1),h.2⟩))
def c6r (hu:SI H u p) (ho:Fo n es (wlU us n) lo hi (k:Nat) p=false) (hM:StM H w rw es us) (hS:StOk dm n k ms lv who es us lo hi) (hz:ms=1->s5 us n=true):
  Con prog 9 [stV dm n k ms lv who w rw lo hi,u] H fun r H'=>Pl H H'/\r= .tuple #[zSh,zSh,ii 8]:=by
 refine g5 mixed UF ?_;refine b4 (En (t8 hM.gr) hM.ro.one) ?_;refine o0 (cs:=(stC dm n k ms lv who w rw lo hi).toArray) rfl fun a ha=> ?_;have la:=PH.le_put ha (.cells (stC dm n k ms lv who w rw lo hi).toArray 38 (0,0));refine b4 (hu.one) ?_;refine o0 (cs:= #[u]) hu.cells fun c hc=> ?_;have lc:=PH.le_put hc (.cells #[u] 40 (0,0));refine y8 (Ai (vs:=[.pointer (some ⟨a,0,none⟩),.pointer (some ⟨c,0,none⟩)]) rfl rfl) rfl ?_;refine f0 (bm (caps:=[.pointer (some ⟨a,0,none⟩),.pointer (some ⟨c,0,none⟩)]) (V:=fun _ _=>False) (XE:=fun e H'=>e=8/\Pl H H') mixed EG VJ VI (b9D (lc _ _ (PH.put_self _ _ _)) (PH.put_self _ _ _) (hu.mono (la.trans lc)) ho (hM.mono (la.trans lc)) hS hz) (fun _ _ h=>h.elim) (fun x H' hx=>⟨8,hx.2 ▸ e1P,rfl,(la.trans lc).trans hx.1⟩)) rfl ?_;rintro _ H4 hX;refine nmI ?_;rcases hX with⟨_,h,_⟩|⟨e,⟨rfl,l4⟩,rfl⟩
 ·exact h.elim
 have hrd:rdV prog 124 (Value.agg (eV 32 (.int .u64 0))).cells= .agg (eV 32 (.int .u64 0)):=by unfold rdV;rw[show r8 prog 124=true by kernel_rfl];rfl
 rw[hrd];refine g7 (g7 ?_);refine b4 ⟨rfl,FD 32⟩ ?_;exact d4 (show Value.tuple #[D prog _ (.sub (.pj (.v 5) 0) 0 16 0 noI),D prog _ (.sub (.pj (.v 5) 0) 16 16 0 noI),D prog _ (.pj (.v 5) 1)]=Value.tuple #[zSh,zSh,ii 8] by rw[WY rfl aC,WY rfl aC];rfl) ⟨l4,rfl⟩
def b9E {c0:Nat} (hs:H c0=some (.cells (stC dm n k ms lv who w rw lo hi).toArray 38 (0,0))) (hM:StM H w rw es us) (hS:StOk dm n k ms lv who es us lo hi) (hz:ms=1->s5 us n=true) (hp:p7 n k es us lo hi=0):Gg prog 28 [.pointer (some ⟨c0,0,none⟩)] H (fun _ _=>False) fun x H'=>Pl H H'/\x=Fe 4:=by
 refine Lc mixed DG aB rfl ?_;refine j1 (Na (ok:=Rg) (ke:=shR) Hv rfl) rfl ?_;rintro v1 H1 ⟨l1,o1⟩;refine nmI ?_;obtain⟨g0,es0,cl0,rfl,hHg,uR,hE0,zR⟩:=id o1;refine b4 (Xb g0) ?_;refine x5 (vs:=(stC dm n k ms lv who w rw lo hi)) Nj rfl rfl (l1 _ _ hs) rfl (show 0+12<=12 by decide) rfl ?_;refine f0 (Uk (hM.mono l1) hS hz) rfl ?_;rintro _ H2 ⟨l2,b,wts,rfl,hW⟩;refine nmI ?_;exact Og (c6q hW hS hp) rfl (fun _ _ h=>h.elim) ((fun x H' h=>⟨l1.trans (l2.trans h.1),h.2⟩))
def c6s (hM:StM H w rw es us) (hS:StOk dm n k ms lv who es us lo hi) (hz:ms=1->s5 us n=true) (hp:p7 n k es us lo hi=0):Con prog 6 [stV dm n k ms lv who w rw lo hi] H fun r H'=>Pl H H'/\r= .tuple #[.slice none 0 0,ii 4]:=by
 refine g5 mixed DF ?_;refine b4 (En (t8 hM.gr) hM.ro.one) ?_;refine o0 (cs:=(stC dm n k ms lv who w rw lo hi).toArray) rfl fun a ha=> ?_;have la:=PH.le_put ha (.cells (stC dm n k ms lv who w rw lo hi).toArray 38 (0,0));refine y8 (Ai (vs:=[.pointer (some ⟨a,0,none⟩)]) rfl rfl) rfl ?_;refine f0 (bm (caps:=[.pointer (some ⟨a,0,none⟩)]) (V:=fun _ _=>False) (XE:=fun e H'=>e=4/\Pl (H.put a (.cells (stC dm n k ms lv who w rw lo hi).toArray 38 (0,0))) H') mixed cz oy EF (b9E (PH.put_self _ _ _) (hM.mono la) hS hz hp) (fun _ _ h=>h.elim) (fun x H' hx=>⟨4,hx.2 ▸ WN,rfl,hx.1⟩)) rfl ?_;rintro _ H4 hX;refine nmI ?_;rcases hX with⟨_,h,_⟩|⟨e,⟨rfl,l4⟩,rfl⟩
 ·exact h.elim
 refine g7 (g7 ?_);exact d4 rfl ⟨la.trans l4,by show Value.tuple #[rdV prog 44 (Value.slice none 0 0).cells,ii 4]=_;rw[WO]⟩
end
def e5c:∀s∈[7,8,3,12,1,14],Me s es4 [] []=1:=by
 have h:∀s∈[7,8,3,12,1,14],trN es4 s [] 0=1:=by decide+kernel
 intro s hs;rw[c3d,c9o];exact h s hs
section
variable {H:PH} {n k:Nat} {es:List (Nat×Nat)} {w u:Value} {p:List Int}
def WZ:Ce 1= .tuple #[iw 1,ii 0]:=by unfold Ce;rw[if_pos (by decide+kernel)];rfl
set_option maxHeartbeats 1000000 in
def d1e (hT:Tb H) (hw:SG H w es) (hg:GV n es) (hu:SI H u p) (hP:plE n p (k:Nat)=0) (hL:LabOk p (k:Nat)) (hU:Ez p k) (hk:1<=k/\k<=8) (h1:∀s∈Ey p k,(s≠0/\s<2^n)/\s<M64/\Me s es [] []=1):Con prog 69 [gv n w,u,ii (k:Nat)] H fun r H'=>Pl H H'/\r= .tuple #[iw 1,ii 0]:=by
 refine g5 mixed d8e ?_;have tY:Lm 1:=(fun e h=>by unfold BP;exact Nat.one_lt_two_pow (by omega):∀e:Nat,e≠0->(1:Int).natAbs<BP e) 10000 (by decide)
 refine b4 (Ci hw) ?_;refine i8 (AA hw hg hu (k:Nat)) rfl fun H1 l1=> ?_;simp only[cA,nA];rw[hP];refine b9 ?_;refine i7 rfl ?_;refine f0 (NC (hu.mono l1) k hk.1 hk.2 hL hU) rfl ?_;rintro _ H2 ⟨l2,z,rfl,hz⟩;refine nmI ?_;simp only[cA,nA];refine g7 (g7 ?_);refine f0 (Oq 1 aC aC) rfl ?_;rintro v5 H3 ⟨l3,w5⟩;refine nmI ?_;simp only[cA,nA];refine b4 w5.rq ?_;have l13:=(l1.trans l2).trans l3;refine m9 el_u64 (hz.mono l3) ?_;simp only[cA,nA];have hzl:=hz.len;refine r7 (α:=Nat×Value) (fun⟨i,x⟩=>[ii 0,ii (i:Nat),x]) (fun⟨i,x⟩=>fun K=>i<=(Ey p k).length/\Pl H3 K/\Lw K x 1) (fun⟨i,x⟩=>(Ey p k).length-i) ((0,v5)) rfl (⟨bK _,Pl.refl _,w5⟩) fun⟨i,x⟩ K hQ=> ?_;simp only[cA,nA];obtain⟨hi1,lK,wx⟩:=hQ;obtain⟨x9,rfl⟩:=Pj wx;refine b9 (b9 ?_);refine g6 (b:=decide (((i:Nat):Int)<((Ey p k).length:Nat))) rfl (fun qL=> ?_) (fun qL=> ?_)
 ·replace qL:=oDt qL;obtain⟨s,hs,_⟩:=q8 (show i<(Ey p k).length by omega);obtain⟨tA,xY,hs3⟩:=h1 s (aK hs);refine n9 el_u64 (hz.mono (l3.trans lK)) hs fun _=> ?_;simp only[cA,nA];refine f0 (c9p (hw.mono (l13.trans lK)) hg tA xY (hT.mono (l13.trans lK))) rfl ?_;rintro _ K2 ⟨l4,rfl⟩;refine nmI ?_;simp only[cA,nA];rw[hs3,WZ];refine g7 (g7 ?_);refine b4 (AP _) ?_;refine b9 ?_;refine i7 rfl ?_;refine f0 (Vp (rs 1)) rfl ?_;rintro v13 K3 ⟨l5,w13⟩;refine⟨(fun _=>l5),?_⟩;simp only[cA,nA];rw[show toI (rs 1)=1 by decide+kernel]at w13;refine f0 (Jq (wx.mono (l4.trans l5)) w13 tY tY) rfl ?_;rintro v14 K4 ⟨l6,w14⟩;refine⟨(fun _=>l6),?_⟩;simp only[cA,nA];refine b4 w14.rq ?_;exact⟨(i+1,v14),by show(Ey p k).length-(i+1)<(Ey p k).length-i;omega,(By rfl (j5 rfl aA) rfl),⟨by show i+1<=(Ey p k).length;omega,lK.trans (l4.trans (l5.trans l6)),by rw[Int.one_mul]at w14;exact w14⟩⟩
 ·replace qL:=oDf qL;refine f0 (Zq wx) rfl ?_;rintro _ K2 ⟨l4,rfl⟩;refine nmI ?_;simp only[cA,nA];rw[WZ];refine g7 (g7 ?_);refine b4 (AP _) ?_;exact d4 rfl ⟨l13.trans (lK.trans l4),rfl⟩
end
def c6t:n8 prog 68=true:=aB
section
variable {dm:Dm} {H B:PH} {n k ms lv who:Nat} {es:List (Nat×Nat)} {us:List Go.GS.Un} {w rw wts:Value} {lo hi:Int} {b:Nat}
def c6u {c0:Nat} (rB:H c0=some (.cells (stC dm n k ms lv who w rw lo hi).toArray 38 (0,0))) (hM:StM H w rw es us) (hS:StOk dm n k ms lv who es us lo hi) (hz:ms=1->s5 us n=true) (hp:0<p7 n k es us lo hi) (hN:p7 n k es us lo hi<=400) (hr:∀r∈vlL dm n k ms lv who es us lo hi,Rg r) (sO:∀(i:Nat),i<p7 n k es us lo hi->∀(u:Value) (H:PH),StM H w rw es us->SI H u (Aa n k es us lo hi i)->Con prog 69 [gv n w,u,ii (k:Nat)] H fun r H'=>Pl H H'/\r= .tuple #[iw 1,ii 0]):
  Con prog 68 [.pointer (some ⟨c0,0,none⟩)] H fun r H'=>Pl H H'/\∃m,SE H' 32 ceM r m/\TalP (vlL dm n k ms lv who es us lo hi) m:=by
 refine g5 mixed d0Y ?_;refine j1 (Na (ok:=Rg) (ke:=shR) Hv rfl) rfl ?_;rintro v1 H1 ⟨l1,o1⟩;refine nmI ?_;simp only[cA,nA];obtain⟨g0,es0,cl0,rfl,hHg,uR,hE0,zR⟩:=id o1;refine b4 (Xb g0) ?_;refine x5 (vs:=(stC dm n k ms lv who w rw lo hi)) Nj rfl rfl (l1 _ _ rB) rfl (show 0+12<=12 by decide) rfl ?_;simp only[cA,nA];refine Ft (Uk hM hS hz) l1 rfl fun v3 X1 H2 a1 w1 b1 c1 d1=> ?_;simp only[cA,nA];obtain⟨b,wts,rfl,hW⟩:=w1;refine Ft (EC hW hS hp) b1 rfl fun v4 X2 H3 a2 w2 b2 c2 d2=> ?_;simp only[cA,nA];obtain⟨z,c,lv',m,rfl,hA⟩:=w2;have zS:X1 g0=none:=d1 g0 (by rw[uR];exact fun h=>nomatch h) hHg;have xR:X2 g0=none:=d2 g0 (by rw[c1 _ _ uR];exact fun h=>nomatch h) zS;have hC0:CntS X2 H3 (.map (some g0)) (vlL dm n k ms lv who es us lo hi) 0:=⟨[],⟨g0,es0,cl0,rfl,xR,c2 _ _ (c1 _ _ uR),hE0,zR⟩,fun r=>aD,(fun q hq=>nomatch hq)⟩;have hml:m.length=p7 n k es us lo hi:=hA.len;rw[<-PH.or_nil H3];refine Hi (X:=H3) (K:=PH.nil) (Ro:=X2) (fun pre vals X'=>vals=[]/\Pl X2 X'/\CntS X2 X' (.map (some g0)) (vlL dm n k ms lv who es us lo hi) pre.length) (fun _ _ _=>False) (ED hA hS hz (fun i hi=>Xr hi) aA) EB (Sm _) rfl (fun _ _ _ h=>h.2.1) ⟨rfl,b2,hC0⟩ ?_ ?_ ?_
 ·rintro pre xs vals X' ⟨s,hs,rfl⟩ _ ⟨rfl,lX,hC⟩;refine⟨rfl,?_⟩;simp only[cA,nA];have rJ:pre.length<p7 n k es us lo hi:=by have:=(aH.1 hs).1;omega
  have rV:=cy (dm:=dm) (ms:=ms) (lv:=lv) (who:=who) rJ;have hrv:=hr _ (aK rV);have sR:∀q,((vlL dm n k ms lv who es us lo hi).take pre.length).count q<=400:=fun q=>by
   have:=List.count_le_length (a:=q) (l:=(vlL dm n k ms lv who es us lo hi).take pre.length);rw[bH,Gu]at this;omega
  generalize hvv:An dm n es us k ms lv who (Aa n k es us lo hi pre.length)=vv at rV hrv;obtain⟨L,o3,zU,hv3⟩:=hC;refine b4 (j7 _ _) ?_;have wY:(iw ((((vlL dm n k ms lv who es us lo hi).take pre.length).count vv:Nat):Int)=wd 0/\vv∉L.map (·.1))\/(vv,iw ((((vlL dm n k ms lv who es us lo hi).take pre.length).count vv:Nat):Int))∈L:=by
   by_cases h:vv∈L.map (·.1)
   ·obtain⟨q,hq,rfl⟩:=aZ.1 h;right;rw[<-hv3 q hq];exact hq
   ·left;refine⟨?_,h⟩;rw[List.count_eq_zero.2 (fun h2=>h ((zU vv).2 h2))];rfl
  refine j8 (CV Hv (k:=vv) (u:=iw ((((vlL dm n k ms lv who es us lo hi).take pre.length).count vv:Nat):Int)) (vs:=[.map (some g0),shR vv]) rfl rfl rfl Xs hrv VF o3.mk wY) (i0 (Bc rfl rfl) rfl) ?_;simp only[cA,nA];refine g8 Xn ?_;simp only[cA,nA];refine x5 (vs:=[ii (n:Nat),w]) Qg rfl rfl (lX _ _ ((a1.trans a2) _ _ rB)) rfl (show 0+0+2<=12 by decide) rfl ?_;simp only[cA,nA];refine g8 UW ?_;simp only[cA,nA];refine g9 (u:=ii (k:Nat)) sc_int rfl rfl (lX _ _ ((a1.trans a2) _ _ rB)) rfl rfl ?_;simp only[cA,nA];refine f0 (sO pre.length rJ (vs s) X' (hM.mono ((a1.trans a2).trans lX)) ((hA.at' _ s hs).mono lX)) rfl ?_;rintro _ X8 ⟨l8,rfl⟩;refine⟨(fun _=>l8),?_⟩;simp only[cA,nA];refine g7 (g7 ?_);refine j9 (ox _) rfl ?_;simp only[cA,nA];refine Db (EE (a:=((((vlL dm n k ms lv who es us lo hi).take pre.length).count vv:Nat):Int)) (b:=1) aA aA (by have:=sR vv;omega)) rfl ?_;simp only[cA,nA];refine g7 (g7 ?_);refine j9 (ox _) rfl ?_;simp only[cA,nA];refine j1 (Pq Hv (k:=vv) (v:=iw ((((vlL dm n k ms lv who es us lo hi).take pre.length).count vv+1:Nat):Int)) (vs:=[.map (some g0),shR vv,iw ((((vlL dm n k ms lv who es us lo hi).take pre.length).count vv+1:Nat):Int)]) rfl rfl rfl rfl Xs hrv (lX.trans l8) (o3.mono l8)) (By (Bc rfl rfl) rfl (by rw[dZ];rfl)) ?_;rintro _ H5 ⟨rfl,l5,o5,-⟩;refine nmI ?_;simp only[cA,nA];exact⟨rfl,l5,by rw[aL];exact CntS.put zU hv3 rV o5⟩
 ·rintro xs vals X' K' hxn hd _ ⟨rfl,lX,hC⟩;simp only[cA,nA];have sQ:xs.length=(vlL dm n k ms lv who es us lo hi).length:=by rw[Gu];omega
  rw[sQ]at hC;refine f0 (VG (hC.mono (PH.le_or X' K')) (fun e=>by have:=congrArg List.length e;rw[Gu]at this;simp at this;omega) (by rw[Gu];exact hN)) (p6 (Bc rfl rfl)) ?_;rintro r H6 ⟨l6,m',vP,hT⟩;refine nmI ?_;simp only[cA,nA];exact d4 rfl ⟨a1.trans (a2.trans (lX.trans ((PH.le_or X' K').trans l6))),m',vP,hT⟩
 ·exact fun _ _ _ _ _ _ _ h=>h.elim
def d1f (hM:StM H w rw es us) (hS:StOk dm n k ms lv who es us lo hi) (hz:ms=1->s5 us n=true) (hp:0<p7 n k es us lo hi) (hN:p7 n k es us lo hi<=400) (hr:∀r∈vlL dm n k ms lv who es us lo hi,Rg r) (sO:∀(i:Nat),i<p7 n k es us lo hi->∀(u:Value) (H:PH),StM H w rw es us->SI H u (Aa n k es us lo hi i)->Con prog 69 [gv n w,u,ii (k:Nat)] H fun r H'=>Pl H H'/\r= .tuple #[iw 1,ii 0]):
  Con prog 19 [stV dm n k ms lv who w rw lo hi] H fun r H'=>Pl H H'/\∃t m,r= .tuple #[t,ii 0]/\SE H' 32 ceM t m/\TalP (vlL dm n k ms lv who es us lo hi) m:=by
 refine g5 mixed d8d ?_;refine b4 (En (t8 hM.gr) hM.ro.one) ?_;refine o0 (cs:=(stC dm n k ms lv who w rw lo hi).toArray) rfl fun a ha=> ?_;have la:=PH.le_put ha (.cells (stC dm n k ms lv who w rw lo hi).toArray 38 (0,0));refine y8 (Ai (vs:=[.pointer (some ⟨a,0,none⟩)]) rfl rfl) rfl ?_;refine f0 (Px (caps:=[.pointer (some ⟨a,0,none⟩)]) mixed cz oy c6t (c6u (PH.put_self _ _ _) (hM.mono la) hS hz hp hN hr sO) (fun _ _ h=>VH h.2.choose_spec.1)) rfl ?_;rintro _ H4 ⟨t,⟨l4,m,vP,hT⟩,rfl⟩;refine nmI ?_;refine g7 (g7 ?_);exact d4 rfl ⟨la.trans l4,t,m,rfl,vP,hT⟩
end
def FG:Rg 20:=(show((20:Int):Rat)=20 by rfl) ▸ Kp (z:=20) aC
def XA:Rg 30:=(show((30:Int):Rat)=30 by rfl) ▸ Kp (z:=30) aC
def rgT (c n:Nat) (h:0<n/\c<2^20/\n<2^20):Rg (qN c n):=Xf h.1 h.2.1 h.2.2
def k20:MaT:=⟨(20,qN 1 3),FG,rgT 1 3 aC⟩
def k30:MaT:=⟨(30,qN 2 3),XA,rgT 2 3 aC⟩
def k21:MaT:=⟨(20,qN 1 1),FG,rgT 1 1 aC⟩
def e3M:TalP [30,20,30] [k20,k30]:=by
 refine⟨by rw[List.pairwise_pair];exact(by decide+kernel:(20:Rat)<30),fun q=>⟨?_,?_⟩⟩
 ·rintro⟨x,hx,rfl⟩;simp only[bG,cF,or_false]at hx;rcases hx with rfl|rfl
  ·exact⟨by simp[k20],(by decide+kernel:qN 1 3=qN (jU (20:Rat) [30,20,30]) 3)⟩
  ·exact⟨by simp[k30],(by decide+kernel:qN 2 3=qN (jU (30:Rat) [30,20,30]) 3)⟩
 ·obtain⟨a,b⟩:=q;rintro⟨h1,h2⟩;simp only[bG,cF,or_false]at h1;have e2:qN (jU (20:Rat) [30,20,30]) 3=qN 1 3:=by decide+kernel
  have e3:qN (jU (30:Rat) [30,20,30]) 3=qN 2 3:=by decide+kernel
  rcases h1 with rfl|rfl|rfl
  ·exact⟨k30,aD,lV rfl (h2.trans e3).symm⟩
  ·exact⟨k20,aD,lV rfl (h2.trans e2).symm⟩
  ·exact⟨k30,aD,lV rfl (h2.trans e3).symm⟩
def e3N:TalP [20] [k21]:=by
 refine⟨List.pairwise_singleton _ _,fun q=>⟨?_,?_⟩⟩
 ·rintro⟨x,hx,rfl⟩;rw[bB.1 hx];exact⟨by simp[k21],(by decide+kernel:qN 1 1=qN (jU (20:Rat) [20]) 1)⟩
 ·obtain⟨a,b⟩:=q;rintro⟨h1,h2⟩;have e2:qN (jU (20:Rat) [20]) 1=qN 1 1:=by decide+kernel
  obtain rfl:a=20:=bB.1 h1;exact⟨k21,aD,lV rfl (h2.trans e2).symm⟩
def rk4 {m:List MaT} (h:TalP (vlL dm0 4 2 2 0 0 es4 us4 10 30) m):m=[k20,k30]/\rkA dm0 4 2 2 0 0 es4 us4 10 30 [0,0,1,1] m=0/\rkB dm0 4 2 2 0 0 es4 us4 10 30 [0,0,1,1] m=qN 1 3/\rkA dm0 4 2 2 0 0 es4 us4 10 30 [1,0,0,0] m=qN 1 3/\rkB dm0 4 2 2 0 0 es4 us4 10 30 [1,0,0,0] m=qN 2 3:=by
 rw[Xu]at h;obtain rfl:=TalP.uniq h e3M;unfold rkA rkB;rw[Xu,va4.2.1,va4.2.2.2,Nk];refine⟨rfl,?_,?_,?_,?_⟩<;>decide+kernel
def m20 {m:List MaT} (h:TalP (vlL dm0 4 2 2 0 0 es4 us4 20 30) m):m=[k21]:=by
 rw[e1s]at h;exact TalP.uniq h e3N
def bst4:z8 true [30,20,30] 3=30/\z8 false [30,20,30] 3=20/\Dy true [30,20,30] 3=0/\Dy false [30,20,30] 3=1:=by decide+kernel
def XC {p:List Int} (h:p=[0,0,1,1]\/p=[1,0,0,0]):dc 4 2 es4 us4 10 30 p:=by
 have hc:∀s,s<16->alB es4 (wlU us4 4) 10 30 s=ftH 10 30 s:=fun s _=>congrFun (Xt 10 30) s;rcases h with rfl|rfl
 ·refine⟨⟨rfl,aC,aC⟩,?_⟩;unfold Fo;rw[show alB es4 (wlU us4 4) 10 30=ftH 10 30 from Xt 10 30];decide+kernel
 ·refine⟨⟨rfl,aC,aC⟩,?_⟩;unfold Fo;rw[show alB es4 (wlU us4 4) 10 30=ftH 10 30 from Xt 10 30];decide+kernel
def e5d:Fo 4 es4 (wlU us4 4) 10 30 ((2:Nat):Int) [0,0,0,0]=false:=by
 unfold Fo;rw[show alB es4 (wlU us4 4) 10 30=ftH 10 30 from Xt 10 30];decide+kernel
def sm4:∀s∈[7,8,3,12,1,14],(s≠0/\s<2^4)/\s<M64:=by decide+kernel
def pl4:∀p∈[[0,0,0,1],[0,0,1,1],[0,1,1,1]],plE 4 p ((2:Nat):Int)=0/\LabOk p ((2:Nat):Int)/\Ez p 2/\∀s∈Ey p 2,s∈[7,8,3,12,1,14]:=by decide+kernel
def in4 {i:Nat} (hi:i<p7 4 2 es4 us4 10 30):Aa 4 2 es4 us4 10 30 i∈[[0,0,0,1],[0,0,1,1],[0,1,1,1]]:=by
 rw[Nk]at hi
 match i,hi with
 |0,_=>rw[i1030.1];decide
 |1,_=>rw[i1030.2.1];decide
 |2,_=>rw[i1030.2.2];decide
def e5e {w rw:Value} (i:Nat) (hi:i<p7 4 2 es4 us4 10 30) (u:Value) (H:PH) (hM:StM H w rw es4 us4) (hu:SI H u (Aa 4 2 es4 us4 10 30 i)):Con prog 69 [gv 4 w,u,ii ((2:Nat):Int)] H fun r H'=>Pl H H'/\r= .tuple #[iw 1,ii 0]:=by
 obtain⟨h1,h2,h3,h4⟩:=pl4 _ (in4 hi);exact d1e hM.tb hM.gr gv4 hu h1 h2 h3 ⟨aA,aA⟩ fun s hs=>⟨(sm4 s (h4 s hs)).1,(sm4 s (h4 s hs)).2,e5c s (h4 s hs)⟩
end Go.Z

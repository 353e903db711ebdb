/- Trees of functions. -/
import Derived.Test.YtcdnhlplkhldbaaGreatDoorRxK
open Int renaming add_mul->pR,le_refl->kM,natCast_succ->oD,one_mul->pT
open List renaming range->eO
set_option linter.all false
set_option maxRecDepth 100000
namespace Go.Z
open Proofs.Tryz RowKit RX
def d6c:d9 prog [] [] [] [] 150=some (.ri V1
(.br (.io .neq V1 (.ki 0)) (.rq (.cells 1 V1)
(.pm f150 2 2 [(.ag V1)]
(.ef false f150 2 3 [V2]
(.ret [V0])))) (.ret [V0]))):=aB
def d6d:d9 prog [] [] [] [] 262=some (.rq (.cells 16 V0)
(.ri V1
(.br (.io .neq V1 (.ki 0)) (.rq (.cells 1 V1)
(.pm f262 2 2 [(.ag V1)]
(.ef false f262 2 3 [V2]
(.ret [(.ag V0)])))) (.ret [(.ag V0)])))):=aB
def d6e:d9 prog [] [] [] [] 265=some (.ri V1
(.br (.io .neq V1 (.ki 0)) (.rq (.cells 1 V1)
(.pm f265 2 2 [(.ag V1)]
(.ef false f265 2 3 [V2]
(.ret [V0])))) (.ret [V0]))):=aB
def d6f:d9 prog [] [] [] [] 267=some (.rq (.cells 2 V0)
(.ri V1
(.br (.io .neq V1 (.ki 0)) (.rq (.cells 1 V1)
(.pm f267 2 2 [(.ag V1)]
(.ef false f267 2 3 [V2]
(.ret [(.ag V0)])))) (.ret [(.ag V0)])))):=aB
def d6g:d9 prog [] [] [] [] 149=some (.rq (.bool V0) (.br V0
(.call false 148 [V1]
(.ret [])) (.ret []))):=aB
def d6h:d9 prog [] [] [] [] 148=some (.ri V0
(.br (.io .neq V0 (.ki 0)) (.rq (.cells 1 V0)
(.pm f148 1 2 [(.ag V0)]
(.ef false f148 1 3 [V1]
(.ret [])))) (.ret []))):=aB
def d6i:d9 prog [53] [] [⟨2,27,[9],[]⟩,⟨0,5,[],[]⟩] [⟨12,rPx 7 0++[112,240,240,1008,2047,4095,8191],rDx 14 3020020050055,rDx 14 10010,rAx 0 14,[]⟩] 103=some (.rq (.cells 2 V0) (.rq (.cells 4 V1) (.call false 79 [(.ag V0)]
(.call false 148 [V4]
(.call false 80 [(.ag V1)]
(.call false 148 [V6]
(.pm f103 4 2 [(.cell V1 3 0 noI)]
(.loop [(.ki 0),(.ki 0)]
(.ri V10
(.ri V8
(.br (.io .lss V10 V8)
(.pm f103 6 0 [(.cell V1 3 0 noI),V10]
(.pm f103 6 1 [V11]
(.rq (.cells 6 V12) (.rq (.bool (.cell V12 5 0 noI)) (.join 1
(.br (.nt (.cell V12 5 0 noI))
(.ri V9
(.next 1 [(.io .add V9 (.ki 1))])) (.next 1 [V9])) (.next 0 [V13,(.io .add V10 (.ki 1))]))))))
(.ri V9
(.rq (.int .i64 (.cell V0 0 0 noI)) (.call false 149 [(.io .neq V9 (.cell V0 0 0 noI)),(.ki 5)]
(.call false 119 [(.ag V0),V2,V3]
(.call false 148 [V12]
(.call true 151 [(.ag V1),V2,V3]
(.rq (.tup 0 V14) (.rq (.tup 1 V14) (.call true 150 [(.pj V14 0),(.pj V14 1)]
(.rq (.cells 1 V2) (.rq (.cells 1 V3) (.rq (.cells 1 V15) (.rq (.cells 9 (.cat (.ag V0) 2 (.cat (.ag V1) 4 (.cat (.sub (.put (.cat V2 1 (.cat (.z 3) 1 (.z 39))) 1 1 V3 0 noI) 0 2 0 noI) 2 V15)))) (.pub 259 (.cat (.ag V0) 2 (.cat (.ag V1) 4 (.cat (.sub (.put (.cat V2 1 (.cat (.z 3) 1 (.z 39))) 1 1 V3 0 noI) 0 2 0 noI) 2 V15))) (.ret [V16])))))))))))))))))))))))))):=aB
def d6j:d9 prog [] [] [⟨0,3,[],[]⟩] [⟨5,[0,0,3,7,0,0,32,96,224,480,0,2016,4064,8176,16383,32767,65535],rDx 17 81021101111001100,rPx 17 0,rAx 0 16,[16]⟩] 269=some (.pm f269 1 1 [V0]
(.pm f269 1 2 [V2]
(.pm f269 1 3 [V3]
(.ef false f269 1 4 [V4,V4]
(.pm f269 2 1 [V0]
(.pm f269 2 2 [V6]
(.pm f269 2 3 [V7]
(.pm f269 2 4 [V8]
(.loop [(.ki 0)]
(.ri V10
(.ri V9
(.br (.io .lss V10 V9)
(.pm f269 4 1 [V8,V10]
(.pm f269 4 2 [V11]
(.pm f269 5 2 [V5,V12]
(.pm f269 5 3 [V13]
(.pm f269 5 6 [V0]
(.pm f269 5 7 [V15]
(.pm f269 5 8 [V16]
(.pm f269 5 9 [V17]
(.pm f269 5 11 [V18,V10]
(.pm f269 5 12 [V19]
(.ef true f269 5 13 [V1,V20]
(.ri V14
(.ri V21
(.pm f269 5 15 [V5,V12]
(.ef false f269 5 16 [V22,(.io .add V14 V21)]
(.next 0 [(.io .add V10 (.ki 1))])))))))))))))))) (.ret [V5]))))))))))))):=aB
def d6k:d9 prog [] [] [⟨0,2,[],[]⟩] [] 271=some (.pm f271 1 1 [V0]
(.pm f271 1 2 [V2]
(.pm f271 1 3 [V3]
(.loop [(.k (.slice none 0 0)),(.ki 0)]
(.ri V6
(.ri V4
(.br (.io .lss V6 V4)
(.ef false f271 4 2 [V1,V6]
(.rq (.bool V7) (.br V7
(.ef false f271 5 2 [V6]
(.ef false f271 5 3 [V5,V8]
(.next 0 [V9,(.io .add V6 (.ki 1))]))) (.next 0 [V5,(.io .add V6 (.ki 1))])))) (.ret [V5])))))))):=aB
def d6l:d9 prog [] [] [] [] 264=some (.call false 59 [V0,(.ki 1)]
(.rq (.tup 0 V1) (.rq (.tup 1 V1) (.call false 262 [(.pj V1 0),(.pj V1 1)]
(.rq (.cells 16 V2) (.ret [(.ag V2)])))))):=aB
def d6m:d9 prog [] [] [] [⟨1,[0,1,3,7,0,16,48,112,0,256,768,1792,4095,8191,8191,32767,65535],rDx 17 62002111011101110,rPx 16 0++[1],rAx 0 16,[16]⟩] 210=some (.rq (.cells 2 V1)
(.pm f210 1 1 [V0]
(.pm f210 1 2 [V2]
(.pm f210 1 3 [V3]
(.pm f210 1 5 [V0]
(.pm f210 1 6 [V5]
(.pm f210 1 7 [V6]
(.pm f210 1 9 [V0]
(.pm f210 1 10 [V8]
(.pm f210 1 11 [V9]
(.call true 263 [V4,V7,V10]
(.rq (.tup 0 V11) (.rq (.tup 1 V11) (.call true 262 [(.pj V11 0),(.pj V11 1)]
(.rq (.cells 16 V12) (.ret [(.ag V12)])))))))))))))))):=aB
def d6n:d9 prog [] [] [⟨0,3,[],[]⟩] [] 211=some (.rq (.cells 2 V1)
(.pm f211 1 1 [V0]
(.pm f211 1 2 [V2]
(.pm f211 1 3 [V3]
(.pm f211 1 4 [V4,(.ki 0)]
(.pm f211 1 5 [V5]
(.pm f211 2 1 [V0]
(.pm f211 2 2 [V7]
(.pm f211 2 3 [V8]
(.pm f211 2 4 [V9]
(.loop [V6,(.ki 0)]
(.ri V12
(.ri V10
(.br (.io .lss V12 V10)
(.pm f211 4 0 [V9,V12]
(.pm f211 4 1 [V13]
(.pm f211 5 2 [V11,V14]
(.next 0 [V15,(.io .add V12 (.ki 1))])))) (.call false 264 [V11]
(.rq (.cells 16 V13) (.ret [(.ag V13)]))))))))))))))))):=aB
def d6o:d9 prog [] [] [] [⟨1,[0,1,3,7,0,16,48,112,0,256,768,1792,4095,8191,8191,32767,65535,131071],rDx 18 622002111011101110,rPx 17 0++[1],rAx 0 17,[17]⟩] 212=some (.rq (.cells 2 V1)
(.pm f212 1 1 [V0]
(.pm f212 1 2 [V2]
(.pm f212 1 3 [V3]
(.pm f212 1 5 [V0]
(.pm f212 1 6 [V5]
(.pm f212 1 7 [V6]
(.pm f212 1 9 [V0]
(.pm f212 1 10 [V8]
(.pm f212 1 11 [V9]
(.call true 266 [V4,V7,V10]
(.rq (.tup 0 V11) (.rq (.tup 1 V11) (.call true 265 [(.pj V11 0),(.pj V11 1)]
(.call true 264 [V12]
(.rq (.cells 16 V13) (.ret [(.ag V13)]))))))))))))))))):=aB
def d6p:d9 prog [] [] [⟨0,3,[],[]⟩] [] 213=some (.rq (.cells 2 V1)
(.pm f213 1 1 [V0]
(.pm f213 1 2 [V2]
(.pm f213 1 3 [V3]
(.pm f213 1 4 [V4,(.ki 0)]
(.pm f213 1 5 [V5]
(.pm f213 2 1 [V0]
(.pm f213 2 2 [V7]
(.pm f213 2 3 [V8]
(.pm f213 2 4 [V9]
(.loop [V6,(.ki 0)]
(.ri V12
(.ri V10
(.br (.io .lss V12 V10)
(.pm f213 4 0 [V9,V12]
(.pm f213 4 1 [V13]
(.pm f213 5 2 [V11,V14]
(.next 0 [V15,(.io .add V12 (.ki 1))])))) (.call false 264 [V11]
(.rq (.cells 16 V13) (.ret [(.ag V13)]))))))))))))))))):=aB
def d6q:d9 prog [] [] [] [⟨1,[0,1,3,7,0,16,48,112,0,256,768,1792,0,4096,16383,32767,32767,131071,262143,524287,1048575],rDx 21 620200250111011101110,rPx 20 0++[1],rAx 0 20,[20]⟩] 214=some (.rq (.cells 2 V1)
(.pm f214 1 1 [V0]
(.pm f214 1 2 [V2]
(.pm f214 1 3 [V3]
(.pm f214 1 5 [V0]
(.pm f214 1 6 [V5]
(.pm f214 1 7 [V6]
(.pm f214 1 9 [V0]
(.pm f214 1 10 [V8]
(.pm f214 1 11 [V9]
(.call true 268 [V4,V7,V10,(.cell V1 0 0 noI)]
(.rq (.tup 0 V11) (.rq (.tup 1 V11) (.call true 267 [(.pj V11 0),(.pj V11 1)]
(.rq (.agg 2 V12) (.call true 264 [(.cell V12 0 0 noI)]
(.rq (.cells 16 V13) (.ret [(.ag V13)])))))))))))))))))):=aB
def d6r:d9 prog [] [] [] [⟨1,[0,1,3,7,0,16,48,112,0,256,768,1792,0,4096,16383,32767,32767,131071,262143,524287,1048575],rDx 21 620200250111011101110,rPx 20 0++[1],rAx 0 20,[20]⟩] 215=some (.rq (.cells 2 V1)
(.pm f215 1 1 [V0]
(.pm f215 1 2 [V2]
(.pm f215 1 3 [V3]
(.pm f215 1 5 [V0]
(.pm f215 1 6 [V5]
(.pm f215 1 7 [V6]
(.pm f215 1 9 [V0]
(.pm f215 1 10 [V8]
(.pm f215 1 11 [V9]
(.call true 268 [V4,V7,V10,(.cell V1 0 0 noI)]
(.rq (.tup 0 V11) (.rq (.tup 1 V11) (.call true 267 [(.pj V11 0),(.pj V11 1)]
(.rq (.agg 2 V12) (.call true 264 [(.cell V12 1 0 noI)]
(.rq (.cells 16 V13) (.ret [(.ag V13)])))))))))))))))))):=aB
def d6s:d9 prog [2,3,5] [] [] [⟨1,[0,1,3,7,15,31,15,79,207,463,975,2047,4095,8191],rDx 14 20011111110011,rPx 14 0,rAx 0 14,[]⟩] 216=some (.rq (.cells 1 V0) (.pub 191 V0
(.rq (.cells 2 V1) (.pub 195 V1
(.pm f216 1 0 [V3]
(.pm f216 1 1 [V4]
(.ri V5
(.br (.io .lss V5 (.ki 0)) (.call true 149 [(.k (.bool true)),(.ki 2)]
(.pm f216 2 0 [V2]
(.ef false f216 2 1 [V3]
(.call false 269 [V7,V8]
(.pub 39 (.z 39)
(.ef false f216 2 4 [V10,V9]
(.pm f216 3 0 [V2]
(.ef false f216 3 1 [V10,V2]
(.call false 271 [V12,V13]
(.pm f216 3 3 [V14]
(.call false 264 [V15]
(.rq (.cells 16 V16) (.ret [(.ag V16)])))))))))))))
(.pm f216 1 4 [V3]
(.pm f216 1 5 [V6]
(.pm f216 1 6 [V2]
(.pm f216 1 7 [V8]
(.pm f216 1 8 [V9]
(.pm f216 1 9 [V10]
(.pm f216 1 10 [V11]
(.ri V7
(.ri V12
(.call true 149 [(.io .geq V7 V12),(.ki 2)]
(.pm f216 2 0 [V2]
(.ef false f216 2 1 [V3]
(.call false 269 [V14,V15]
(.pub 39 (.z 39)
(.ef false f216 2 4 [V17,V16]
(.pm f216 3 0 [V2]
(.ef false f216 3 1 [V17,V2]
(.call false 271 [V19,V20]
(.pm f216 3 3 [V21]
(.call false 264 [V22]
(.rq (.cells 16 V23) (.ret [(.ag V23)])))))))))))))))))))))))))))))):=aB
def c9R:d9 prog [] [] [] [] 270=some (.rq (.cells 6 V0)
(.pm f270 1 2 [V1]
(.pm f270 1 3 [V2]
(.pm f270 1 4 [(.cell V0 2 0 noI),V3]
(.pm f270 1 5 [V4]
(.ret [V5])))))):=aB
def c9S:d9 prog [] [] [] [⟨1,[0,0,3,7,15,0,32,96,224,0,992,2016,4095,8191],rDx 14 110111101101,rPx 14 0,rAx 0 14,[]⟩] 272=some (.pm f272 1 0 [V1]
(.pm f272 1 2 [V3,V0]
(.pm f272 1 3 [V4]
(.ri V5
(.pm f272 1 5 [V2]
(.pm f272 1 6 [V6]
(.pm f272 1 7 [V7]
(.pm f272 1 8 [V8]
(.pm f272 1 10 [V9,V0]
(.pm f272 1 11 [V10]
(.ri V11
(.ret [(.io .gtr (.io .mul (.ki 2) V5) V11)])))))))))))):=aB
def d6t:d9 prog [3,5,6,999998] [] [⟨0,4,[],[]⟩] [⟨1,[0,1,3,7,15,31,15,79,207,463,975,2047,4095,8191],rDx 14 80077770770077,rPx 14 0,[],rAx 0 14⟩,⟨6,[0,0,0,6,14,31,63],rDx 7 8822201,rPx 7 0,[0,1,2,3,4],[5,6]⟩] 217=some (.rq (.cells 2 V1) (.pub 195 V1
(.pm f217 1 0 [V2]
(.pm f217 1 1 [V3]
(.ri V4
(.br (.io .lss V4 (.ki 0)) (.call false 149 [(.k (.bool true)),(.ki 2)]
(.pub 385 (.z 385)
(.pm f217 3 1 [V0]
(.pm f217 3 2 [V7]
(.pm f217 3 3 [V8]
(.pm f217 3 4 [V9]
(.loop [(.ki 0)]
(.ri V11
(.ri V10
(.br (.io .lss V11 V10) (.pub 3 (.z 3)
(.ef false f217 5 2 [V12,V11]
(.pm f217 6 0 [V6]
(.ef true f217 6 2 [V12]
(.call true 269 [V0,V15]
(.ef true f217 6 4 [V16]
(.ef false f217 6 5 [V14,V17]
(.ef false f217 6 6 [V6,V18]
(.next 0 [(.io .add V11 (.ki 1))])))))))))
(.ef false f217 8 1 [V6,V2]
(.call false 271 [V0,V12]
(.pm f217 8 3 [V13]
(.call false 264 [V14]
(.rq (.cells 16 V15) (.ret [(.ag V15)]))))))))))))))))
(.pm f217 1 4 [V2]
(.pm f217 1 5 [V5]
(.pm f217 1 7 [V0]
(.pm f217 1 8 [V7]
(.pm f217 1 9 [V8]
(.pm f217 1 10 [V9]
(.ri V6
(.ri V10
(.call false 149 [(.io .geq V6 V10),(.ki 2)]
(.pub 385 (.z 385)
(.pm f217 3 1 [V0]
(.pm f217 3 2 [V13]
(.pm f217 3 3 [V14]
(.pm f217 3 4 [V15]
(.loop [(.ki 0)]
(.ri V17
(.ri V16
(.br (.io .lss V17 V16) (.pub 3 (.z 3)
(.ef false f217 5 2 [V18,V17]
(.pm f217 6 0 [V12]
(.ef true f217 6 2 [V18]
(.call true 269 [V0,V21]
(.ef true f217 6 4 [V22]
(.ef false f217 6 5 [V20,V23]
(.ef false f217 6 6 [V12,V24]
(.next 0 [(.io .add V17 (.ki 1))])))))))))
(.ef false f217 8 1 [V12,V2]
(.call false 271 [V0,V18]
(.pm f217 8 3 [V19]
(.call false 264 [V20]
(.rq (.cells 16 V21) (.ret [(.ag V21)])))))))))))))))))))))))))))))):=aB
def c9T:d9 prog [] [] [] [] 273=some (.rq (.cells 6 V0)
(.pm f273 1 2 [V1]
(.pm f273 1 3 [(.cell V0 3 0 noI),V2]
(.pm f273 1 4 [V3]
(.ret [V4]))))):=aB
def c9U:d9 prog [] [] [⟨0,2,[],[]⟩] [⟨4,[0,0,2,7,15,31,31,127,255,31,31,1055,3615,7711,31,32287,65055,131071,262143],rDx 19 11011111110000110,rPx 19 0,rAx 0 19,[]⟩] 274=some (.pm f274 1 0 [V1]
(.pm f274 1 1 [V3]
(.loop [(.k (.bool false)),(.ki 0)]
(.ri V6
(.ri V4
(.br (.io .lss V6 V4)
(.pm f274 3 1 [V3,V6]
(.pm f274 3 2 [V7]
(.pm f274 4 1 [V2]
(.pm f274 4 2 [V9]
(.ri V10
(.br (.io .neq V6 V10)
(.pm f274 4 7 [V8,V0]
(.pm f274 4 8 [V11]
(.pm f274 4 9 [V1]
(.pm f274 4 10 [V2]
(.pm f274 4 11 [V14]
(.pm f274 4 12 [V13,V15]
(.pm f274 4 13 [V16]
(.pm f274 4 15 [V17,V0]
(.pm f274 4 16 [V18]
(.ri V12
(.ri V19
(.br (.io .geq V12 V19) (.ret [(.k (.bool false))]) (.next 0 [V5,(.io .add V6 (.ki 1))]))))))))))))) (.next 0 [V5,(.io .add V6 (.ki 1))]))))))) (.ret [(.k (.bool true))]))))))):=aB
def d6u:d9 prog [] [] [] [] 152=some (.ef false f152 1 1 [V0]
(.ef false f152 1 3 [V0]
(.ef false f152 1 5 [V0]
(.ef false f152 1 7 [V0]
(.ef false f152 1 9 [V0]
(.ef false f152 1 11 [V0]
(.ef false f152 1 13 [V0]
(.ef false f152 1 15 [V0]
(.rq (.cells 1 V1) (.rq (.cells 1 V2) (.rq (.cells 1 V3) (.rq (.cells 1 V4) (.rq (.cells 1 V5) (.rq (.cells 1 V6) (.rq (.cells 1 V7) (.rq (.cells 1 V8) (.ret [(.put (.put (.put (.put (.put (.put (.put (.put (.z 261) 1 1 V1 0 noI) 2 1 V2 0 noI) 3 1 V3 0 noI) 4 1 V4 0 noI) 5 1 V5 0 noI) 6 1 V6 0 noI) 7 1 V7 0 noI) 8 1 V8 0 noI)]))))))))))))))))):=aB
def d6v:d9 prog [] [] [] [⟨3,[0,1,3,0,15,31],[0,0,5,5,2,6],[0,0,2,0,0,1],[0,1,2,3,4],[5]⟩] 104=some (.rq (.cells 2 V2) (.call false 152 [V0]
(.rq (.cells 9 V3)
(.ri V1
(.br (.io .lss V1 (.ki 1)) (.call false 149 [(.k (.bool true)),(.ki 2)]
(.rq (.num V1) (.rq (.lt 9 V1)
(.ef true f104 3 4 [(.cell V3 0 1 V1),(.ag V2)]
(.rq (.cells 16 V5) (.ret [(.ag V5)])))))) (.call false 149 [(.io .geq V1 (.ki 9)),(.ki 2)]
(.rq (.num V1) (.rq (.lt 9 V1)
(.ef true f104 3 4 [(.cell V3 0 1 V1),(.ag V2)]
(.rq (.cells 16 V5) (.ret [(.ag V5)]))))))))))):=aB
def d6w:d9 prog (rAx 7 7) [] [] [] 55=some (.rq (.cells 2 V0) (.pub 33 V0
(.rq (.cells 4 V1) (.pub 36 V1
(.rq (.cells 1 V2) (.pub 40 V2
(.rq (.cells 1 V3) (.pub 3 V3
(.rq (.cells 1 V4) (.pub 3 V4
(.rq (.cells 1 V5) (.pub 3 V5
(.rq (.cells 1 V6) (.pub 3 V6
(.ef false f55 1 0 [V7,V8,V9,V10,V11,V12,V13]
(.call false 101 [V14]
(.rq (.tup 0 V15) (.rq (.tup 1 V15) (.rq (.cells 16 (.pj V15 0)) (.ret [(.ag (.pj V15 0)),(.pj V15 1)])))))))))))))))))))):=aB
def c9V:d9 prog [] [] [] [⟨1,[0,0,0,0,15,0,0,0,192,511,1023],rDx 11 62011121111,rPx 11 0,rDx 10 9487653210,[10]⟩] 102=some (.pm f102 1 0 [V0]
(.pm f102 1 1 [V1]
(.pm f102 1 2 [V2]
(.pm f102 1 3 [V3]
(.pm f102 1 5 [V4]
(.pm f102 1 6 [V5]
(.pm f102 1 7 [V6]
(.rq (.cells 1 V12) (.rq (.cells 1 V13) (.call true 103 [V7,V8,V9,V10]
(.call true 104 [V14,V11,(.put (.cat V12 1 (.z 3)) 1 1 V13 0 noI)]
(.rq (.cells 16 V15) (.ret [(.ag V15)]))))))))))))):=aB
def d6x:d9 prog [] [] [] [] 299=some (.rq (.cells 16 V0)
(.ri V1
(.br (.io .neq V1 (.ki 0)) (.rq (.cells 1 V1)
(.pm f299 2 2 [(.ag V1)]
(.ef false f299 2 3 [V2]
(.ret [(.ag V0)])))) (.ret [(.ag V0)])))):=aB
def d6y:d9 prog [] [] [] [] 258=some (.ri V0
(.br (.io .neq V0 (.ki 0)) (.rq (.cells 1 V0)
(.pm f258 1 2 [(.ag V0)]
(.ef false f258 1 3 [V1]
(.ret [])))) (.ret []))):=aB
def d6z:d9 prog [] [] [] [] 259=some (.rq (.bool V0) (.br V0
(.call false 258 [V1]
(.ret [])) (.ret []))):=aB
def e0I:d9 prog [] [] [] [] 301=some (.call false 59 [V0,V1]
(.rq (.tup 0 V2) (.rq (.tup 1 V2) (.call false 299 [(.pj V2 0),(.pj V2 1)]
(.rq (.cells 16 V3) (.ret [(.ag V3)])))))):=aB
def d6A:d9 prog [] [] [] [] 208=some (.rq (.cells 4 V0) (.call false 80 [(.ag V0)]
(.call false 258 [V2]
(.ri V1
(.br (.io .lss V1 (.ki 1)) (.call false 259 [(.k (.bool true)),(.ki 2)]
(.rq (.cells 1 V1) (.ret [(.cat (.ag V0) 4 V1)]))) (.call false 259 [(.io .gtr V1 (.ki 8)),(.ki 2)]
(.rq (.cells 1 V1) (.ret [(.cat (.ag V0) 4 V1)])))))))):=aB
def d6B:d9 prog [1] [] [] [] 261=some (.rq (.cells 5 V0) (.pub 317 V0
(.ef false f261 1 0 [V1]
(.ret [V2])))):=aB
def c9W:d9 prog [] [] [⟨0,1,[],[]⟩] [] 295=some (.pm f295 0 0 [V1]
(.pm f295 0 1 [V2]
(.pm f295 0 2 [V3]
(.pm f295 0 3 [V4]
(.loop [(.ki 0)]
(.ri V6
(.ri V5
(.br (.io .lss V6 V5)
(.pm f295 2 1 [V4,V6]
(.pm f295 2 2 [V7]
(.rq (.cells 6 V8) (.rq (.bool (.cell V8 5 0 noI)) (.br (.cell V8 5 0 noI) (.ret [])
(.ef false f295 3 6 [V0,V6,(.ag V8)]
(.rq (.bool V9) (.br (.nt V9) (.ret []) (.next 0 [(.io .add V6 (.ki 1))]))))))))) (.ret []))))))))):=aB
def d6C:d9 prog [] [] [⟨4,3,[],[1]⟩] [] 298=some (.rq (.cells 5 V0) (.call false 261 [(.ag V0)]
(.rf V1 2 [(.z 3)]
(.rq (.cells 6 V3) (.rq (.int .i64 (.cell V4 0 0 noI)) (.rq (.int .i64 (.cell V3 1 0 noI)) (.next 0 [(.io .add (.cell V4 0 0 noI) (.cell V3 1 0 noI))])))) (.rq (.cells 1 (.cell V2 0 0 noI)) (.ret [(.cell (.cell V2 0 0 noI) 0 0 noI)])) (.dead 818)))):=aB
def d6D:d9 prog [] [] [⟨4,3,[],[1]⟩,⟨0,7,[],[]⟩] [] 260=some (.rq (.cells 5 V0) (.call false 261 [(.ag V0)]
(.rf V2 2 [(.ki 0)]
(.rq (.int .i64 (.cell V5 0 0 noI)) (.next 0 [(.io .add (.cell V5 0 0 noI) (.ki 1))]))
(.pm f260 4 1 [V1]
(.ri V4
(.rq (.int .i64 (.cell V3 0 0 noI)) (.call false 259 [(.io .neq V4 (.cell V3 0 0 noI)),(.ki 220)]
(.ef false f260 5 0 []
(.pm f260 6 1 [V1]
(.loop [(.ki 0)]
(.ri V8
(.ri V7
(.br (.io .lss V8 V7)
(.pm f260 8 0 [V1,V8]
(.pm f260 8 1 [V9]
(.ri V10
(.br (.io .lss V10 (.ki 0)) (.call false 259 [(.k (.bool true)),(.ki 220)]
(.ef false f260 10 2 [V6,V10,(.k (.bool true))]
(.next 0 [(.io .add V8 (.ki 1))]))) (.rq (.int .i64 (.cell V0 4 0 noI)) (.call false 259 [(.io .geq V10 (.cell V0 4 0 noI)),(.ki 220)]
(.ef false f260 10 2 [V6,V10,(.k (.bool true))]
(.next 0 [(.io .add V8 (.ki 1))]))))))))
(.pm f260 12 1 [V6]
(.ri V9
(.rq (.int .i64 (.cell V0 4 0 noI)) (.call false 259 [(.io .neq V9 (.cell V0 4 0 noI)),(.ki 220)]
(.ret []))))))))))))))) (.dead 818)))):=aB
def d6E:d9 prog [] [] [⟨4,6,[],[]⟩] [⟨6,[0,0,0,6,14,31,63,0,128,511,1023,2047],rDx 12 810501111055,rDx 12 300000012,rAx 0 11,[11]⟩] 209=some (.rq (.cells 5 V0) (.rq (.cells 1 V1) (.call false 260 [(.ag V0),(.cell V1 0 0 noI)]
(.ef false f209 2 2 [(.cell V0 4 0 noI),(.cell V0 4 0 noI)]
(.rq (.cells 1 V3) (.call false 261 [(.ag V0)]
(.rf V4 2 []
(.rq (.cells 6 V6)
(.pm f209 6 3 [(.cell V1 0 0 noI),V5]
(.pm f209 6 4 [V7]
(.pm f209 6 5 [(.cell V3 0 0 noI),V8]
(.pm f209 6 6 [V9]
(.ri V10
(.rq (.int .i64 (.cell V6 1 0 noI))
(.pm f209 6 10 [(.cell V3 0 0 noI),V8]
(.ef false f209 6 11 [V11,(.io .add V10 (.cell V6 1 0 noI))]
(.next 0 [])))))))))) (.ret [(.cell V3 0 0 noI)]) (.dead 818)))))))):=aB
def d6F:d9 prog [3,4,5] [] [] [] 151=some (.rq (.cells 4 V0) (.pub 36 V0
(.rq (.cells 1 V1) (.pub 40 V1
(.rq (.cells 1 V2) (.pub 3 V2
(.ef false f151 1 0 [V3,V5,V4]
(.call false 206 [V6]
(.rq (.tup 0 V7) (.rq (.tup 1 V7) (.ret [(.pj V7 0),(.pj V7 1)]))))))))))):=aB
def c9X:d9 prog [] [] [] [⟨1,[0,0,3,0,15,31],[1,1,2,1,2,0],[0,0,0,0,0,0],[0,1,3,2,4,5],[]⟩] 207=some (.pm f207 1 0 [V0]
(.pm f207 1 1 [V1]
(.pm f207 1 3 [V2]
(.call true 208 [V3,V4]
(.call true 209 [V6,V5]
(.ret [V7])))))):=aB
def d6G:d9 prog [3,4,5] [] [] [] 331=some (.rq (.cells 4 V0) (.pub 36 V0
(.rq (.cells 1 V1) (.pub 40 V1
(.rq (.cells 1 V2) (.pub 3 V2
(.ef false f331 1 0 [V3,V5,V4]
(.call false 343 [V6]
(.rq (.tup 0 V7) (.rq (.tup 1 V7) (.ret [(.pj V7 1)]))))))))))):=aB
def c9Y:d9 prog [] [] [] [⟨1,[0,0,3,0,15],[1,1,2,1,2],[0,0,0,0,0],[0,1,3,2,4],[]⟩] 344=some (.pm f344 1 0 [V0]
(.pm f344 1 1 [V1]
(.pm f344 1 3 [V2]
(.call true 208 [V3,V4]
(.call true 260 [V6,V5]
(.ret [(.k (.bool true))])))))):=aB
def d6H:d9 prog [3,4,5] [] [] [] 263=some (.rq (.cells 4 V0) (.pub 36 V0
(.rq (.cells 1 V1) (.pub 40 V1
(.rq (.cells 1 V2) (.pub 3 V2
(.ef false f263 1 0 [V3,V5,V4]
(.call false 296 [V6]
(.rq (.tup 0 V7) (.rq (.tup 1 V7) (.rq (.cells 16 (.pj V7 0)) (.ret [(.ag (.pj V7 0)),(.pj V7 1)])))))))))))):=aB
def c9Z:d9 prog [] [] [] [⟨2,[0,0,3,0,15,31,63],rDx 7 25215,rDx 7 1001,rDx 7 6542310,[]⟩,⟨4,[0,1,3,0,15,0,32,96,0,511,1023,2047,0,0,16383,32767,65535,65535,262143,524287],rDx 20 62002210202011020110,rPx 20 0,[0,1,2,3,5,6,7,8,12,13,4,9,10,11]++rAx 14 5,[19]⟩] 297=some (.pm f297 1 0 [V0]
(.pm f297 1 1 [V1]
(.call false 208 [V3,V4]
(.rq (.cells 5 V5)
(.pm f297 2 1 [V2]
(.call true 209 [(.ag V5),V6]
(.call true 298 [(.ag V5)]
(.ri V8
(.call false 259 [(.io .eql V8 (.ki 0)),(.ki 7)]
(.pm f297 4 1 [V7,(.ki 0)]
(.pm f297 4 2 [V10]
(.pm f297 4 6 [V7,(.ki 0)]
(.pm f297 4 7 [V12]
(.pm f297 4 13 [V1]
(.call true 302 [V11,V7]
(.call true 303 [V13,V7]
(.ri V15
(.ri V16
(.call true 301 [(.io .sub V15 V16),(.ki 1)]
(.call true 301 [V8,V14]
(.call true 300 [V17,V18]
(.rq (.tup 0 V19) (.rq (.tup 1 V19) (.call true 299 [(.pj V19 0),(.pj V19 1)]
(.rq (.cells 16 V20) (.ret [(.ag V20)])))))))))))))))))))))))))):=aB
def d6I:d9 prog [] [] [⟨0,2,[],[]⟩] [] 303=some (.pm f303 1 1 [V1]
(.loop [V0,(.ki 0)]
(.ri V4
(.ri V2
(.br (.io .lss V4 V2)
(.pm f303 3 0 [V1,V4]
(.pm f303 3 1 [V5]
(.pm f303 4 2 [V3,V6]
(.next 0 [V7,(.io .add V4 (.ki 1))])))) (.ret [V3])))))):=aB
def d6J:d9 prog [] [] [⟨0,2,[],[]⟩] [] 302=some (.pm f302 1 1 [V1]
(.loop [V0,(.ki 0)]
(.ri V4
(.ri V2
(.br (.io .lss V4 V2)
(.pm f302 3 0 [V1,V4]
(.pm f302 3 1 [V5]
(.pm f302 4 2 [V3,V6]
(.next 0 [V7,(.io .add V4 (.ki 1))])))) (.ret [V3])))))):=aB
def d6K:d9 prog [] [] [] [] 332=some (.rq (.cells 4 V0) (.call false 80 [(.ag V0)]
(.ri V2
(.br (.io .neq V2 (.ki 0)) (.ret [(.cat (.z 36) 4 (.z 3)),V2])
(.ri V1
(.br (.io .lss V1 (.ki 0)) (.ret [(.cat (.z 36) 4 (.z 3)),(.ki 2)]) (.rq (.int .i64 (.cell V0 2 0 noI)) (.br (.io .geq V1 (.cell V0 2 0 noI)) (.ret [(.cat (.z 36) 4 (.z 3)),(.ki 2)]) (.rq (.cells 1 V1) (.ret [(.cat (.ag V0) 4 V1),(.ki 0)])))))))))):=aB
def d6L:d9 prog [1] [] [] [] 345=some (.rq (.cells 5 V0) (.pub 440 V0
(.ef false f345 1 0 [V1]
(.ret [V2])))):=aB
def d0a:d9 prog [] [] [⟨0,1,[],[]⟩] [] 352=some (.pm f352 0 0 [V1]
(.pm f352 0 1 [V2]
(.pm f352 0 2 [V3]
(.pm f352 0 3 [V4]
(.loop [(.ki 0)]
(.ri V6
(.ri V5
(.br (.io .lss V6 V5)
(.pm f352 2 1 [V4,V6]
(.pm f352 2 2 [V7]
(.rq (.cells 6 V8) (.rq (.bool (.cell V8 5 0 noI)) (.br (.nt (.cell V8 5 0 noI))
(.pm f352 3 8 [V1]
(.pm f352 3 9 [V9]
(.pm f352 3 10 [(.cell V8 4 0 noI),V10]
(.pm f352 3 11 [V11]
(.ef false f352 3 12 [V0,V6,V12]
(.rq (.bool V13) (.br (.nt V13) (.ret []) (.next 0 [(.io .add V6 (.ki 1))])))))))) (.next 0 [(.io .add V6 (.ki 1))])))))) (.ret []))))))))):=aB
def d6M:d9 prog [25] [] [⟨4,5,[],[]⟩,⟨0,15,[],[]⟩] [] 333=some (.rq (.cells 5 V0) (.rq (.cells 1 V1)
(.ef false f333 1 0 []
(.rq (.cells 1 V2) (.call false 345 [(.ag V0)]
(.rf V3 2 []
(.pm f333 5 2 [(.cell V2 0 0 noI),V5]
(.pm f333 6 1 [V6,(.k (.pointer none))]
(.rq (.bool V7) (.br V7
(.rq (.cells 1 V5) (.pub 422 (.cat V5 1 (.cat (.z 3) 1 (.z 5)))
(.ef false f333 8 3 [(.cell V2 0 0 noI),V5,V8]
(.pm f333 10 1 [(.cell V1 0 0 noI)]
(.ri V10
(.br (.io .gtr V10 (.ki 0))
(.pm f333 11 2 [(.cell V1 0 0 noI),V4]
(.pm f333 11 3 [V11]
(.pm f333 12 5 [(.cell V0 3 0 noI),V4]
(.pm f333 12 6 [V13]
(.pm f333 12 7 [V14]
(.call false 346 [V8,V15,V12]
(.next 0 [])))))))
(.pm f333 12 5 [(.cell V0 3 0 noI),V4]
(.pm f333 12 6 [V11]
(.pm f333 12 7 [V12]
(.call false 346 [V8,V13,(.ki 0)]
(.next 0 [])))))))))))
(.pm f333 10 1 [(.cell V1 0 0 noI)]
(.ri V8
(.br (.io .gtr V8 (.ki 0))
(.pm f333 11 2 [(.cell V1 0 0 noI),V4]
(.pm f333 11 3 [V9]
(.pm f333 12 5 [(.cell V0 3 0 noI),V4]
(.pm f333 12 6 [V11]
(.pm f333 12 7 [V12]
(.call false 346 [V6,V13,V10]
(.next 0 [])))))))
(.pm f333 12 5 [(.cell V0 3 0 noI),V4]
(.pm f333 12 6 [V9]
(.pm f333 12 7 [V10]
(.call false 346 [V6,V11,(.ki 0)]
(.next 0 []))))))))))))
(.ef false f333 14 1 [(.cell V2 0 0 noI)]
(.loop [(.k (.slice none 0 0))]
(.ef false f333 15 0 [V4]
(.rq (.tup 0 V6) (.rq (.bool (.pj V6 0)) (.br (.pj V6 0)
(.ef false f333 16 0 [V4]
(.rq (.tup 1 V7)
(.pm f333 17 2 [(.pj V7 1)]
(.pm f333 17 3 [V8]
(.ef false f333 17 4 [V9]
(.ef false f333 17 5 [V5,V10]
(.next 0 [V11]))))))) (.call false 347 [V5,(.k (.func (.func 348) #[] #[]))]
(.ret [V5])))))))) (.dead 818))))))):=aB
def d0b:d9 prog [] [] [] [] 348=some (.rq (.cells 3 V0) (.rq (.cells 3 V1) (.rq (.int .i64 (.cell V0 0 0 noI)) (.rq (.int .i64 (.cell V1 0 0 noI)) (.ret [(.io .sub (.cell V0 0 0 noI) (.cell V1 0 0 noI))]))))):=aB
def d6N:d9 prog [] [] [] [⟨1,[0,1,3,7,0,16,63,127,255,511],rDx 10 8110001110,rPx 10 0,rAx 0 9,[9]⟩] 346=some (.pm f346 0 1 [V0]
(.pm f346 0 2 [V3]
(.pm f346 0 3 [V4]
(.ri V5
(.ri V1
(.pm f346 0 6 [V0]
(.pm f346 0 7 [V6]
(.ef false f346 0 8 [V7,(.io .add V5 V1)]
(.pm f346 1 1 [V0]
(.pm f346 1 2 [V9]
(.pm f346 1 3 [V10]
(.rq (.num V2) (.rq (.nn V2) (.rq (.int .u8 V11)
(.pm f346 1 7 [V0]
(.pm f346 1 8 [V12]
(.ef false f346 1 9 [V13,(.op2 .or .u8 V11 (.op2 .shl .u8 (kB 1) V2))]
(.ret [])))))))))))))))))):=aB
def d6O:d9 prog [] [] [] [] 306=some (.rq (.cells 3 V0) (.call false 334 [(.cell V0 2 0 noI)]
(.ret [V1]))):=aB
def d6P:d9 prog [] [] [⟨0,2,[],[]⟩] [] 307=some (.pm f307 1 1 [V0]
(.loop [(.k (.slice none 0 0)),(.ki 0)]
(.ri V5
(.ri V3
(.br (.io .lss V5 V3)
(.pm f307 3 0 [V0,V5]
(.pm f307 3 1 [V6]
(.rq (.cells 3 V7)
(.ef false f307 4 2 [V1,(.ag V7)]
(.rq (.bool V8) (.br V8
(.ef false f307 5 3 [V2,(.ag V7)]
(.ef false f307 5 4 [V9]
(.ef false f307 5 5 [V4,V10]
(.next 0 [V11,(.io .add V5 (.ki 1))])))) (.next 0 [V4,(.io .add V5 (.ki 1))]))))))) (.ret [V4])))))):=aB
def d6Q:d9 prog [] [] [] [] 310=some (.rq (.cells 3 V0) (.ret [(.k (.bool true))])):=aB
def d6R:d9 prog [] [] [] [] 308=some (.rq (.cells 3 V0) (.ret [(.cell V0 0 0 noI)])):=aB
def d6S:d9 prog [] [] [] [] 304=some (.rq (.cells 4 V0) (.call false 331 [(.ag V0),V1,V2]
(.ri V4
(.br (.io .neq V4 (.ki 0)) (.ret [(.k (.slice none 0 0)),V4]) (.call false 332 [(.ag V0),V3]
(.rq (.tup 0 V5) (.rq (.tup 1 V5) (.rq (.cells 5 (.pj V5 0)) (.rq (.int .i64 (.pj V5 1)) (.br (.io .neq (.pj V5 1) (.ki 0)) (.ret [(.k (.slice none 0 0)),(.pj V5 1)]) (.call false 333 [(.ag (.pj V5 0)),V1]
(.ret [V6,(.ki 0)])))))))))))):=aB
def d6T:d9 prog [] [] [] [] 268=some (.rq (.cells 4 V0) (.call false 304 [(.ag V0),V1,V2,V3]
(.rq (.tup 0 V4) (.rq (.tup 1 V4) (.rq (.int .i64 (.pj V4 1)) (.br (.io .neq (.pj V4 1) (.ki 0)) (.ret [(.cat (.z 3) 1 (.z 3)),(.pj V4 1)]) (.call false 307 [(.pj V4 0),(.k (.func (.func 305) #[] #[])),(.k (.func (.func 308) #[] #[]))]
(.pm f268 5 3 [V5]
(.call false 307 [(.pj V4 0),(.k (.func (.func 310) #[] #[])),(.k (.func (.func 306) #[] #[]))]
(.call false 309 [V7]
(.rq (.cells 1 V6) (.rq (.cells 1 V8) (.ret [(.put (.cat V6 1 (.z 3)) 1 1 V8 0 noI),(.ki 0)]))))))))))))):=aB
def d0c:d9 prog [] [] [] [] 305=some (.rq (.cells 3 V0) (.call false 306 [(.ag V0)]
(.ri V1
(.ret [(.io .gtr V1 (.ki 1))])))):=aB
def d6U:d9 prog [] [] [⟨0,2,[],[]⟩] [] 309=some (.pm f309 1 1 [V0]
(.loop [(.ki 0),(.ki 0)]
(.ri V3
(.ri V1
(.br (.io .lss V3 V1)
(.pm f309 3 0 [V0,V3]
(.pm f309 3 1 [V4]
(.ri V2
(.ri V5
(.next 0 [(.io .add V2 V5),(.io .add V3 (.ki 1))]))))) (.ret [V2])))))):=aB
def e0J:d9 prog [] [] [] [] 334=some (.pm f334 1 1 [(.k (.string ⟨#[0,1,1,2,1,2,2,3,1,2,2,3,2,3,3,4,1,2,2,3,2,3,3,4,2,3,3,4,3,4,4,5,1,2,2,3,2,3,3,4,2,3,3,4,3,4,4,5,2,3,3,4,3,4,4,5,3,4,4,5,4,5,5,6,1,2,2,3,2,3,3,4,2,3,3,4,3,4,4,5,2,3,3,4,3,4,4,5,3,4,4,5,4,5,5,6,2,3,3,4,3,4,4,5,3,4,4,5,4,5,5,6,3,4,4,5,4,5,5,6,4,5,5,6,5,6,6,7,1,2,2,3,2,3,3,4,2,3,3,4,3,4,4,5,2,3,3,4,3,4,4,5,3,4,4,5,4,5,5,6,2,3,3,4,3,4,4,5,3,4,4,5,4,5,5,6,3,4,4,5,4,5,5,6,4,5,5,6,5,6,6,7,2,3,3,4,3,4,4,5,3,4,4,5,4,5,5,6,3,4,4,5,4,5,5,6,4,5,5,6,5,6,6,7,3,4,4,5,4,5,5,6,4,5,5,6,5,6,6,7,4,5,5,6,5,6,6,7,5,6,6,7,6,7,7,8]⟩)),V0]
(.rq (.int .u8 V1) (.ret [(.cv .i64 V1)]))):=aB
def d6V:d9 prog [] [] [⟨0,6,[],[]⟩] [⟨8,[0,1,3,7,0,16,63,127,0,256,768,1792,0,4096,16128,32512,65535],rDx 17 1150111011501110,rDx 17 10000000100000,rAx 0 17,[]⟩] 266=some (.rq (.cells 2 V0) (.call false 163 [(.ag V0),V1,V2]
(.rq (.tup 0 V3) (.rq (.tup 1 V3) (.rq (.int .i64 (.pj V3 1)) (.br (.io .neq (.pj V3 1) (.ki 0)) (.ret [(.ki 0),(.pj V3 1)])
(.pm f266 5 1 [(.pj V3 0)]
(.pm f266 5 2 [V4]
(.pm f266 5 3 [V5]
(.pm f266 5 4 [V6]
(.pm f266 5 5 [V7]
(.loop [(.ki 0),(.ki 0)]
(.ri V10
(.ri V8
(.br (.io .lss V10 V8)
(.pm f266 7 0 [V7,V10]
(.pm f266 7 1 [V11]
(.rq (.cells 2 V12)
(.pm f266 8 1 [(.pj V3 0)]
(.pm f266 8 2 [V13]
(.pm f266 8 3 [V14]
(.pm f266 8 6 [V15,(.cell V12 0 0 noI)]
(.pm f266 8 7 [V16]
(.pm f266 8 9 [(.pj V3 0)]
(.pm f266 8 10 [V18]
(.pm f266 8 11 [V19]
(.pm f266 8 14 [V20,(.cell V12 1 0 noI)]
(.pm f266 8 15 [V21]
(.ri V17
(.ri V22
(.br (.io .neq V17 V22)
(.ri V9
(.next 0 [(.io .add V9 (.ki 1)),(.io .add V10 (.ki 1))])) (.next 0 [V9,(.io .add V10 (.ki 1))]))))))))))))))))) (.ret [V9,(.ki 0)])))))))))))))))):=aB
end Go.Z
namespace Go.RX
open RowKit RZ
def RH {P:Program} {H:PH} {o:Oper} {x:Operand} {kt et t:TypeId} {κ:Type} {ok:κ->Prop} {ke:κ->Value} {vs:List Value} {m:Value} {L:List (κ×Value)} (ho:o.op= .call ⟨.builtin .len,#[x],#[t]⟩) (hx:e8 [x] vs x=m) (hu:P.underlying t=some (.map kt et)) (h:MK ok ke H m L):Rds P o vs H (.int .i64 (L.length:Nat)):=by
 obtain⟨r,es,clock,rfl,hH,_,rfl⟩:=h;have:=MQ (P:=P) ho hx hu hH;have e:(eN ke es).toArray.size=(kvN es).length:=by simp[eN,kvN]
 rw[e]at this;exact this
end Go.RX
namespace Go.GS
structure PlOk (n k:Nat) (p:List Int):Prop where
 len:p.length=n
 lab:∀x∈p,0<=x/\x<(k:Nat)
 all:∀d,d<k->((d:Nat):Int)∈p
def i9 (f:Un->Int) (us:List Un) (p:List Int):Nat->Nat->Int
 |0,_=>0
 |i+1,d=>i9 f us p i d+(match p[i]?,us[i]? with|some x,some u=>if x=(d:Nat)then f u else 0|_,_=>0)
def s0 (f:Un->Int) (us:List Un) (p:List Int) (k i:Nat):List Int:=(eO k).map (i9 f us p i)
def Iw {f:Un->Int} {us:List Un} {p:List Int} {k i:Nat}:(s0 f us p k i).length=k:=by simp[s0]
def Gq {f:Un->Int} {us:List Un} {p:List Int} {k i d:Nat} (h:d<k):(s0 f us p k i)[d]? =some (i9 f us p i d):=by
 unfold s0;rw[aX,cP h];rfl
def RJ {f:Un->Int} {us:List Un} {p:List Int} {k:Nat}:s0 f us p k 0=List.replicate k 0:=by
 apply bP;intro d;by_cases h:d<k
 ·rw[Gq h,dI,if_pos h];rfl
 ·rw[aO (by rw[Iw];omega),aO (by simp;omega)]
def RL {f:Un->Int} {us:List Un} {p:List Int} {k i:Nat} {x:Nat} {u:Un} (hp:p[i]? =some ((x:Nat):Int)) (hu:us[i]? =some u):s0 f us p k (i+1)=(s0 f us p k i).set x (i9 f us p i x+f u):=by
 apply bP;intro d;rw[dF];by_cases h:d<k
 ·rw[Gq h];show some (i9 f us p i d+_)=_;rw[hp,hu];simp only;by_cases e:x=d
  ·subst e;rw[if_pos rfl,if_pos rfl,if_pos (by rw[Iw];exact h)]
  ·rw[if_neg aA,if_neg e,Gq h,Int.add_zero]
 ·rw[aO (by rw[Iw];omega)];split
  ·rename_i e;rw[if_neg (by rw[Iw];omega)]
  ·rw[aO (by rw[Iw];omega)]
def Wz {f:Un->Int} {us:List Un} {p:List Int} {M:Int} (h0:0<=M) (h:∀x∈us,0<=f x/\f x<=M) (d:Nat):∀i:Nat,0<=i9 f us p i d/\i9 f us p i d<=(i:Nat)*M:=by
 intro i;induction i with
 |zero=>exact⟨kM _,by simp[i9]⟩
 |succ i ih=>
  have e:i9 f us p (i+1) d=i9 f us p i d+(match p[i]?,us[i]? with|some x,some u=>if x=(d:Nat)then f u else 0|_,_=>0):=rfl;have hb:0<=(match p[i]?,us[i]? with|some x,some u=>if x=(d:Nat)then f u else 0|_,_=>0)/\(match p[i]?,us[i]? with|some x,some u=>if x=(d:Nat)then f u else 0|_,_=>0)<=M:=by
   split
   ·rename_i x u h1 h2;have:=h u (aK h2);split<;>omega
   ·omega
  rw[e,oD,pR,pT];omega
def Aw (us:List Un):Nat->Int
 |0=>0
 |i+1=>Aw us i+((us[i]?).map (·.ppl)).getD 0
def bn {dm:Dm} {us:List Un} (h:∀x∈us,UnV dm x):∀i:Nat,0<=Aw us i/\Aw us i<=(i:Nat)*1000000000:=by
 intro i;induction i with
 |zero=>exact⟨kM _,by simp[Aw]⟩
 |succ i ih=>
  have e:Aw us (i+1)=Aw us i+((us[i]?).map (·.ppl)).getD 0:=rfl;have hb:0<=((us[i]?).map (·.ppl)).getD 0/\((us[i]?).map (·.ppl)).getD 0<=1000000000:=by
   cases hx:us[i]? with
   |none=>exact⟨kM _,aC⟩
   |some x=>
    have hv:=h x (aK hx);have h1:=hv.p0;have h2:=hv.p1;show 0<=x.ppl/\x.ppl<=_;split at h2<;>omega
  rw[e,oD,pR,pT];omega
def d0d {κ:Type} {L:List (Int×κ)} {k:Nat} (hn:(L.map (·.1)).Nodup) (h1:∀x∈L.map (·.1),(0:Int)<=x/\x<((k:Nat):Int)) (h2:∀d,d<k->((d:Nat):Int)∈L.map (·.1)):L.length=k:=by
 have hp:(L.map fun p:Int×κ=>p.1).Perm ((eO k).map fun d:Nat=>(d:Int)):=by
  rw[List.perm_ext_iff_of_nodup hn]
  ·intro x;constructor
   ·intro hx;obtain⟨a,b⟩:=h1 x hx;exact aZ.2 ⟨x.toNat,aW.2 aA,aA⟩
   ·intro hx;obtain⟨d,hd,rfl⟩:=aZ.1 hx;exact h2 d (aW.1 hd)
  ·exact List.pairwise_map.2 (List.nodup_range.imp fun h e=>h aA)
 have:=hp.length_eq;simpa using this
end Go.GS
namespace Go.Z
open Proofs.Tryz RowKit RX GS
section
variable {dm:Dm} {H B:PH} {n k:Nat} {us:List Un} {w:Value} {u v:Value}
def c3O:Asks prog 258 [ii 0] H (.tuple #[]):=by
 refine g5 mixed d6y ?_;refine b9 ?_;refine i7 (bF (p:=(0:Int)≠0) aD) ?_;exact d4 rfl ⟨rfl,rfl⟩
def bp (e:Int):Asks prog 259 [.bool false,ii e] H (.tuple #[]):=by
 refine g5 mixed d6z ?_;refine b9 ?_;refine i7 rfl ?_;exact d4 rfl ⟨rfl,rfl⟩
def caB (dm:Dm) (w:Value) (k:Nat):Array Value:= #[ii (dm.g:Nat),ii (dm.p:Nat),ii (dm.l:Nat),w,ii (k:Nat)]
def coV (dm:Dm) (w:Value) (k:Nat):Value:= .agg (caB dm w k)
def bu (h:y6 w=true):(coV dm w k).cells.size=5/\j0 (coV dm w k).cells:=⟨rfl,fun c hc=>by
 simp[coV,caB,Value.cells]at hc;rcases hc with rfl|rfl|rfl|rfl|rfl
 ·rfl
 ·rfl
 ·rfl
 ·exact h
 ·rfl⟩
def BY (hr:RoR H w us) (hv:RoV dm n us) (hk:1<=k/\k<=8):j4 prog 208 [rov dm w,ii (k:Nat)] H (coV dm w k):=by
 refine g5 mixed d6A ?_;refine b4 (Gp hr.one) ?_;refine i8 (ay hr hv) rfl fun H1 l1=> ?_;refine j9 (c3O) rfl ?_;refine b9 ?_;refine i7 (bF (p:=((k:Nat):Int)<1) aA) ?_;refine j9 (bp 2) (i0 (bF (p:=((k:Nat):Int)>8) aA) rfl) ?_;refine b4 (el_int.vcells _) ?_;exact d4 rfl ⟨l1,rfl⟩
def Fz (dm:Dm) (b:Nat) (w:Value) (k:Nat):PH:=PH.nil.put b (.cells (caB dm w k) 317 (0,0))
def c3P (b:Nat) (w:Value) (k:Nat):Fz dm b w k b=some (.cells (caB dm w k) 317 (0,0)):=PH.put_self _ _ _
def BZ {X:PH} {b:Nat} (h:X b=none):Disj X (Fz dm b w k):=Zu (Sm X) h
def CB:n8 prog 295=true:=aB
def CC (hw:y6 w=true):Con prog 261 [coV dm w k] H fun u H'=>∃b,H b=none/\H'=H.or (Fz dm b w k)/\u= .func (.func 295) #[] #[.pointer (some ⟨b,0,none⟩)]:=by
 refine g5 mixed d6B ?_;refine b4 (bu hw) ?_;refine o0 (cs:=caB dm w k) rfl fun b hb=> ?_;refine y8 (Ai (vs:=[.pointer (some ⟨b,0,none⟩)]) rfl rfl) rfl ?_;exact d4 rfl ⟨b,hb,PH.put_or hb,rfl⟩
def e0K:FA prog 317 0 0:=⟨aB,oDt aB,aB,aB,oDt aB⟩
def CE:FA prog 36 3 3:=⟨aB,oDt aB,aB,aB,oDt aB⟩
def CG:Sc prog 34:=⟨aB,aB,aB⟩
def CH {b:Nat} {Ro:PH} (hr:RoR Ro w us) (hv:RoV dm n us):ItC prog 295 [.pointer (some ⟨b,0,none⟩)] Ro (Fz dm b w k) (fun pre xs=>∃u x,us[pre.length]? =some x/\pre.length<n/\UnR Ro u x/\xs=[ii (pre.length:Nat),veU u]) (fun xs _=>xs.length=n) (fun _ _=>True):=by
 intro l J Jx uV hY X hX hd w' rU;refine(s7 (H:=X.or (Fz dm b w k)) (V:=fun _ H'=>∃X' K',Pl (X'.or K') H'/\Disj X' K'/\((∃xs,xs.length=n/\J xs X')\/(∃pre,True/\Jx pre X'))) mixed c9W aB rfl ?_ w' rU).mono fun e w' ⟨v,H',he,rB,hV⟩=>⟨v,H',he,rB,hV⟩;have hb:=PH.or_right hd (c3P b w k);obtain⟨ul,sW,qC,rT⟩:=hr;have pY:=hv.le;have sM:=hv.l64;refine g8 e0K ?_;refine g8 CE ?_;refine g9 CG rfl rfl hb rfl rfl ?_;refine Dc Cb rfl rfl (sW.mono ((uV _ _ hX).trans (PH.le_or _ _))) rfl ?_;refine r7 (α:=Nat×List (List Value)×PH) (fun⟨i,pre,X'⟩=>[ii (i:Nat)]) (fun⟨i,pre,X'⟩=>fun H'=>i<=n/\H'=X'.or (Fz dm b w k)/\Disj X' (Fz dm b w k)/\pre.length=i/\J pre X') (fun⟨i,pre,X'⟩=>us.length-i) ((0,[],X)) rfl (⟨bK _,rfl,hd,rfl,hX⟩) fun⟨i,pre,X'⟩ H' hQ=> ?_;obtain⟨hi,rfl,qS,qD,hJ⟩:=hQ;refine b9 (b9 ?_);refine g6 (b:=decide (((i:Nat):Int)<(ul.length:Nat))) rfl (fun h=> ?_) (fun h=> ?_)
 ·replace h:=oDt h;have xC:i<ul.length:=aA;obtain⟨u,hu,_⟩:=q8 xC;obtain⟨x,hx,_⟩:=q8 (show i<us.length by omega);have hR:=rT i u x hu hx;have rG:u.wat=decide (n<=i):=hR.wat.trans (hv.wat i x hx);refine Ac Cb rfl rfl rfl rfl aF (sW.mono ((uV _ _ hJ).trans (PH.le_or _ _))) hu rfl aF fun _=> ?_;refine b4 (Gn u) ?_;refine b9 ?_;refine g6 (b:=u.wat) rfl (fun qZ=> ?_) (fun qZ=> ?_)
  ·skip
   have wZ:n<=i:=by rw[rG]at qZ;exact oDt qZ
   exact d4 rfl ⟨X',Fz dm b w k,Pl.refl _,qS,.inl ⟨pre,aA,hJ⟩⟩
  ·skip
   have wZ:¬n<=i:=by rw[rG]at qZ;exact oDf qZ
   refine Vu (hY _ [ii (i:Nat),veU u] X' (Fz dm b w k) ⟨u,x,by rw[qD];exact hx,aA,hR,by rw[qD]⟩ hJ qS) rfl rfl rfl rfl rfl fun v X2 qH hV=> ?_;obtain⟨bb,rfl,qU,wN⟩:∃bb,v= .bool bb/\(bb=true->J (pre++[[ii (i:Nat),veU u]]) X2)/\(bb=false->Jx (pre++[[ii (i:Nat),veU u]]) X2):=by
    rcases hV with⟨rfl,h⟩|⟨rfl,h⟩
    ·exact⟨true,rfl,fun _=>h,(fun h=>nomatch h)⟩
    ·exact⟨false,rfl,(fun h=>nomatch h),fun _=>h⟩
   refine b9 ?_;refine g6 (b:= !bb) rfl (fun qM=> ?_) (fun qM=> ?_)
   ·skip
    exact d4 rfl ⟨X2,Fz dm b w k,Pl.refl _,qH,.inr ⟨_,trivial,wN (by simpa using qM)⟩⟩
   ·skip
    exact⟨(i+1,pre++[[ii (i:Nat),veU u]],X2),by show us.length-(i+1)<us.length-i;omega,(p6 (j5 rfl aA)),⟨by show i+1<=n;omega,rfl,qH,by rw[aL];simp;omega,qU (by simpa using qM)⟩⟩
 ·replace h:=oDf h;exact d4 rfl ⟨X',Fz dm b w k,Pl.refl _,qS,.inl ⟨pre,aA,hJ⟩⟩
def c3S (hr:RoR H w us) (hv:RoV dm n us):j4 prog 298 [coV dm w k] H (ii (Aw us n)):=by
 refine g5 mixed d6C ?_;have pY:=hv.le;have sM:=hv.l64;refine b4 (bu hr.one) ?_;refine f0 (CC hr.one) rfl ?_;rintro _ _ ⟨b,hb,rfl,rfl⟩;refine nmI ?_;refine Hi (X:=H) (K:=Fz dm b w k) (Ro:=H) (fun pre vals X'=>X'=H/\vals=[ii (Aw us pre.length)]) (fun _ _ _=>False) (CH hr hv) CB (BZ hb) rfl (fun _ _ _ h=>by rw[h.1];exact Pl.refl _) ⟨rfl,rfl⟩ ?_ ?_ ?_
 ·rintro pre xs vals X' ⟨u,x,hx,uB,hR,rfl⟩ _ ⟨rfl,rfl⟩;refine⟨rfl,?_⟩;refine b4 (Gn u) ?_;have hs:=bn hv.un pre.length;have tA:=bn hv.un (pre.length+1);have es:Aw us (pre.length+1)=Aw us pre.length+x.ppl:=by show _+_=_;rw[hx];rfl
  refine b9 (b9 ?_);exact⟨rfl,by rw[aL];show _=[ii (Aw us (pre.length+1))];rw[es,<-hR.ppl];exact p6 (Hm (x:=Aw us pre.length) (y:=u.ppl) rfl rfl (by rw[hR.ppl];omega) (by rw[hR.ppl];omega))⟩
 ·rintro xs vals X' K' hxn hd _ ⟨rfl,rfl⟩;simp only[cA,nA];refine b4 (el_int.vcells _) ?_;exact d4 rfl ⟨PH.le_or _ _,by rw[<-hxn];rfl⟩
 ·exact fun _ _ _ _ _ _ _ h=>h.elim
end
open Go.RZ
section
variable {dm:Dm} {H B:PH} {n k:Nat} {us:List Un} {w:Value} {u v:Value} {p:List Int}
def Py {a b:Int} (h:a=b):Value.bool (!(a==b))= .bool false:=by subst h;simp
def RN:prog.underlying 324=some (.map 3 4):=aB
def RO (hr:RoR H w us) (hv:RoV dm n us) (hk:1<=k/\k<=8) (hp:SI H v p) (ho:PlOk n k p):j4 prog 260 [coV dm w k,v] H (.tuple #[]):=by
 refine g5 mixed d6D ?_;have pY:=hv.le;have sM:=hv.l64;have tQ:=ho.len;refine b4 (bu hr.one) ?_;refine f0 (CC hr.one) rfl ?_;rintro _ _ ⟨b,hb,rfl,rfl⟩;refine nmI ?_;refine Hi (X:=H) (K:=Fz dm b w k) (Ro:=H) (fun pre vals X'=>X'=H/\vals=[ii (pre.length:Nat)]) (fun _ _ _=>False) (CH hr hv) CB (BZ hb) rfl (fun _ _ _ h=>by rw[h.1];exact Pl.refl _) ⟨rfl,rfl⟩ ?_ ?_ ?_
 ·rintro pre xs vals X' ⟨u,x,hx,uB,hR,rfl⟩ _ ⟨rfl,rfl⟩;refine⟨rfl,?_⟩;refine b9 ?_;exact⟨rfl,by rw[aL];exact p6 (j5 (n:=pre.length) rfl aA)⟩
 ·rintro xs vals X' K' hxn hd _ ⟨rfl,rfl⟩;simp only[cA,nA];have l0:Pl X' (X'.or K'):=PH.le_or _ _;refine m9 z6 (hp.mono l0) ?_;refine b9 (b9 ?_);refine j9 (bp 220) (i0 (Py (a:=((p.length:Nat):Int)) (b:=((xs.length:Nat):Int)) aA) rfl) ?_;refine j1 (Na (ok:=fun _:Int=>True) (ke:=ii) ar rfl) rfl ?_;rintro v6 H3 ⟨l3,o3⟩;refine nmI ?_;refine m9 z6 (hp.mono (l0.trans l3)) ?_;refine r7 (α:=Nat×List (Int×Value)) (fun⟨i,L⟩=>[ii (i:Nat)]) (fun⟨i,L⟩=>fun H'=>i<=p.length/\Pl (X'.or K') H'/\MKO (fun _:Int=>True) ii (X'.or K') H' v6 L/\(∀x∈L.map (·.1),x∈p)/\∀x∈p.take i,x∈L.map (·.1)) (fun⟨i,L⟩=>p.length-i) ((0,[])) rfl (⟨bK _,l3,o3,(fun x h=>nomatch h),(fun x h=>nomatch h)⟩) fun⟨i,L⟩ H' hQ=> ?_;obtain⟨hi,l4,o4,hL1,hL2⟩:=hQ;refine b9 (b9 ?_);refine g6 (b:=decide (((i:Nat):Int)<(p.length:Nat))) rfl (fun h=> ?_) (fun h=> ?_)
  ·replace h:=oDt h;have qG:i<p.length:=aA;obtain⟨x,hx,_⟩:=q8 qG;have hxk:=ho.lab x (aK hx);refine n9 z6 (hp.mono (l0.trans l4)) hx fun _=> ?_;refine b9 ?_;refine i7 (bF (p:=x<0) aA) ?_;refine b9 ?_;refine j9 (bp 220) (i0 (bF (p:=x≥((k:Nat):Int)) aA) rfl) ?_;refine j1 (Pq ar (k:=x) (vs:=[v6,ii x,.bool true]) rfl rfl rfl rfl RN trivial l4 o4) rfl ?_;rintro _ H5 ⟨rfl,l5,o5,-⟩;refine nmI ?_;have hk1:∀y,y∈(Bz L x (Value.bool true)).map (·.1)↔y=x\/y∈L.map (·.1):=fun y=>by
    constructor
    ·intro hy;obtain⟨q,hq,rfl⟩:=aZ.1 hy;rcases Pn (x:=q.1) (y:=q.2) hq with⟨h,_⟩|⟨_,h⟩
     ·exact .inl h
     ·exact .inr (aZ.2 ⟨_,h,rfl⟩)
    ·rintro(rfl|hy)
     ·exact aZ.2 ⟨_,Po,rfl⟩
     ·by_cases e:y=x
      ·subst e;exact aZ.2 ⟨_,Po,rfl⟩
      ·obtain⟨q,hq,rfl⟩:=aZ.1 hy;exact aZ.2 ⟨_,mj (x:=q.1) (y:=q.2) hq e,rfl⟩
   have tY:∀y∈(Bz L x (Value.bool true)).map (·.1),y∈p:=fun y hy=>by
    rcases(hk1 y).1 hy with rfl|h
    ·exact aK hx
    ·exact hL1 y h
   have wV:∀y∈p.take (i+1),y∈(Bz L x (Value.bool true)).map (·.1):=fun y hy=>by
    rw[take_snoc hx,aV,bB]at hy;rcases hy with hy|hy
    ·exact(hk1 y).2 (.inr (hL2 y hy))
    ·exact(hk1 y).2 (.inl hy)
   exact⟨(i+1,Bz L x (.bool true)),by show p.length-(i+1)<p.length-i;omega,(p6 (j5 rfl aA)),⟨by show i+1<=_;omega,l5,o5,tY,wV⟩⟩
  ·replace h:=oDf h;rw[aI aA]at hL2;refine j8 (RH (vs:=[v6]) rfl rfl RN o4.mk) rfl ?_;have qC:L.length=k:=d0d o4.mk.keys.1 (fun x hx=>ho.lab x (hL1 x hx)) (fun d hd=>hL2 _ (ho.all d hd));refine b9 (b9 ?_);refine j9 (bp 220) (i0 (Py (a:=((L.length:Nat):Int)) (b:=((k:Nat):Int)) aA) rfl) ?_;exact d4 rfl ⟨l0.trans l4,rfl⟩
 ·exact fun _ _ _ _ _ _ _ h=>h.elim
def Iy (hv:RoV dm n us):∀x∈us,0<=x.ppl/\x.ppl<=1000000000:=fun x hx=>by
 have hu:=hv.un x hx;have h1:=hu.p0;have h2:=hu.p1;split at h2<;>omega
def RP (hr:RoR H w us) (hv:RoV dm n us) (hk:1<=k/\k<=8) (hp:SI H v p) (ho:PlOk n k p):Con prog 209 [coV dm w k,v] H fun r H'=>Pl H H'/\SI H' r (s0 (·.ppl) us p k n):=by
 refine g5 mixed d6E ?_;have pY:=hv.le;have sM:=hv.l64;have tQ:=ho.len;refine b4 (bu hr.one) ?_;refine b4 (hp.one) ?_;refine i8 (RO hr hv hk hp ho) (i0 rfl (Bc rfl hp.cells)) fun H1 l1=> ?_;refine Ot el_int (m:=k) (z:=0) aB rfl rfl rfl aA rfl fun v3 H2 l2 o2 _=> ?_;refine b4 (o2.se.one) ?_;refine f0 (CC hr.one) rfl ?_;rintro _ _ ⟨b,hb,rfl,rfl⟩;refine nmI ?_;refine Hi (X:=H2) (K:=Fz dm b w k) (Ro:=H) (fun pre vals X'=>Pl H1 X'/\vals=[]/\SO H1 X' 3 1 (fun z:Int=>[ii z]) v3 (s0 (·.ppl) us p k pre.length)) (fun _ _ _=>False) (CH hr hv) CB (BZ hb) rfl (fun _ _ _ h=>l1.trans h.1) ⟨l2,rfl,by rw[bX,RJ];exact o2⟩ ?_ ?_ ?_
 ·rintro pre xs vals X' ⟨u,x,hx,uB,hR,rfl⟩ _ ⟨lX,rfl,oX⟩;refine⟨rfl,?_⟩;refine b4 (Gn u) ?_;obtain⟨y,hy,_⟩:=q8 (show pre.length<p.length by omega);obtain⟨tW,hyk⟩:=ho.lab y (aK hy);obtain⟨d,rfl⟩:∃d:Nat,y=((d:Nat):Int):=⟨y.toNat,aA⟩;have hdk:d<k:=aA;have qU:=Wz (p:=p) (f:=Un.ppl) aA (Iy hv) d pre.length;have hxb:=Iy hv x (aK hx);have hup:=hR.ppl;refine Ac z6 rfl rfl rfl rfl aF (hp.mono (l1.trans lX)) hy (i0 (Bc rfl hp.cells) rfl) aF fun _=> ?_;refine Ac el_int rfl rfl rfl rfl aF oX.se (Gq (f:=Un.ppl) (us:=us) (p:=p) (i:=pre.length) hdk) (i0 (Bc rfl oX.se.cells) rfl) aF fun _=> ?_;refine b9 (b9 ?_);refine Ee el_int (a:=i9 Un.ppl us p pre.length d+u.ppl) rfl rfl rfl rfl aF aF lX oX (by rw[Iw];exact hdk) (i0 (Bc rfl oX.se.cells) rfl) (fun _=>i0 rfl (Hm rfl rfl aA aA)) rfl fun p5 u5 H5 l5 o5 _=> ?_;have e5:(s0 Un.ppl us p k pre.length).set d (i9 Un.ppl us p pre.length d+u.ppl)=s0 Un.ppl us p k (pre.length+1):=by rw[RL hy hx,hup]
  rw[e5]at o5;exact⟨l5,rfl,by rw[aL];exact o5⟩
 ·rintro xs vals X' K' hxn hd _ ⟨lX,rfl,oX⟩;simp only[cA,nA];have l0:Pl X' (X'.or K'):=PH.le_or _ _;exact d4 (Bc rfl oX.se.cells) ⟨(l1.trans lX).trans l0,by rw[<-hxn];exact oX.se.mono l0⟩
 ·exact fun _ _ _ _ _ _ _ h=>h.elim
end
end Go.Z

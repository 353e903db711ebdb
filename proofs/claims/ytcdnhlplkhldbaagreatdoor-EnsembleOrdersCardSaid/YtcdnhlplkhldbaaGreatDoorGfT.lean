/- Trees of functions. -/
import Derived.Test.YtcdnhlplkhldbaaGreatDoorGfN
open Array renaming ext'->fZ,replicate->eV
open Bool renaming and_true->jT
open List renaming all_cons->pC,all_nil->pH,count_le_length->gC,exists_cons_of_ne_nil->lI,map->kZ,mem_cons_of_mem->gB,sum_append->jC,sum_cons->eP
open List.Nodup renaming length_le_of_subset->jM
open List.Perm renaming append_left->pB,refl->oZ,trans->pA
open Nat renaming gcd->fO
set_option linter.all false
set_option maxRecDepth 100000
namespace Go.Z
open Proofs Proofs.Tryz RowKit RX
def d7g:d9 prog [] [] [] [] 64=some (.rq (.cells 16 V1) (.rq (.cells 4 V2)
(.pm f64 1 2 [V0,(.ag V1)]
(.rq (.tup 0 V3) (.rq (.tup 1 V3) (.rq (.cells 4 (.pj V3 0)) (.rq (.bool (.pj V3 1)) (.br (.pj V3 1) (.call false 57 [(.ag V2),(.ag (.pj V3 0))]
(.rq (.cells 4 V4)
(.ef false f64 4 3 [V0,(.ag V1),(.ag V4)]
(.ret []))))
(.ef false f64 4 3 [V0,(.ag V1),(.ag V2)]
(.ret [])))))))))):=aB
def d7h:d9 prog [] [] [⟨0,5,[],[]⟩] [] 65=some (.pm f65 1 1 [V0]
(.pm f65 1 2 [V1]
(.pm f65 1 3 [V2]
(.pm f65 1 4 [V3]
(.ri V4
(.br (.io .gtr V4 (.ki 400)) (.ret [(.k (.slice none 0 0)),(.ki 3)])
(.pm f65 4 1 [V0]
(.pm f65 4 2 [V5]
(.pm f65 4 3 [V6]
(.ef false f65 4 4 [V7]
(.loop [(.k (.slice none 0 0))]
(.ef false f65 5 0 [V8]
(.rq (.tup 0 V10) (.rq (.bool (.pj V10 0)) (.br (.pj V10 0)
(.ef false f65 6 0 [V8]
(.rq (.tup 0 V11) (.rq (.tup 1 V11) (.rq (.cells 16 (.pj V11 0)) (.rq (.cells 4 (.pj V11 1)) (.call false 58 [(.ag (.pj V11 1))]
(.rq (.tup 0 V12) (.rq (.tup 1 V12) (.rq (.cells 16 (.pj V12 0)) (.rq (.int .i64 (.pj V12 1)) (.br (.io .neq (.pj V12 1) (.ki 0))
(.pm f65 9 1 [V0]
(.pm f65 9 2 [V13]
(.ef false f65 9 3 [V14,(.k (.bool true))]
(.ef false f65 10 4 [(.cat (.ag (.pj V11 0)) 16 (.ag (.pj V12 0)))]
(.ef false f65 10 5 [V9,V16]
(.next 0 [V17]))))))
(.ef false f65 10 4 [(.cat (.ag (.pj V11 0)) 16 (.ag (.pj V12 0)))]
(.ef false f65 10 5 [V9,V13]
(.next 0 [V14]))))))))))))))
(.pm f65 11 1 [V0]
(.pm f65 11 2 [V11]
(.pm f65 11 3 [V12]
(.rq (.bool V13) (.br V13
(.ret [(.k (.slice none 0 0)),(.ki 6)]) (.call false 88 [V9,(.k (.func (.func 118) #[] #[]))]
(.ret [V9,(.ki 0)])))))))))))))))))))))):=aB
def d0w:d9 prog [] [] [] [⟨1,[0,1,3,0,8,31,63,127],rDx 8 2250250,rDx 8 10000,rDx 8 76524310,[]⟩] 118=some (.rq (.cells 32 V0) (.rq (.cells 32 V1) (.call true 38 [(.sub V0 0 16 0 noI)]
(.call true 38 [(.sub V1 0 16 0 noI)]
(.call true 39 [V2,V3]
(.ret [V4])))))):=aB
def d7i:d9 prog [] [] [⟨0,3,[],[1]⟩] [⟨5,[0,0,0,6,15,31],[5,0,5,2,2,6],[1,0,2,0,0,1],[0,1,2,3,4],[5]⟩] 40=some (.call false 41 [(.ki 0)]
(.rq (.cells 4 V2)
(.pm f40 2 1 [V0]
(.loop [(.ki 0),V2]
(.ri V4
(.ri V3
(.br (.io .lss V4 V3)
(.pm f40 4 0 [V0,V4]
(.pm f40 4 1 [V6]
(.rq (.cells 32 V7)
(.ef true f40 5 3 [V1,(.ag V7)]
(.call true 57 [(.ag V5),V8]
(.rq (.cells 4 V9) (.next 0 [(.io .add V4 (.ki 1)),V9]))))))) (.ret [(.ag V5)])))))))):=aB
def e3o:d9 prog [] [] [] [] 36=some (.rq (.cells 32 V0) (.call false 38 [(.sub V0 16 16 0 noI)]
(.rq (.cells 4 V1) (.ret [(.ag V1)])))):=aB
def d7j:d9 prog [] [] [⟨3,1,[12],[]⟩,⟨3,6,[54],[]⟩,⟨0,4,[],[]⟩] [⟨6,[0,1,3,7,15,31,63,127,255,511,1023,2047,4095,8191,16383,32767,65535,131071,262143,524287,1048575,2097151,2097151,6291455,16777215,33554431,67108863,134217727,2097151,270532607,1073741823,2147483647,4294967295,8589934591,17179869183],rDx 24 202500025000250++rDx 11 22502111,rPx 35 0,rAx 0 27++[28,29,27]++rAx 30 5,[]⟩] 7=some (.join 1
(.pm f7 1 1 [V0]
(.ri V1
(.br (.io .lss V1 (.ki 1)) (.next 0 [(.k (.bool true))])
(.pm f7 1 5 [V0]
(.ri V2
(.next 0 [(.io .gtr V2 (.ki 400))])))))) (.rq (.bool V1) (.br V1
(.ret [(.ki 50)])
(.pm f7 3 1 [V0]
(.loop [(.ki 0),(.ki 0)]
(.ri V4
(.ri V2
(.br (.io .lss V4 V2)
(.pm f7 5 1 [V0,V4]
(.pm f7 5 2 [V5]
(.rq (.cells 32 V6) (.join 1
(.call true 35 [(.sub V6 0 16 0 noI)]
(.ri V7
(.br (.io .neq V7 (.ki 0)) (.next 1 [(.k (.bool true))]) (.call true 35 [(.sub V6 16 16 0 noI)]
(.ri V8
(.br (.io .neq V8 (.ki 0)) (.next 1 [(.k (.bool true))]) (.call true 36 [(.ag V6)]
(.rq (.agg 4 V9) (.call true 37 [(.sub V9 0 2 0 noI)]
(.ri V10
(.br (.io .leq V10 (.ki 0)) (.next 1 [(.k (.bool true))]) (.br (.io .gtr V4 (.ki 0))
(.pm f7 6 24 [V0,(.io .sub V4 (.ki 1))]
(.pm f7 6 25 [V11]
(.pm f7 6 26 [V12]
(.call true 38 [V13]
(.call true 38 [(.sub V6 0 16 0 noI)]
(.call true 39 [V14,V15]
(.ri V16
(.next 1 [(.io .geq V16 (.ki 0))])))))))) (.next 1 [(.k (.bool false))]))))))))))))) (.rq (.bool V7) (.br V7
(.ret [(.ki 50)]) (.next 0 [V3,(.io .add V4 (.ki 1))]))))))) (.call false 40 [V0,(.k (.func (.func 36) #[] #[]))]
(.call false 41 [(.ki 1)]
(.call false 39 [V5,V6]
(.ri V7
(.br (.io .neq V7 (.ki 0)) (.ret [(.ki 50)]) (.ret [(.ki 0)])))))))))))))):=aB
def d7k:d9 prog [] [] [] [] 56=some (.call false 105 [V0,(.k (.func (.func 106) #[] #[]))]
(.rq (.bool V2) (.br V2
(.ret [(.ki 50)]) (.call false 107 [V1,(.k (.func (.func 108) #[] #[]))]
(.rq (.bool V3) (.br V3
(.ret [(.ki 20)]) (.ret [(.ki 0)]))))))):=aB
def d0x:d9 prog [] [] [] [] 106=some (.call false 7 [V0]
(.ri V1
(.ret [(.io .neq V1 (.ki 0))]))):=aB
def d0y:d9 prog [] [] [] [] 108=some (.rq (.cells 16 V0) (.call false 35 [(.ag V0)]
(.ri V1
(.ret [(.io .neq V1 (.ki 0))])))):=aB
def d7l:d9 prog [22,999999] [] [⟨0,11,[],[]⟩] [⟨13,[0,1,3,7,0,0,63],rDx 7 8551110,rDx 7 10000,[0,1,2,3,4,5],[6]⟩] 15=some (.pm f15 1 1 [V0]
(.ri V1
(.br (.io .gtr V1 (.ki 400)) (.ret [(.k (.slice none 0 0)),(.ki 3)]) (.call false 56 [(.k (.slice none 0 0)),V0]
(.ri V2
(.br (.io .neq V2 (.ki 0)) (.ret [(.k (.slice none 0 0)),V2])
(.pm f15 6 1 [V0]
(.ri V3
(.br (.io .eql V3 (.ki 0)) (.ret [(.k (.slice none 0 0)),(.ki 4)])
(.ef false f15 8 0 []
(.rq (.cells 1 V4) (.pub 153 (.cat V4 1 (.z 4)) (.call false 41 [(.ki 1)]
(.pm f15 9 2 [V0]
(.call false 41 [V7]
(.call false 63 [V6,V8]
(.rq (.cells 4 V9)
(.pm f15 10 1 [V0]
(.loop [(.ki 0)]
(.ri V11
(.ri V10
(.br (.io .lss V11 V10)
(.pm f15 12 0 [V0,V11]
(.pm f15 12 1 [V12]
(.rq (.cells 16 V13)
(.pm f15 13 1 [V5]
(.pm f15 13 2 [V14]
(.pm f15 13 3 [V15]
(.call false 64 [V16,(.ag V13),(.ag V9)]
(.next 0 [(.io .add V11 (.ki 1))])))))))) (.call false 65 [V5]
(.rq (.tup 0 V12) (.rq (.tup 1 V12) (.ret [(.pj V12 0),(.pj V12 1)])))))))))))))))))))))))))):=aB
def d7m:d9 prog [] [] [⟨0,6,[],[3,4]⟩] [⟨3,[0,0,0,1,11,31],[5,5,0,6,6,0],[1,2,0,1,2,0],[0,1,2],[3,4,5]⟩,⟨8,[0,1,3,0,15,31,63],rDx 7 225250,rDx 7 50,rDx 7 6542310,[]⟩,⟨10,[0,0,2,7,15],[5,5,2,2,6],[3,5,0,0,3],[0,1,2,3],[4]⟩,⟨17,[0,0,1,7,15],[5,5,6,6,0],[1,2,1,2,0],[0,1],[2,3,4]⟩,⟨18,[0,0,1,7,15],[5,5,6,6,0],[5,6,1,2,0],[0,1],[2,3,4]⟩] 11=some (.rq (.cells 16 V1)
(.ef false f11 1 1 [V0]
(.ef false f11 1 3 [(.ag V1)]
(.call false 56 [V2,V3]
(.ri V4
(.br (.io .neq V4 (.ki 0)) (.ret [(.z 53),(.z 53),V4]) (.call false 41 [(.ki 0)]
(.call false 41 [(.ki 0)]
(.rq (.cells 4 V5) (.rq (.cells 4 V6)
(.pm f11 5 1 [V0]
(.loop [(.ki 0),V5,V6]
(.ri V8
(.ri V7
(.br (.io .lss V8 V7)
(.pm f11 7 0 [V0,V8]
(.pm f11 7 1 [V11]
(.rq (.cells 32 V12) (.call true 38 [(.sub V12 0 16 0 noI)]
(.call true 38 [(.ag V1)]
(.call true 39 [V13,V14]
(.ri V15
(.br (.io .lss V15 (.ki 0)) (.call true 36 [(.ag V12)]
(.call true 57 [(.ag V9),V16]
(.rq (.cells 4 V17) (.next 0 [(.io .add V8 (.ki 1)),V17,V10])))) (.br (.io .eql V15 (.ki 0)) (.call false 36 [(.ag V12)]
(.rq (.cells 4 V16) (.next 0 [(.io .add V8 (.ki 1)),V9,V16]))) (.next 0 [(.io .add V8 (.ki 1)),V9,V10])))))))))) (.call false 58 [(.ag V9)]
(.rq (.tup 0 V11) (.rq (.tup 1 V11) (.rq (.cells 16 (.pj V11 0)) (.call false 58 [(.ag V10)]
(.rq (.tup 0 V12) (.rq (.tup 1 V12) (.rq (.cells 16 (.pj V12 0)) (.rq (.int .i64 (.pj V11 1)) (.br (.io .neq (.pj V11 1) (.ki 0)) (.ret [(.z 53),(.z 53),(.ki 6)]) (.rq (.int .i64 (.pj V12 1)) (.br (.io .neq (.pj V12 1) (.ki 0)) (.ret [(.z 53),(.z 53),(.ki 6)]) (.ret [(.ag (.pj V11 0)),(.ag (.pj V12 0)),(.ki 0)])))))))))))))))))))))))))))):=aB
def d7n:d9 prog [] [] [] [] 105=some (.call false 153 [V0,V1]
(.ri V2
(.ret [(.io .geq V2 (.ki 0))]))):=aB
def d7o:d9 prog [] [] [⟨0,2,[],[]⟩] [] 153=some (.pm f153 1 1 [V0]
(.loop [(.ki 0),(.ki 0)]
(.ri V4
(.ri V2
(.br (.io .lss V4 V2)
(.pm f153 4 3 [V0,V4]
(.pm f153 4 4 [V5]
(.ef false f153 4 5 [V1,V6]
(.rq (.bool V7) (.br V7
(.ret [V4]) (.next 0 [V3,(.io .add V4 (.ki 1))])))))) (.ret [(kI (-1))])))))):=aB
def d7p:d9 prog [] [] [] [] 107=some (.call false 154 [V0,V1]
(.ri V2
(.ret [(.io .geq V2 (.ki 0))]))):=aB
def d7q:d9 prog [] [] [⟨0,2,[],[]⟩] [] 154=some (.pm f154 1 1 [V0]
(.loop [(.ki 0),(.ki 0)]
(.ri V4
(.ri V2
(.br (.io .lss V4 V2)
(.pm f154 4 3 [V0,V4]
(.pm f154 4 4 [V5]
(.ef false f154 4 5 [V1,V6]
(.rq (.bool V7) (.br V7
(.ret [V4]) (.next 0 [V3,(.io .add V4 (.ki 1))])))))) (.ret [(kI (-1))])))))):=aB
def d7r:d9 prog [] [] [] [] 31=some (.rq (.cells 8 V0)
(.ri V1
(.br (.io .neq V1 (.ki 0)) (.rq (.cells 1 V1)
(.pm f31 2 2 [(.ag V1)]
(.ef false f31 2 3 [V2]
(.ret [(.ag V0)])))) (.ret [(.ag V0)])))):=aB
def d7s:d9 prog [] [] [] [] 50=some (.ri V1
(.br (.io .neq V1 (.ki 0)) (.rq (.cells 1 V1)
(.pm f50 2 2 [(.ag V1)]
(.ef false f50 2 3 [V2]
(.ret [V0])))) (.ret [V0]))):=aB
def d7t:d9 prog [] [] [] [] 52=some (.ri V1
(.br (.io .neq V1 (.ki 0)) (.rq (.cells 1 V1)
(.pm f52 2 2 [(.ag V1)]
(.ef false f52 2 3 [V2]
(.ret [V0])))) (.ret [V0]))):=aB
def d7u:d9 prog [] [] [] [] 45=some (.ri V1
(.br (.io .neq V1 (.ki 0)) (.rq (.cells 1 V1)
(.pm f45 2 2 [(.ag V1)]
(.ef false f45 2 3 [V2]
(.ret [V0])))) (.ret [V0]))):=aB
def d7v:d9 prog [] [] [] [] 83=some (.ri V1
(.br (.io .neq V1 (.ki 0)) (.rq (.cells 1 V1)
(.pm f83 2 2 [(.ag V1)]
(.ef false f83 2 3 [V2]
(.ret [V0])))) (.ret [V0]))):=aB
def d7w:d9 prog [] [] [] [] 86=some (.rq (.cells 16 V0)
(.ri V1
(.br (.io .neq V1 (.ki 0)) (.rq (.cells 1 V1)
(.pm f86 2 2 [(.ag V1)]
(.ef false f86 2 3 [V2]
(.ret [(.ag V0)])))) (.ret [(.ag V0)])))):=aB
def TZ:d9 prog [] [] [] [] 49=some (.rq (.bool V0) (.br V0
(.call false 54 [V1]
(.ret [])) (.ret []))):=aB
def UA:d9 prog [] [] [] [] 54=some (.ri V0
(.br (.io .neq V0 (.ki 0)) (.rq (.cells 1 V0)
(.pm f54 1 2 [(.ag V0)]
(.ef false f54 1 3 [V1]
(.ret [])))) (.ret []))):=aB
def UB:d9 prog [23,999998] [] [⟨0,5,[],[]⟩] [⟨8,[0,0,2,6,14,30,0,64,192,510,1023,2047,4095,8191],rDx 14 87778250111100,rDx 14 10000000,rAx 0 9,[9,10,11,12,13]⟩,⟨11,[0,1,3,7,15,31,0,64,192,511,1023],rDx 11 80500777770,rPx 11 0,[],rAx 0 11⟩,⟨12,[0,1,0,4,12,28,63,127],rDx 8 88777050,rPx 8 0,[],rAx 0 8⟩] 29=some (.rq (.cells 12 V0) (.call false 79 [(.sub V0 0 2 0 noI)]
(.call false 54 [V1]
(.call false 80 [(.sub V0 2 4 0 noI)]
(.call false 54 [V3]
(.rq (.cells 1 (.cell V0 7 0 noI)) (.rq (.cells 1 (.cell V0 8 0 noI)) (.rq (.cells 1 (.cell V0 6 0 noI)) (.rq (.cells 4 (.cat (.z 39) 1 (.cat (.sub (.put (.cat (.cell V0 7 0 noI) 1 (.cat (.z 3) 1 (.z 3))) 1 1 (.cell V0 8 0 noI) 0 noI) 0 2 0 noI) 2 (.cell V0 6 0 noI)))) (.pub 132 (.cat (.ag V0) 12 (.cat (.cat (.z 39) 1 (.cat (.sub (.put (.cat (.cell V0 7 0 noI) 1 (.cat (.z 3) 1 (.z 3))) 1 1 (.cell V0 8 0 noI) 0 noI) 0 2 0 noI) 2 (.cell V0 6 0 noI))) 4 (.z 4)))
(.pm f29 4 3 [(.cell V0 5 0 noI)]
(.loop [(.ki 0)]
(.ri V7
(.ri V6
(.br (.io .lss V7 V6)
(.pm f29 6 0 [(.cell V0 5 0 noI),V7]
(.pm f29 6 1 [V8]
(.rq (.cells 6 V9) (.rq (.bool (.cell V9 5 0 noI)) (.br (.nt (.cell V9 5 0 noI))
(.pm f29 8 2 [V5]
(.pm f29 8 3 [V10]
(.pm f29 8 4 [V11]
(.pm f29 8 5 [V12]
(.ef true f29 8 8 [(.cell V9 1 0 noI)]
(.ef false f29 8 9 [V13,V14]
(.pm f29 8 10 [V5]
(.pm f29 8 11 [V16]
(.pm f29 8 12 [V17]
(.ef false f29 8 13 [V18,V15]
(.pm f29 9 2 [V5]
(.pm f29 9 3 [V20]
(.pm f29 9 4 [V21]
(.rq (.bool V22) (.br V22
(.pm f29 9 10 [V5]
(.pm f29 9 11 [V23]
(.ef false f29 9 12 [V24,(.k (.bool true))]
(.next 0 [(.io .add V7 (.ki 1))])))) (.rq (.int .i64 (.cell V9 1 0 noI))
(.pm f29 9 10 [V5]
(.pm f29 9 11 [V23]
(.ef false f29 9 12 [V24,(.io .gtr (.cell V9 1 0 noI) (.ki 0))]
(.next 0 [(.io .add V7 (.ki 1))])))))))))))))))))))) (.next 0 [(.io .add V7 (.ki 1))]))))))
(.pm f29 11 1 [V5]
(.pm f29 11 2 [V8]
(.pm f29 11 3 [V9]
(.pm f29 11 4 [V10]
(.pm f29 11 5 [V11]
(.ri V12
(.rq (.int .i64 (.cell V0 0 0 noI)) (.call false 49 [(.io .neq V12 (.cell V0 0 0 noI)),(.ki 5)]
(.pm f29 12 3 [V5]
(.pm f29 12 4 [V14]
(.pm f29 12 5 [V15]
(.call false 81 [(.sub V0 0 2 0 noI),V16]
(.call false 54 [V17]
(.call false 82 [V5]
(.ret [V5])))))))))))))))))))))))))))))):=aB
def UD:d9 prog [] [] [] [⟨9,[0,0,2,6,14,30,0,64,192,448,960,1984,4095],rDx 13 2111110111100,rPx 13 0,rAx 0 13,[]⟩,⟨11,[0,0,2,6,14,30,0,64,192,448,960,1984,4095],rDx 13 2111110111100,rPx 13 0,rAx 0 13,[]⟩,⟨13,[0,0,2,6,14,30,0,64,192,448,960,1984,4095],rDx 13 2111110111100,rPx 13 0,rAx 0 13,[]⟩] 82=some (.pm f82 1 2 [V0]
(.pm f82 1 3 [V1]
(.pm f82 1 4 [V2]
(.pm f82 1 5 [V3]
(.ef false f82 1 6 [(.k (.func (.func 132) #[] #[])),V4,(.ki 9)]
(.pm f82 2 1 [V0]
(.pm f82 2 2 [V6]
(.pm f82 2 3 [V7]
(.pm f82 2 4 [V8]
(.ri V9
(.br (.io .eql V9 (.ki 0)) (.call false 54 [(.ki 2)]
(.ret [])) (.br (.io .eql V9 (.ki 1))
(.pm f82 6 1 [V0]
(.pm f82 6 2 [V10]
(.pm f82 6 3 [V11]
(.rq (.bool V12) (.call false 49 [(.nt V12),(.ki 7)]
(.ret [])))))) (.br (.io .eql V9 (.ki 5))
(.pm f82 9 2 [V0]
(.pm f82 9 3 [V10]
(.pm f82 9 4 [V11]
(.pm f82 9 5 [V12]
(.pm f82 9 7 [V0]
(.pm f82 9 8 [V14]
(.pm f82 9 9 [V15]
(.pm f82 9 10 [V16]
(.pm f82 9 11 [V17]
(.ef true f82 9 12 [(.k (.func (.func 132) #[] #[])),V13,V18]
(.ret []))))))))))) (.br (.io .eql V9 (.ki 6))
(.pm f82 9 2 [V0]
(.pm f82 9 3 [V10]
(.pm f82 9 4 [V11]
(.pm f82 9 5 [V12]
(.pm f82 9 7 [V0]
(.pm f82 9 8 [V14]
(.pm f82 9 9 [V15]
(.pm f82 9 10 [V16]
(.pm f82 9 11 [V17]
(.ef true f82 9 12 [(.k (.func (.func 132) #[] #[])),V13,V18]
(.ret []))))))))))) (.br (.io .eql V9 (.ki 7))
(.pm f82 11 2 [V0]
(.pm f82 11 3 [V10]
(.pm f82 11 4 [V11]
(.pm f82 11 5 [V12]
(.pm f82 11 7 [V0]
(.pm f82 11 8 [V14]
(.pm f82 11 9 [V15]
(.pm f82 11 10 [V16]
(.pm f82 11 11 [V17]
(.ef true f82 11 12 [(.k (.func (.func 132) #[] #[])),V13,V18]
(.ret []))))))))))) (.br (.io .eql V9 (.ki 8))
(.pm f82 13 2 [V0]
(.pm f82 13 3 [V10]
(.pm f82 13 4 [V11]
(.pm f82 13 5 [V12]
(.pm f82 13 7 [V0]
(.pm f82 13 8 [V14]
(.pm f82 13 9 [V15]
(.pm f82 13 10 [V16]
(.pm f82 13 11 [V17]
(.ef true f82 13 12 [(.k (.func (.func 132) #[] #[])),V13,V18]
(.ret []))))))))))) (.ret []))))))))))))))))):=aB
def d0z:d9 prog [] [] [] [] 132=some (.ri V0
(.br (.io .lss V0 (.ki 0)) (.call false 49 [(.k (.bool true)),(.ki 2)]
(.ret []))
(.ri V1
(.call false 49 [(.io .geq V0 V1),(.ki 2)]
(.ret []))))):=aB
def d7x:d9 prog [] [] [] [⟨1,[0,1,3,7,15,0,32,96,224,480,0,0,2048,6144,14336,30720,0,65536,196608,458752,983040,0,2097152,6291456,14680064,31457280,0,67108864,201326592,469762048,1006632960,2147483647]++rPx 2 4294967295++[17179869183,34359738367],rDx 36 620021111011110111101111001111011110,rPx 36 0,rAx 0 35,[35]⟩] 53=some (.pm f53 1 1 [V0]
(.pm f53 1 2 [V2]
(.pm f53 1 3 [V3]
(.pm f53 1 4 [V4]
(.pm f53 1 6 [V0]
(.pm f53 1 7 [V6]
(.pm f53 1 8 [V7]
(.pm f53 1 9 [V8]
(.pm f53 1 12 [V0]
(.pm f53 1 13 [V10]
(.pm f53 1 14 [V11]
(.pm f53 1 15 [V12]
(.pm f53 1 17 [V0]
(.pm f53 1 18 [V14]
(.pm f53 1 19 [V15]
(.pm f53 1 20 [V16]
(.pm f53 1 22 [V0]
(.pm f53 1 23 [V18]
(.pm f53 1 24 [V19]
(.pm f53 1 25 [V20]
(.pm f53 1 27 [V0]
(.pm f53 1 28 [V22]
(.pm f53 1 29 [V23]
(.pm f53 1 30 [V24]
(.call true 55 [V5,V9,V1,V13,V17,V21,V25]
(.rq (.tup 0 V26) (.rq (.tup 1 V26) (.call true 86 [(.pj V26 0),(.pj V26 1)]
(.rq (.cells 16 V27) (.ret [(.ag V27)])))))))))))))))))))))))))))))):=aB
def UE:d9 prog [1,3] [] [] [⟨1,[0,1,3,7,15,0,32,96,224,511,1023,1023,4095,0,16383],rPx 9 1++rDx 6 832002,rPx 15 0,rAx 0 14,[14]⟩] 30=some (.rq (.cells 1 V0) (.pub 94 V0
(.pm f30 1 0 [V1]
(.pm f30 1 1 [V2]
(.pm f30 1 2 [V3]
(.pm f30 1 3 [V4]
(.pm f30 1 4 [V5]
(.pm f30 1 5 [V1]
(.pm f30 1 6 [V7]
(.pm f30 1 7 [V8]
(.pm f30 1 8 [V9]
(.call true 13 [V6,V10]
(.rq (.tup 0 V11) (.rq (.tup 1 V11) (.call true 83 [(.pj V11 0),(.pj V11 1)]
(.pub 64 (.z 64)
(.ef false f30 1 14 [V13,V12]
(.pm f30 2 0 [V13]
(.pm f30 2 1 [V15]
(.ri V16
(.call false 49 [(.io .eql V16 (.ki 0)),(.ki 4)]
(.ef false f30 3 0 [V13,V1]
(.ret [V18]))))))))))))))))))))))):=aB
def d0A:d9 prog [] [] [⟨0,1,[],[]⟩] [] 84=some (.pm f84 0 0 [V1]
(.pm f84 0 1 [V3]
(.loop [(.ki 0)]
(.ri V5
(.ri V4
(.br (.io .lss V5 V4)
(.pm f84 2 0 [V3,V5]
(.pm f84 2 1 [V6]
(.pm f84 3 2 [V2]
(.call false 53 [V8,V7]
(.ef false f84 3 5 [V0,V7,V9]
(.rq (.bool V10) (.br (.nt V10) (.ret []) (.next 0 [(.io .add V5 (.ki 1))])))))))) (.ret []))))))):=aB
def d7y:d9 prog [999998] [] [⟨0,3,[],[0]⟩,⟨0,8,[],[]⟩] [⟨10,[0,0,0,0,12,28,28,124,254,510,1023,2047],rDx 12 88080085550,rDx 12 210,[],rAx 0 12⟩] 34=some (.ef false f34 2 1 [V0]
(.loop [(.z 51)]
(.ef false f34 3 0 [V1]
(.rq (.tup 0 V3) (.rq (.bool (.pj V3 0)) (.br (.pj V3 0)
(.ef false f34 4 0 [V1]
(.rq (.tup 1 V4) (.rq (.cells 8 (.pj V4 1)) (.call false 32 [(.ag V2),(.ag (.pj V4 1))]
(.rq (.tup 0 V5) (.rq (.tup 1 V5) (.call false 31 [(.pj V5 0),(.pj V5 1)]
(.rq (.cells 8 V6) (.next 0 [V6])))))))))
(.ef false f34 7 1 [V0]
(.loop [(.k (.slice none 0 0))]
(.ef false f34 8 0 [V4]
(.rq (.tup 0 V6) (.rq (.bool (.pj V6 0)) (.br (.pj V6 0)
(.ef false f34 9 0 [V4]
(.rq (.tup 0 V7) (.rq (.tup 1 V7) (.rq (.cells 16 (.pj V7 0)) (.rq (.cells 8 (.pj V7 1)) (.call false 87 [(.ag (.pj V7 1)),(.ag V2)]
(.rq (.tup 0 V8) (.rq (.tup 1 V8) (.call false 86 [(.pj V8 0),(.pj V8 1)]
(.rq (.cells 16 V9)
(.ef false f34 10 9 [(.cat (.ag (.pj V7 0)) 16 V9)]
(.ef false f34 10 10 [V5,V10]
(.next 1 [V11]))))))))))))) (.call false 88 [V5,(.k (.func (.func 89) #[] #[]))]
(.ret [V5])))))))))))))):=aB
def d7z:d9 prog [] [] [] [] 88=some (.pm f88 0 1 [V0]
(.ri V2
(.call false 137 [(.cv .u64 V2)]
(.call false 136 [V0,(.ki 0),V2,V3,V1]
(.ret []))))):=aB
def d0B:d9 prog [] [] [] [] 89=some (.rq (.cells 32 V0) (.rq (.cells 32 V1) (.call false 46 [(.sub V0 0 16 0 noI),(.sub V1 0 16 0 noI)]
(.rq (.tup 0 V2) (.rq (.tup 1 V2) (.call false 45 [(.pj V2 0),(.pj V2 1)]
(.ret [V3]))))))):=aB
def DF:d9 prog [1] [] [] [] 6=some (.rq (.cells 12 V0) (.pub 38 V0
(.ef false f6 1 0 [V1]
(.call false 27 [V2]
(.rq (.tup 0 V3) (.rq (.tup 1 V3) (.ret [(.pj V3 0),(.pj V3 1)]))))))):=aB
def DG:d9 prog [] [] [⟨4,4,[],[]⟩] [⟨4,[0,0,0,0,12,0,60,124,124,508,1023],rDx 11 42002215555,rDx 11 1010,rAx 0 10,[10]⟩] 28=some (.ef false f28 1 0 []
(.rq (.cells 1 V1)
(.pm f28 2 0 [V0]
(.call false 29 [V2]
(.call false 30 [V3]
(.rf V4 2 []
(.rq (.cells 16 V6)
(.pm f28 4 4 [(.cell V1 0 0 noI),(.ag V6)]
(.call true 33 [(.ki 1)]
(.call true 32 [V7,V8]
(.rq (.tup 0 V9) (.rq (.tup 1 V9) (.call true 31 [(.pj V9 0),(.pj V9 1)]
(.ef false f28 4 10 [(.cell V1 0 0 noI),(.ag V6),V10]
(.next 0 []))))))))) (.call false 34 [(.cell V1 0 0 noI)]
(.ret [V5])) (.dead 818))))))):=aB
def UF:d9 prog [2,3] [] [] [⟨2,[0,1,0,4,0,3,47,127],rDx 8 6605050,rDx 8 1002020,[0,1,2,3,4],[5,6,7]⟩] 9=some (.rq (.cells 12 V0) (.pub 38 V0
(.rq (.cells 1 V1) (.pub 40 V1
(.ef false f9 1 0 [V2,V3]
(.call false 47 [V4]
(.rq (.tup 0 V5) (.rq (.tup 1 V5) (.rq (.cells 32 (.pj V5 0)) (.ret [(.sub (.pj V5 0) 0 16 0 noI),(.sub (.pj V5 0) 16 16 0 noI),(.pj V5 1)])))))))))):=aB
def UG:d9 prog [999999] [] [] [⟨2,[0,1,3,7,15,0,32,96,224,0,1023,2047,2047,8191,16383,32767],rDx 16 8020021111011110,rPx 16 0,rAx 0 15,[15]⟩] 48=some (.pm f48 1 0 [V0]
(.call false 29 [V2]
(.pm f48 2 1 [V3]
(.pm f48 2 2 [V4]
(.pm f48 2 3 [V5]
(.pm f48 2 4 [V6]
(.pm f48 2 6 [V3]
(.pm f48 2 7 [V8]
(.pm f48 2 8 [V9]
(.pm f48 2 9 [V1]
(.call true 51 [V7,V10,V11]
(.rq (.tup 0 V12) (.rq (.tup 1 V12) (.call true 50 [(.pj V12 0),(.pj V12 1)]
(.rq (.bool V13) (.call false 49 [(.nt V13),(.ki 8)]
(.pm f48 3 0 [V0]
(.call false 6 [V15]
(.rq (.tup 0 V16) (.rq (.tup 1 V16) (.call false 52 [(.pj V16 0),(.pj V16 1)]
(.pm f48 4 2 [V1]
(.call false 53 [V3,V18]
(.call false 11 [V17,V19]
(.rq (.tup 0 V20) (.rq (.tup 1 V20) (.rq (.tup 2 V20) (.rq (.cells 16 (.pj V20 0)) (.rq (.cells 16 (.pj V20 1)) (.call false 54 [(.pj V20 2)]
(.ret [(.cat (.ag (.pj V20 0)) 16 (.ag (.pj V20 1)))]))))))))))))))))))))))))))))))):=aB
def d7A:d9 prog [2,3] [] [] [⟨2,[0,1,0,4,0,3,47,127],rDx 8 6005050,rDx 8 1010,[0,1,2,3,4,5],[6,7]⟩] 8=some (.rq (.cells 12 V0) (.pub 38 V0
(.rq (.cells 1 V1) (.pub 4 V1
(.ef false f8 1 0 [V3,V2]
(.call false 42 [V4]
(.rq (.tup 0 V5) (.rq (.tup 1 V5) (.rq (.cells 17 (.pj V5 0)) (.ret [(.cell (.pj V5 0) 0 0 noI),(.sub (.pj V5 0) 1 16 0 noI),(.pj V5 1)])))))))))):=aB
def d0C:d9 prog [2] [] [⟨3,5,[20],[]⟩,⟨4,5,[],[]⟩] [] 43=some (.pub 115 (.z 115)
(.ef false f43 1 0 [V2,V0]
(.rq (.cells 1 V3)
(.pm f43 2 0 [V1]
(.call false 29 [V4]
(.call false 30 [V5]
(.rf V6 2 []
(.rq (.cells 16 V8) (.join 1
(.pm f43 5 0 [V2]
(.pm f43 5 1 [V9]
(.pm f43 5 2 [V10]
(.ri V11
(.br (.io .eql V11 (.ki 0)) (.next 2 [(.k (.bool true))])
(.ef false f43 5 7 [(.cell V3 0 0 noI),(.ag V8)]
(.next 2 [V12]))))))) (.rq (.bool V9) (.br V9
(.rq (.cells 1 V7)
(.ef false f43 6 3 [V2,(.put (.cat V7 1 (.z 53)) 1 16 (.ag V8) 0 noI)]
(.next 0 []))) (.next 0 [])))))
(.pm f43 7 0 [V2]
(.ef false f43 7 1 [V2,V7]
(.prim 999999 2 (ldO 115 2) [V2]
(.ret [V9])))) (.dead 818)))))))):=aB
def a7d:(ldO 115 2).op= .load 115 (.tmp 2):=rfl
def d0D:d9 prog [] [] [] [] 44=some (.rq (.cells 16 V0)
(.pm f44 1 1 [V1]
(.pm f44 1 2 [V3]
(.call false 46 [(.ag V0),V4]
(.rq (.tup 0 V5) (.rq (.tup 1 V5) (.call false 45 [(.pj V5 0),(.pj V5 1)]
(.pm f44 2 0 [V2]
(.rq (.bool V7) (.br V7
(.ri V6
(.br (.io .gtr V6 (.ki 0)) (.ret [(.k (.bool true))])
(.pm f44 2 6 [V2]
(.rq (.bool V8) (.br (.nt V8) (.ret [(.io .lss V6 (.ki 0))]) (.ret [(.k (.bool false))]))))))
(.pm f44 2 6 [V2]
(.rq (.bool V8) (.br (.nt V8)
(.ri V6
(.ret [(.io .lss V6 (.ki 0))])) (.ret [(.k (.bool false))])))))))))))))):=aB
open Go.GS Go.RZ Go.WD
def e1f:Eh prog 53:=by
 have big:6<=(prog).types.size+1:=oDt aB;exact⟨aB,aB,aB,aB,aB,big⟩
def wsA (n:Nat):List AV:=[wA (dig n 0),wA (dig n 1),wA (dig n 2),wA (dig n 3),wA (dig n 4),wA (dig n 5),wA (dig n 6),wA (dig n 7)]
def shA (r:Rat):List AV:=wsA (rs r.num)++wsA (rs (r.den:Int))
def UH (n:Nat) (d:Nat):Dh prog (d+2) 51 (wsA n)=true:=by
 have hu:prog.underlying 51=some (.array 8 49):=aB;have h1:prog.cellsOf 51=8:=aB;have h2:prog.cellsOf 49=1:=aB;have hr:List.range 8=[0,1,2,3,4,5,6,7]:=aC;have f:∀i,Dh prog (d+1) 49 [wA (dig n i)]=true:=fun i=>zq (Oj n i) d;unfold Dh;rw[hu];simp only[h1,h2,hr,pC,pH,jT];rw[aQ];refine⟨rfl,?_⟩;simp only[aQ];exact⟨f 0,f 1,f 2,f 3,f 4,f 5,f 6,f 7⟩
def e1g (r:Rat):Dh prog 6 53 (shA r)=true:=by
 have hu:prog.underlying 53=some (.struct (fieldsOf prog 53)):=aB;have h1:prog.cellsOf 53=16:=aB;have h2:prog.cellsOf 51=8:=aB;have hf:(fieldsOf prog 53).toList.map (fun f=>(f.type,f.offset))=[(51,0),(51,8)]:=aB;unfold Dh;rw[hu];simp only[h1];rw[aQ];refine⟨rfl,?_⟩;rw[show(fun f:Field=>Dh prog 5 f.type (((shA r).drop f.offset).take (prog.cellsOf f.type)))=(fun q:TypeId×Nat=>Dh prog 5 q.1 (((shA r).drop q.2).take (prog.cellsOf q.1))) ∘ (fun f:Field=>(f.type,f.offset))from rfl,<-List.all_map,hf];simp only[pC,pH,jT,h2,aQ];exact⟨UH (rs r.num) 3,UH (rs (r.den:Int)) 3⟩
def e3p (σ:Rl) (r:Rat):rz σ (.agg (shA r))=shR r:=rfl
def d7B {a b:Rat} (ha:Rg a) (hb:Rg b) (h:shR a=shR b):a=b:=by
 rw[<-Vs ha,<-Vs hb];unfold shR shv at h
 injection h with h
 have e0:=congrArg (fun z:Array Value=>z.extract 0 8) h;have e1:=congrArg (fun z:Array Value=>z.extract 8 16) h;simp only[LD,LE]at e0 e1;have h0:toI (rs a.num)=toI (rs b.num):=by unfold toI;rw[IM e0]
 have h1:toI (rs (a.den:Int))=toI (rs (b.den:Int)):=by unfold toI;rw[IM e1]
 unfold Bl;rw[h0,h1]
def Hv:Tv prog 53 Rg shR:=QP (ce:=shA) e1f (fun r _=>e1g r) e3p fun a b ha hb h=>d7B ha hb h
def MaT:Type:={q:Rat×Rat//Rg q.1/\Rg q.2}
instance:Inhabited MaT:=⟨⟨(0,0),LQ,LQ⟩⟩
@[irreducible] def shw (r:Rat):Array Value:=words (rs r.num)++words (rs (r.den:Int))
@[simp] def Az (r:Rat):(shw r).size=16:=by unfold shw;exact(j7 _ _).1
def Di (r:Rat):shR r= .agg (shw r):=by unfold shw;rfl
def Qj (r:Rat):j0 (shw r):=by unfold shw;exact(j7 _ _).2
def veM (q:MaT):Value:= .agg (shw q.1.1++shw q.1.2)
def ceM (q:MaT):List Value:=(shw q.1.1++shw q.1.2).toList
def Ja (q:MaT):(veM q).cells.size=32/\j0 (veM q).cells:=⟨by show(shw q.1.1++shw q.1.2).size=32;rw[dN,Az,Az],fy (Qj _) (Qj _)⟩
def el_mass:El prog 44 63 32 true ceM veM where
 und:=aB
 has:=aB
 cel:=aB
 agg:=aB
 pos:=aC
 one1:=fun h=>by cases h
 small:=aC
 inf:=⟨(prog.info? 63).getD default,.agg (eV 32 (.int .u64 0)),aB,aB,aB,rfl,oDt aB⟩
 len:=fun p=>by unfold ceM;rw[bA,dN,Az,Az]
 val:=fun p=>rfl
 cells:=fun p=>rfl
 one:=fun p c hc=>(Ja p).2 c hc
def Qk (q:MaT):Value.agg ((shw q.1.1++shw q.1.2).extract 0 16)=shR q.1.1:=by
 rw[Di];congr 1;apply fZ;have:=Az q.1.1;simp[aI,this]
def DI (q:MaT):Value.agg ((shw q.1.1++shw q.1.2).extract 16 32)=shR q.1.2:=by
 rw[Di];congr 1;apply fZ;have h1:=Az q.1.1;have h2:=Az q.1.2;simp[aI,h1,h2]
section
variable {H B:PH} {u v w:Value}
def Ug {r:Rat} (hr:Rg r):Con prog 38 [shR r] H fun u H'=>Pl H H'/\Rp H' u r:=by
 obtain⟨h1,h2⟩:=d4e hr;exact(Vq _ _).mono fun u H' h=>⟨h.1,h.2.rp (Ii h1).symm (Ii h2).symm⟩
def oo {x y:Value} {r q:Rat} (hx:Rp H x r) (hy:Rp H y q) (hr:Rg r) (hq:Rg q):Con prog 39 [x,y] H fun u H'=>Pl H H'/\u=ii (sgR r q):=by
 obtain⟨j,hj,hr⟩:=hr;obtain⟨k,hk,hq⟩:=hq;exact LH hx hy hr hq aA
def c5b:n8 prog 118=true:=aB
def b9l (a b:MaT):j4 prog 118 [veM a,veM b] H (ii (sgR a.1.1 b.1.1)):=by
 refine g5 mixed d0w ?_;refine b4 (Ja a) ?_;refine b4 (Ja b) ?_;refine f0 (Ug a.2.1) (congrArg (fun z=>[z]) (Qk a)) ?_;rintro v2 H1 ⟨l1,q1⟩;refine⟨(fun _=>l1),?_⟩;refine f0 (Ug b.2.1) (congrArg (fun z=>[z]) (Qk b)) ?_;rintro v3 H2 ⟨l2,q2⟩;refine⟨(fun _=>l2),?_⟩;refine f0 (oo (q1.mono l2) q2 a.2.1 b.2.1) rfl ?_;rintro _ H3 ⟨l3,rfl⟩;refine⟨(fun _=>l3),?_⟩;exact d4 rfl ⟨l1.trans (l2.trans l3),rfl⟩
def UI (v:Value):Asks prog 45 [v,ii 0] H v:=by
 refine g5 mixed d7u ?_;refine b9 ?_;refine i7 (bF (p:=(0:Int)≠0) aD) ?_;exact d4 rfl ⟨rfl,rfl⟩
def UJ {a b:Rat} (ha:Rg a) (hb:Rg b):j4 prog 46 [shR a,shR b] H (.tuple #[ii (sgR a b),ii 0]):=
 (c8m _ _ _ _).mono fun u H' h=>⟨h.1,by
  rw[h.2,Zt ha,Zt hb,Vs ha,Vs hb];unfold yp;rw[if_pos (show(true&&true)=true from rfl)];rfl⟩
def c5c:n8 prog 89=true:=aB
def b9m (a b:MaT):j4 prog 89 [veM a,veM b] H (ii (sgR a.1.1 b.1.1)):=by
 refine g5 mixed d0B ?_;refine b4 (Ja a) ?_;refine b4 (Ja b) ?_;refine i8 (UJ a.2.1 b.2.1) (i0 (Qk a) (Qk b)) fun H1 l1=> ?_;refine g7 (g7 ?_);refine j9 (UI _) rfl ?_;exact d4 rfl ⟨l1,rfl⟩
def sgR_neg {a b:Rat}:sgR a b<0↔a<b:=by
 unfold sgR;split
 ·rename_i h;exact⟨fun _=>h,fun _=>aC⟩
 ·rename_i h;split<;>exact⟨fun e=>absurd e aC,fun e=>absurd e h⟩
def d0E:Go.Sort.SWO (Go.Proofs.ltOf fun x y:MaT=>sgR x.1.1 y.1.1) where
 irrefl:=fun x=>by unfold Go.Proofs.ltOf;rw[decide_eq_false_iff_not,sgR_neg];exact Rat.lt_irrefl
 trans:=fun x y z h1 h2=>by
  unfold Go.Proofs.ltOf at*;rw[oDi,sgR_neg]at*
  grind
 ntrans:=fun x y z h1 h2=>by
  unfold Go.Proofs.ltOf at*;rw[decide_eq_false_iff_not,sgR_neg,Rat.not_lt]at*;exact Rat.le_trans h2 h1
def UK {g:FuncId} {l:List MaT} (eg:n8 prog g=true) (pY:Pl B H) (ho:SO B H 63 32 ceM v l) (h0:l≠[]) (hl:l.length<=1000000) (h:∀x y,j4 prog g [veM x,veM y] B (ii (sgR x.1.1 y.1.1))):
  Con prog 88 [v,.func (.func g) #[] #[]] H fun _ H'=>Pl B H'/\∃m:List MaT,m.Perm l/\m.Pairwise (fun a b=>¬sgR b.1.1 a.1.1<0)/\SO B H' 63 32 ceM v m:=by
 refine g5 mixed d7z ?_;have xJ:blen l.length<4611686018427387904:=bO (blen_le (k:=20) aA) aC;refine Dc el_mass rfl rfl ho.se rfl ?_;refine b9 ?_;refine Db (c2a (s:=l.length) (by simp only[M64];omega)) (p6 (Sv rfl (by simp only[M64];omega))) ?_;refine f0 (d0h (P:=prog) (ρ:=Tryz.srtM_ren) (k:=32) Tryz.srtM (TC aB aB) (TD (n:=32) aB aB) el_mass.len (fun x=>(Ja x).2) d0E (g:=g) (cb:= #[]) eg pY ho h0 aA (fun x y=>h x y) (blen l.length) xJ) rfl ?_;rintro _ H8 ⟨l8,m,tY,wV,o8⟩;refine nmI ?_;exact d4 rfl ⟨l8,m,tY,wV,o8⟩
end
end Go.Z
namespace Go.GS
def qN (c n:Nat):Rat:=Rat.divInt ((c:Nat):Int) ((n:Nat):Int)
def DJ {a b n:Nat} (h:0<n):qN a n+qN b n=qN (a+b) n:=by
 unfold qN;rw[Rat.divInt_eq_div,Rat.divInt_eq_div,Rat.divInt_eq_div,dZ,Rat.intCast_add];have h2:(((n:Nat):Int):Rat)≠0:=fun e=>by
  have:=Rat.intCast_inj.1 (e.trans (show(0:Rat)=((0:Int):Rat)from rfl));omega
 grind
def e1h {n:Nat} (h:0<n):qN n n=1:=by
 unfold qN;rw[Rat.divInt_eq_div];have h2:(((n:Nat):Int):Rat)≠0:=fun e=>by
  have:=Rat.intCast_inj.1 (e.trans (show(0:Rat)=((0:Int):Rat)from rfl));omega
 grind
def e1i {n:Nat}:(((1:Int):Rat)/(((n:Nat):Int):Rat))=qN 1 n:=by unfold qN;rw[Rat.divInt_eq_div];rfl
end Go.GS
namespace Go.Z
open Proofs.Tryz RowKit RX GS RZ WD
def Uh {c n:Nat} (hn:0<n) (h1:c<2^20) (h2:n<2^20):Rb 20 (qN c n):=jg aA aA aA
def Xf {c n:Nat} (hn:0<n) (h1:c<2^20) (h2:n<2^20):Rg (qN c n):=Si (Uh hn h1 h2) aC
def Gt {H:PH} {v:Value} {r:Rat} (h:Rp H v r):Value.agg v.cells=v:=by
 obtain⟨w1,w2,rfl,_⟩:=h;rfl
def DK {H:PH} {v:Value} {q:Rat} {r c:Nat} {E:Array MapEntry} {ob:Obj} (hr:H r=some (.map E c)) (h:Rp H v q):Rp (H.put r ob) v q:=by
 obtain⟨w1,w2,rfl,⟨l1,h1,h2⟩,⟨l2,h3,h4⟩⟩:=h;have key:∀{sz n:Nat} {v:Value} {xs:List Value},Sl H sz v n xs->Sl (H.put r ob) sz v n xs:=fun h=>by
  obtain⟨h1,a,c',h2,h3,h4,h5⟩:=h;refine⟨h1,a,c',h2,h3,h4,h5.imp id ?_⟩;rintro⟨g,o,cs,T,fz,g1,g2,g3⟩;exact⟨g,o,cs,T,fz,g1,by rw[PH.put_ne _ _ (fun e=>by subst e;rw[hr]at g2;cases g2)];exact g2,g3⟩
 exact⟨w1,w2,rfl,⟨l1,⟨key h1.1,h1.2⟩,h2⟩,⟨l2,⟨key h3.1,h3.2⟩,h4⟩⟩
def TalP (l:List Rat) (m:List MaT):Prop:=m.Pairwise (fun a b=>a.1.1<b.1.1)/\∀q:Rat×Rat,(∃x∈m,x.1=q)↔(q.1∈l/\q.2=qN (l.count q.1) l.length)
def Xg (B H:PH) (m:Value) (l:List Rat) (i:Nat):Prop:=∃L:List (Rat×Value),MKO Rg shR B H m L/\(∀r,r∈L.map (·.1)↔r∈l.take i)/\∀q∈L,Rp H q.2 (qN ((l.take i).count q.1) l.length)
section
variable {H B:PH} {u v w e:Value} {l:List Rat} {i:Nat}
def cd:prog.underlying 151=some (.map 53 108):=aB
def zrat:Value:= .agg #[.bool false,.slice none 0 0,.bool false,.slice none 0 0]
def e1j:∀w,(zeroValue 108).run prog w= .ok zrat w:=fun w=>by rfl
def d0F:zrat.cells.size=4/\j0 zrat.cells:=⟨rfl,fun c hc=>by
 simp[zrat,Value.cells]at hc;rcases hc with rfl|rfl|rfl|rfl<;>rfl⟩
def d0G {r:Rat} (pY:Pl B H) (hM:Xg B H v l i) (hr:l[i]? =some r) (hg:Rg r) (he:Rp H e (qN 1 l.length)) (hl:l.length<=1000):Con prog 64 [v,shR r,e] H fun _ H'=>Pl B H'/\Xg B H' v l (i+1)/\Rp H' e (qN 1 l.length):=by
 refine g5 mixed d7g ?_;have hi:=(aH.1 hr).1;obtain⟨L,o1,hk,hv⟩:=hM;have hct:∀q,(l.take (i+1)).count q=(l.take i).count q+if r=q then 1 else 0:=fun q=>by
  rw[take_snoc hr,List.count_append,List.count_singleton];by_cases h:r=q
  ·rw[if_pos h,if_pos (by simpa using h)]
  ·rw[if_neg h,if_neg (by simpa using h)]
 have sR:∀q,(l.take i).count q<=1000:=fun q=>by
  have:=gC (a:=q) (l:=l.take i);rw[bH]at this;omega
 have rI:∀q,q∈l.take (i+1)↔q=r\/q∈l.take i:=fun q=>by
  rw[take_snoc hr,aV,bB];exact Or.comm
 have fin:∀{H1 H2:PH} {z:Value},Pl H H1->Rp H1 z (qN ((l.take (i+1)).count r) l.length)->Pl B H2->MKO Rg shR B H2 v (Bz L r z)->(∃g ob E c,v= .map (some g)/\B g=none/\H1 g=some (.map E c)/\H2=H1.put g ob)->Pl B H2/\Xg B H2 v l (i+1)/\Rp H2 e (qN 1 l.length):=by
  intro H1 H2 z l1 hz l2 o2 hg;obtain⟨g,ob,E,c,-,-,vG,rfl⟩:=hg;refine⟨l2,⟨_,o2,fun q=> ?_,fun q hq=> ?_⟩,DK vG (he.mono l1)⟩
  ·rw[rI];constructor
   ·intro hq;obtain⟨x,hx,rfl⟩:=aZ.1 hq;rcases Pn (x:=x.1) (y:=x.2) hx with⟨h,_⟩|⟨_,h⟩
    ·exact .inl h
    ·exact .inr ((hk _).1 (aZ.2 ⟨_,h,rfl⟩))
   ·rintro(rfl|hq)
    ·exact aZ.2 ⟨_,Po,rfl⟩
    ·by_cases e:q=r
     ·subst e;exact aZ.2 ⟨_,Po,rfl⟩
     ·obtain⟨x,hx,rfl⟩:=aZ.1 ((hk _).2 hq);exact aZ.2 ⟨_,mj (x:=x.1) (y:=x.2) hx e,rfl⟩
  ·rcases Pn (x:=q.1) (y:=q.2) hq with⟨h1,h2⟩|⟨h0,h1⟩
   ·rw[h2,h1];exact DK vG hz
   ·rw[hct,if_neg (fun e=>h0 e.symm),cJ];exact DK vG ((hv _ h1).mono l1)
 refine b4 (j7 _ _) ?_;refine b4 he.rq ?_;have wY:∃b z,((b=false/\z=zrat/\r∉L.map (·.1))\/(b=true/\(r,z)∈L)):=by
  by_cases h:r∈L.map (·.1)
  ·obtain⟨q,hq,rfl⟩:=aZ.1 h;exact⟨true,q.2,.inr ⟨rfl,hq⟩⟩
  ·exact⟨false,zrat,.inl ⟨rfl,rfl,h⟩⟩
 obtain⟨b,z,hbz⟩:=wY;have hzo:z.cells.size=4/\j0 z.cells:=by
  rcases hbz with⟨_,rfl,_⟩|⟨_,h⟩
  ·exact d0F
  ·exact(hv _ h).rq
 refine j8 (ao Hv (vs:=[v,shR r]) (ok2:=true) (k:=r) (u:=z) (b:=b) rfl rfl rfl cd hg e1j o1.mk hbz) rfl ?_;refine g7 (g7 ?_);refine b4 hzo ?_;refine b9 ?_;refine g6 (b:=b) rfl (fun h=> ?_) (fun h=> ?_)
 ·skip
  obtain⟨_,qL⟩:=hbz.resolve_left (fun hh=>by have:=hh.1;rw[h]at this;cases this);have hz:=hv _ qL;refine f0 (yi he hz (Uh aA aC aA) (Uh aA (bO (sR r) aC) aA) aC) (i0 (Gt he) (Gt hz)) ?_;rintro v4 H1 ⟨l1,q4⟩;refine nmI ?_;rw[DJ aA,Nat.add_comm]at q4;refine b4 q4.rq ?_;refine j1 (Pq Hv (k:=r) (v:=v4) (vs:=[v,shR r,v4]) rfl rfl rfl rfl cd hg (pY.trans l1) (o1.mono l1)) (By rfl rfl (Gt q4)) ?_;rintro _ H5 ⟨rfl,l5,o5,hg5⟩;refine nmI ?_;exact d4 rfl (fin l1 (by rw[hct,if_pos rfl];exact q4) l5 o5 hg5)
 ·skip
  obtain⟨_,_,vA⟩:=hbz.resolve_right (fun hh=>by have:=hh.1;rw[h]at this;cases this);have vV:(l.take i).count r=0:=List.count_eq_zero.2 (fun h=>vA ((hk r).2 h));refine j1 (Pq Hv (k:=r) (v:=e) (vs:=[v,shR r,e]) rfl rfl rfl rfl cd hg pY o1) (By rfl rfl (Gt he)) ?_;rintro _ H5 ⟨rfl,l5,o5,hg5⟩;refine nmI ?_;exact d4 rfl (fin (Pl.refl _) (by rw[hct,if_pos rfl,vV];exact he) l5 o5 hg5)
end
def UL {l:List Rat} {m:List MaT} (uA:(m.map fun q=>q.1.1).Nodup) (rI:∀r,r∈(m.map fun q=>q.1.1)↔r∈l) (hp:∀q∈m,q.1.2=qN (l.count q.1.1) l.length) (hs:m.Pairwise (fun a b=>¬sgR b.1.1 a.1.1<0)):TalP l m:=by
 constructor
 ·rw[cV]at hs⊢;intro i j hi hj uS;have h1:=hs i j hi hj uS;rw[sgR_neg,Rat.not_lt]at h1;have h2:m[i].1.1≠m[j].1.1:=fun e=>by
   have:=(cV.1 uA) i j (by simpa using hi) (by simpa using hj) uS;simp only[List.getElem_map]at this;exact this e
  exact Rat.lt_of_le_of_ne h1 h2
 ·intro q;constructor
  ·rintro⟨x,hx,rfl⟩;exact⟨(rI _).1 (aZ.2 ⟨x,hx,rfl⟩),hp x hx⟩
  ·rintro⟨h1,h2⟩;obtain⟨x,hx,hxe⟩:=aZ.1 ((rI _).2 h1);refine⟨x,hx,Prod.ext hxe ?_⟩;rw[hp x hx,h2,hxe]
def TalP.ne {l:List Rat} {m:List MaT} (h:TalP l m) (hl:l≠[]):m≠[]:=fun e=>by
 subst e;obtain⟨a,t,rfl⟩:=lI hl;obtain⟨x,hx,_⟩:=(h.2 (a,qN ((a::t).count a) (a::t).length)).2 ⟨aD,rfl⟩;cases hx
def TalP.uniq {l:List Rat}:∀{m k:List MaT},TalP l m->TalP l k->m=k:=by
 have key:∀(m k:List MaT),m.Pairwise (fun a b=>a.1.1<b.1.1)->k.Pairwise (fun a b=>a.1.1<b.1.1)->(∀x,x∈m↔x∈k)->m=k:=by
  intro m;induction m with
  |nil=>
   intro k _ _ h;cases k with
   |nil=>rfl
   |cons a k=>exact absurd ((h a).2 aD) aD
  |cons a m ih=>
   intro k hm hk h;cases k with
   |nil=>exact absurd ((h a).1 aD) aD
   |cons b k=>
    rw[List.pairwise_cons]at hm hk;have tP:a=b:=by
     rcases bG.1 ((h a).1 aD)with e|e
     ·exact e
     ·rcases bG.1 ((h b).2 aD)with e2|e2
      ·exact e2.symm
      ·have h1:=hk.1 a e;have h2:=hm.1 b e2;exact absurd h1 (Rat.not_lt.2 (Rat.le_of_lt h2))
    subst tP;congr 1;refine ih k hm.2 hk.2 fun x=> ?_;constructor
    ·intro hx;rcases bG.1 ((h x).1 (gB _ hx))with e|e
     ·subst e;exact absurd (hm.1 x hx) Rat.lt_irrefl
     ·exact e
    ·intro hx;rcases bG.1 ((h x).2 (gB _ hx))with e|e
     ·subst e;exact absurd (hk.1 x hx) Rat.lt_irrefl
     ·exact e
 intro m k hm hk;refine key m k hm.1 hk.1 fun x=> ?_;constructor
 ·intro hx;obtain⟨y,hy,uG⟩:=(hk.2 x.1).2 ((hm.2 x.1).1 ⟨x,hx,rfl⟩);exact(Subtype.ext uG) ▸ hy
 ·intro hx;obtain⟨y,hy,uG⟩:=(hm.2 x.1).2 ((hk.2 x.1).1 ⟨x,hx,rfl⟩);exact(Subtype.ext uG) ▸ hy
section
variable {H B:PH} {u v w e:Value} {l:List Rat} {i:Nat}
def Jb (r:Rat):(shR r).cells=shw r:=by rw[Di];rfl
def DL:FA prog 153 0 0:=⟨aB,oDt aB,aB,aB,oDt aB⟩
def e1k:FA prog 153 1 1:=⟨aB,oDt aB,aB,aB,oDt aB⟩
def DN:Sc prog 151:=⟨aB,aB,aB⟩
def Hw:Sc prog 4:=⟨aB,aB,aB⟩
def d0H {b:Nat} {T:TypeId} (hb:H b=some (.cells #[v,.bool false] T (0,0))) (hM:Xg B H v l l.length) (hn:l≠[]) (hl:l.length<=400):Con prog 65 [.pointer (some ⟨b,0,none⟩)] H fun r H'=>Pl H H'/\∃t m,r= .tuple #[t,ii 0]/\SE H' 32 ceM t m/\TalP l m:=by
 refine g5 mixed d7h ?_;have hl0:0<l.length:=eD.2 hn;obtain⟨L,o1,hk,hv⟩:=hM;rw[eB]at hk hv;have hmk:=o1.mk;obtain⟨r,es,clock,rfl,-,hHr,hE,rW⟩:=id o1;have rC:es.map (·.1)=L.map (·.1):=by rw[<-rW];unfold kvN;rw[dO];rfl
 have hLl:L.length<=400:=by
  have:=jM hmk.keys.1 (l₂:=l) fun x hx=>(hk x).1 hx;rw[aR]at this;omega
 have rY:es.length=L.length:=by have:=congrArg List.length rC;simpa using this
 have sR:∀q,l.count q<=400:=fun q=>by have:=gC (a:=q) (l:=l);omega
 refine j6 ?_;simp only[cA,nA];refine g8 DL ?_;simp only[cA,nA];refine g9 DN rfl rfl hb rfl rfl ?_;simp only[cA,nA];refine j8 (RH (vs:=[.map (some r)]) rfl rfl cd hmk) rfl ?_;simp only[cA,nA];refine b9 ?_;refine i7 (bF (p:=((L.length:Nat):Int)>400) aA) ?_;refine j6 ?_;simp only[cA,nA];refine g8 DL ?_;simp only[cA,nA];refine g9 DN rfl rfl hb rfl rfl ?_;simp only[cA,nA];refine j1 (mn (κ:=Rat) (ke:=shR) (vs:=[.map (some r)]) rfl rfl cd hHr) rfl ?_;rintro _ _ ⟨q,hq,rfl,rfl⟩;refine nmI ?_;simp only[cA,nA];have uZ:r≠q:=fun e=>by subst e;rw[hHr]at hq;cases hq
 have hI0:IT shR (H.put q (.mapIter (some r) clock #[] clock)) q r es clock []:=⟨PH.put_self _ _ _,by rw[PH.put_ne _ _ uZ];exact hHr⟩;refine r7 (α:=List Nat×Value×List MaT) (fun⟨seen,out,m⟩=>[out]) (fun⟨seen,out,m⟩=>fun H'=>Pl H H'/\IT shR H' q r es clock seen/\SO H H' 63 32 ceM out m/\((m.map fun q=>q.1.1)++(left es seen).map (·.1)).Perm (es.map (·.1))/\(∀q∈m,q.1.2=qN (l.count q.1.1) l.length)) (fun⟨seen,out,m⟩=>(left es seen).length) (([],.slice none 0 0,[])) rfl (⟨PH.le_put hq _,hI0,SO.nil _ _ _ _ _,by rw[ns];exact oZ _,(fun q hq=>nomatch hq)⟩) fun⟨seen,out,m⟩ H4 ⟨l4,it4,o4,rJ,yL⟩=> ?_;simp only[cA,nA];refine j1 (mr (ok:=Rg) (ke:=shR) (vs:=[.pointer (some ⟨q,0,none⟩)]) rfl rfl hE it4) rfl ?_;rintro v6 H5 yV;refine nmI ?_;simp only[cA,nA];obtain⟨bb,x,y,rfl,hbx⟩:=nr yV;refine b4 (nq bb x y) ?_;refine b4 ⟨bb,Qb bb x y⟩ ?_;refine g6 (b:=bb) (Qb bb x y) (fun qU=> ?_) (fun qU=> ?_)
 ·skip
  obtain⟨e,he,rfl,rfl,rfl⟩:∃p∈left es seen,x=shR p.1/\y=p.2.1/\H5=H4.put q (.mapIter (some r) clock (seen++[p.2.2]).toArray clock):=by
   rcases hbx with⟨h,_⟩|⟨_,h⟩
   ·rw[qU]at h;cases h
   ·exact h
  subst qU;have xQ:e∈es:=(bZ.1 he).1;have heL:(e.1,e.2.1)∈L:=by rw[<-rW];exact aZ.2 ⟨e,xQ,rfl⟩
  have hRp:=hv _ heL;have hRg:Rg e.1:=hE.oks e xQ;have hQg:Rg (qN (l.count e.1) l.length):=Xf hl0 (bO (sR e.1) aC) aA;have it5:IT shR (H4.put q (.mapIter (some r) clock (seen++[e.2.2]).toArray clock)) q r es clock (seen++[e.2.2]):=⟨PH.put_self _ _ _,by rw[PH.put_ne _ _ uZ];exact it4.2⟩;have l5:Pl H (H4.put q (.mapIter (some r) clock (seen++[e.2.2]).toArray clock)):=fun b' ob' qM=>by rw[PH.put_ne _ _ (fun e=>by subst e;rw[hq]at qM;cases qM)];exact l4 _ _ qM
  have o5:SO H (H4.put q (.mapIter (some r) clock (seen++[e.2.2]).toArray clock)) 63 32 ceM out m:=(Nb o4 (g:=q) (fun cs T fz=>by rw[it4.1];exact fun h=>nomatch h)).mono (PH.cut_put _ _ _);generalize H4.put q (.mapIter (some r) clock (seen++[e.2.2]).toArray clock)=H6 at it5 l5 o5⊢;refine j1 (Rds.opn' (mt (ok:=Rg) (ke:=shR) (vs:=[.pointer (some ⟨q,0,none⟩)]) rfl rfl hE xQ it5)) rfl ?_;rintro _ _ ⟨rfl,rfl⟩;refine nmI ?_;simp only[cA,nA];refine g7 (g7 ?_);refine b4 (j7 _ _) ?_;refine b4 (hRp.mono l5).rq ?_;refine f0 (jh (hRp.mono l5)) (p6 (Gt hRp)) ?_;rintro _ H7 ⟨l7,rfl⟩;refine nmI ?_;simp only[cA,nA];rw[Sj hQg];refine g7 (g7 ?_);refine b4 (j7 _ _) ?_;refine b9 ?_;refine i7 (bF (p:=(0:Int)≠0) aD) ?_;obtain⟨la,lb,tI,vB⟩:=nu (hE.asc.imp fun h=>Nat.ne_of_lt h) he;have uO:m.length+1<=400:=by
   have:=rJ.length_eq;rw[tI]at this;simp at this;omega
  obtain⟨XB,xb1,xb2,xb3,xb4⟩:=It (o5.mono l7) (l5.trans l7);refine Cf el_mass rfl rfl rfl aF aF xb2 xb3 aA (show _=[veM ⟨(e.1,qN (l.count e.1) l.length),hRg,hQg⟩]from by unfold veM;rw[<-Jb,<-Jb];rfl) aF rfl fun pv v11 H8 l8 o8=> ?_;simp only[cA,nA];exact⟨(seen++[e.2.2],v11,m++[⟨(e.1,qN (l.count e.1) l.length),hRg,hQg⟩]),by show(left es (seen++[e.2.2])).length<(left es seen).length;rw[tI,vB];simp,rfl,⟨xb1.trans l8,⟨l8 _ _ ((xb4 q (fun cs=>by rw[l7 _ _ it5.1];exact fun h=>nomatch h)).trans (l7 _ _ it5.1)),l8 _ _ ((xb4 r (fun cs=>by rw[l7 _ _ it5.2];exact fun h=>nomatch h)).trans (l7 _ _ it5.2))⟩,o8.less xb1,by show((kZ _ (m++[_]))++kZ _ (left es (seen++[e.2.2]))).Perm _;refine pA ?_ rJ;rw[tI,vB,bM,bL,bM,bM];exact pB _ (by simp only[bI,bR,List.singleton_append];exact(List.perm_middle (a:=e.1) (l₁:=la.map (·.1)) (l₂:=lb.map (·.1))).symm),fun q hq=>(aV.1 hq).elim (yL q) (fun hq=>by rw[bB.1 hq])⟩⟩
 ·skip
  obtain⟨wH,h54⟩:left es seen=[]/\H5=H4:=by
   rcases hbx with⟨_,h⟩|⟨h,_⟩
   ·exact h
   ·rw[qU]at h;cases h
  rw[h54];rw[wH,bR,cC]at rJ;have rI:∀x,x∈(m.map fun q=>q.1.1)↔x∈l:=fun x=>by rw[rJ.mem_iff,rC];exact hk x
  have hm0:m≠[]:=fun e=>by
   subst e;obtain⟨a,t,rfl⟩:=lI hn;exact absurd ((rI a).2 aD) aD
  have hmc:m.length<=1000000:=by have:=rJ.length_eq;simp at this;omega
  refine j6 ?_;simp only[cA,nA];refine g8 e1k ?_;simp only[cA,nA];refine g9 Hw rfl rfl (l4 _ _ hb) rfl rfl ?_;simp only[cA,nA];refine b9 ?_;refine i7 rfl ?_;refine f0 (UK c5b l4 o4 hm0 hmc (fun x y=>b9l x y)) rfl ?_;rintro _ H8 ⟨l8,m',tY,wV,o8⟩;refine nmI ?_;simp only[cA,nA];have zM:(m'.map fun q=>q.1.1).Perm (es.map (·.1)):=(tY.map _).trans rJ;exact d4 rfl ⟨l8,out,m',rfl,o8.se,UL (zM.nodup_iff.2 hE.keys) (fun x=>by rw[zM.mem_iff,rC];exact hk x) (fun q hq=>yL q (tY.mem_iff.1 hq)) wV⟩
end
end Go.Z
namespace Go.GS
def d7C {α:Type} [DecidableEq α] (a:α):∀{D:List α},D.Nodup->a∈D->(D.map fun x=>if a=x then 1 else 0).sum=1:=by
 intro D;induction D with
 |nil=>intro _ h;cases h
 |cons d D ih=>
  intro hn ha;rw[List.nodup_cons]at hn;rw[bI,eP];rcases bG.1 ha with e|e
  ·subst e;rw[if_pos rfl];have:(D.map fun x=>if a=x then 1 else 0).sum=0:=by
    have h2:(D.map fun x=>if a=x then 1 else 0)=D.map fun _=>0:=dK fun x hx=>if_neg fun e:a=x=>hn.1 (by rw[e];exact hx);rw[h2];clear ih hn ha h2;induction D with
    |nil=>rfl
    |cons d D ih=>rw[bI,eP,ih]
   omega
  ·rw[if_neg (fun e2:a=d=>hn.1 (by rw[<-e2];exact e)),ih hn.2 e]
def UM {α:Type} [DecidableEq α] {D:List α} (hn:D.Nodup):∀{l:List α},(∀x∈l,x∈D)->(D.map fun x=>l.count x).sum=l.length:=by
 intro l;induction l with
 |nil=>
  intro h;clear h hn;induction D with
  |nil=>rfl
  |cons d D ih=>rw[bI,eP,ih];rfl
 |cons a l ih=>
  intro h;have e:(D.map fun x=>(a::l).count x)=D.map fun x=>l.count x+if a=x then 1 else 0:=dK fun x _=>by
   rw[List.count_cons];by_cases h:a=x
   ·rw[if_pos h,if_pos (by simpa using h)]
   ·rw[if_neg h,if_neg (by simpa using h)]
  have add:∀(E:List α) (f g:α->Nat),(E.map fun x=>f x+g x).sum=(E.map f).sum+(E.map g).sum:=by
   intro E f g;induction E with
   |nil=>rfl
   |cons d E ih=>rw[bI,eP,bI,eP,bI,eP,ih];omega
  rw[e,add,ih (fun x hx=>h x (by simp[hx])),d7C a hn (h a aD),aP]
end Go.GS
namespace Go.Z
open Proofs.Tryz RowKit RX GS RZ WD
def cuM (l:List Rat) (m:List MaT) (i:Nat):Nat:=((m.take i).map fun q=>l.count q.1.1).sum
def d0I {l:List Rat} {m:List MaT} {i:Nat} {x:MaT} (h:m[i]? =some x):cuM l m (i+1)=cuM l m i+l.count x.1.1:=by
 unfold cuM;rw[take_snoc h,bM,jC];simp
section
variable {H B:PH} {u v w e:Value} {l:List Rat} {m:List MaT} {i:Nat}
def TalP.nd (h:TalP l m):(m.map fun q=>q.1.1).Nodup:=List.pairwise_map.2 (h.1.imp fun h e=>by rw[e]at h;exact Rat.lt_irrefl h)
def TalP.mem (h:TalP l m) {r:Rat}:r∈(m.map fun q=>q.1.1)↔r∈l:=by
 constructor
 ·intro hr;obtain⟨x,hx,rfl⟩:=aZ.1 hr;exact((h.2 x.1).1 ⟨x,hx,rfl⟩).1
 ·intro hr;obtain⟨x,hx,he⟩:=(h.2 (r,qN (l.count r) l.length)).2 ⟨hr,rfl⟩;exact aZ.2 ⟨x,hx,by rw[he]⟩
def TalP.p (h:TalP l m) {x:MaT} (hx:x∈m):x.1.2=qN (l.count x.1.1) l.length:=((h.2 x.1).1 ⟨x,hx,rfl⟩).2
def TalP.all (h:TalP l m):cuM l m m.length=l.length:=by
 unfold cuM;rw[eB];have:=UM h.nd (l:=l) (fun x hx=>h.mem.2 hx);rw[dO]at this;exact this
def TalP.len (h:TalP l m):m.length<=l.length:=by
 have:=jM h.nd (l₂:=l) fun x hx=>h.mem.1 hx
 rwa[aR]at this
def UN (i:Nat):cuM l m i<=cuM l m m.length:=by
 unfold cuM;rw[eB];have:(m.map fun q=>l.count q.1.1).sum=((m.take i).map fun q=>l.count q.1.1).sum+((m.drop i).map fun q=>l.count q.1.1).sum:=by
  rw[<-jC,<-bM,dQ]
 omega
def e1l:n8 prog 36=true:=aB
def ou (q:MaT):Con prog 36 [veM q] H fun u H'=>Pl H H'/\Rp H' u q.1.2:=by
 refine g5 mixed e3o ?_;refine b4 (Ja q) ?_;refine f0 (Ug q.2.2) (congrArg (fun z=>[z]) (DI q)) ?_;rintro v2 H1 ⟨l1,q1⟩;refine nmI ?_;refine b4 q1.rq ?_;exact d4 (Gt q1) ⟨l1,q1⟩
def Xh (n:Int) (h0: -9223372036854775808<=n) (h1:n<9223372036854775808):Con prog 41 [.int .i64 n] H fun u H'=>Pl H H'/\Rp H' u (n:Rat):=by
 refine s7 mixed c8e aB rfl (f0 (Oq n h0 h1) rfl ?_);rintro u1 H1 ⟨l1,sJ⟩;simp only[cA,nA];refine⟨fun h=>(nomatch h),f0 (b8T sJ) rfl ?_⟩;rintro u2 H2 ⟨l2,sB⟩;refine⟨fun h=>(nomatch h),b4 sB.rq (d4 (Gt sB) ⟨l1.trans l2,sB⟩)⟩
def ov:El prog 43 63 32 true ceM veM where
 und:=aB
 has:=aB
 cel:=aB
 agg:=aB
 pos:=aC
 one1:=fun h=>by cases h
 small:=aC
 inf:=⟨(prog.info? 63).getD default,.agg (eV 32 (.int .u64 0)),aB,aB,aB,rfl,oDt aB⟩
 len:=el_mass.len
 val:=fun p=>rfl
 cells:=fun p=>rfl
 one:=fun p c hc=>(Ja p).2 c hc
def d0J (hu:SE H 32 ceM v m) (hT:TalP l m) (h0:0<l.length) (hl:l.length<=400):Con prog 40 [v,.func (.func 36) #[] #[]] H fun u H'=>Pl H H'/\Rp H' u (1:Rat):=by
 refine g5 mixed d7i ?_;have hml:=hT.len;have rK:=hT.all;refine f0 (Xh 0 aA aA) rfl ?_;rintro v2 H1 ⟨l1,q1⟩;refine nmI ?_;refine b4 q1.rq ?_;have e0:((0:Int):Rat)=qN (cuM l m 0) l.length:=by
  unfold qN;rw[show cuM l m 0=0 from rfl,Rat.divInt_eq_div];show(0:Rat)=_
  grind
 rw[e0]at q1;refine m9 ov (hu.mono l1) ?_;refine r7 (α:=Nat×Value) (fun⟨i,x⟩=>[ii (i:Nat),x]) (fun⟨i,x⟩=>fun H'=>i<=m.length/\Pl H H'/\Rp H' x (qN (cuM l m i) l.length)) (fun⟨i,x⟩=>m.length-i) ((0,v2)) rfl (⟨bK _,l1,q1⟩) fun⟨i,x⟩ H' hQ=> ?_;obtain⟨hi,lX,qX⟩:=hQ;refine b9 (b9 ?_);refine g6 (b:=decide (((i:Nat):Int)<(m.length:Nat))) rfl (fun h=> ?_) (fun h=> ?_)
 ·replace h:=oDt h;have qG:i<m.length:=aA;obtain⟨y,hy,_⟩:=q8 qG;have hcu:=UN (l:=l) (m:=m) i;have vF:l.count y.1.1<=l.length:=gC;refine n9 ov (hu.mono lX) hy fun _=> ?_;refine b4 (Ja y) ?_;refine j1 (Aj (f:=36) (caps:= #[]) (vs:=[veM y]) rfl rfl rfl e1l (ou y)) rfl ?_;rintro v8 H2 ⟨l2,q2⟩;refine⟨(fun _=>l2),?_⟩;rw[hT.p (aK hy)]at q2;refine f0 (yi (qX.mono l2) q2 (Uh h0 aA aA) (Uh h0 aA aA) aC) (i0 (Gt qX) rfl) ?_;rintro v9 H3 ⟨l3,q3⟩;refine⟨(fun _=>l3),?_⟩;refine b4 q3.rq ?_;rw[DJ h0,<-d0I hy]at q3;exact⟨(i+1,v9),by show m.length-(i+1)<m.length-i;omega,(i0 (j5 rfl aA) rfl),⟨qG,lX.trans (l2.trans l3),q3⟩⟩
 ·replace h:=oDf h;obtain rfl:i=m.length:=aA;rw[rK,e1h h0]at qX;exact d4 (Gt qX) ⟨lX,qX⟩
def UO (r:Rat):sgR r r=0:=by unfold sgR;rw[if_neg Rat.lt_irrefl,if_pos rfl]
def DO {r:Rat} (hr:Rg r):j4 prog 35 [shR r] H (ii 0):=
 (LM _ _).mono fun u H' h=>⟨h.1,by rw[h.2,Zt hr];rfl⟩
def Xi (r:Rat):Ag prog 53 (shw r).toList.length:=by
 rw[bA,Az];exact⟨aB,aB,aB⟩
def DR:FA prog 63 0 0:=⟨aB,oDt aB,aB,aB,oDt aB⟩
def e1m {c n:Nat} (hc:0<c) (hn:0<n):0<(qN c n).num:=by
 unfold qN;rw[jf _ aA];have hg:0<fO ((c:Nat):Int).natAbs ((n:Nat):Int).natAbs:=Nat.gcd_pos_of_pos_left _ aA;have h1:0<=((n:Nat):Int)/(fO ((c:Nat):Int).natAbs ((n:Nat):Int).natAbs:Nat):=Int.ediv_nonneg aA aA;rw[if_neg aA];obtain⟨d,hd⟩:=Nat.gcd_dvd_left ((c:Nat):Int).natAbs ((n:Nat):Int).natAbs;have qS:c=fO ((c:Nat):Int).natAbs ((n:Nat):Int).natAbs*d:=by simpa using hd
 have hd0:0<d:=Nat.pos_of_ne_zero fun e=>by subst e;simp at qS;omega
 generalize fO ((c:Nat):Int).natAbs ((n:Nat):Int).natAbs=g at hg qS⊢;rw[qS,eA,Int.mul_ediv_cancel_left _ aA];omega
def UP (hu:SE H 32 ceM v m) (hT:TalP l m) (h0:0<l.length) (hl:l.length<=400):j4 prog 7 [v] H (ii 0):=by
 refine g5 mixed d7j ?_;have hml:=hT.len;have hm0:0<m.length:=eD.2 (hT.ne (fun e=>by subst e;cases h0));refine⟨(fun vals H'=>vals=[.bool false]/\H=H'),?_,?_⟩
 ·skip
  refine m9 el_mass hu ?_;refine b9 ?_;refine i7 (bF (p:=((m.length:Nat):Int)<1) aA) ?_;refine m9 el_mass hu ?_;refine b9 ?_;exact⟨by show[Value.bool (decide (((m.length:Nat):Int)>400))]=_;rw[decide_eq_false aA],rfl⟩
 rintro vals H' _ ⟨rfl,rfl⟩;simp only[cA,nA];refine b9 ?_;refine i7 rfl ?_;refine m9 el_mass hu ?_;refine r7 (α:=Nat) (fun i=>[ii 0,ii (i:Nat)]) (fun i=>fun H'=>i<=m.length/\Pl H H') (fun i=>m.length-i) (0) rfl (⟨bK _,Pl.refl _⟩) fun i H' hQ=> ?_;simp only[cA,nA];obtain⟨hi,lX⟩:=hQ;refine b9 (b9 ?_);refine g6 (b:=decide (((i:Nat):Int)<(m.length:Nat))) rfl (fun h=> ?_) (fun h=> ?_)
 ·replace h:=oDt h;have qG:i<m.length:=aA;obtain⟨y,hy,_⟩:=q8 qG;have hym:=aK hy;have vF:0<l.count y.1.1:=List.count_pos_iff.2 (hT.mem.1 (aZ.2 ⟨y,hym,rfl⟩));refine n9 el_mass (hu.mono lX) hy fun _=> ?_;simp only[cA,nA];refine b4 (Ja y) ?_;refine⟨(fun vals H2=>vals=[.bool false]/\Pl H' H2),?_,?_⟩
  ·skip
   refine i8 (DO y.2.1) (congrArg (fun z=>[z]) (Qk y)) fun H3 l3=> ?_;simp only[cA,nA];refine b9 ?_;refine i7 (bF (p:=(0:Int)≠0) aD) ?_;refine i8 (DO y.2.2) (congrArg (fun z=>[z]) (DI y)) fun H4 l4=> ?_;simp only[cA,nA];refine b9 ?_;refine i7 (bF (p:=(0:Int)≠0) aD) ?_;refine f0 (ou y) rfl ?_;rintro v9 H5 ⟨l5,q5⟩;refine⟨(fun _=>l5),?_⟩;simp only[cA,nA];obtain⟨w1,w2,rfl,hlw,-⟩:=q5.out;refine b4 ⟨_,rfl,rfl⟩ ?_;refine f0 (jd hlw) rfl ?_;rintro _ _ ⟨rfl,rfl⟩;refine⟨(fun _=>Pl.refl _),?_⟩;simp only[cA,nA];have rS:0<y.1.2.num:=by rw[hT.p hym];exact e1m vF h0
   refine b9 ?_;refine i7 (bF (p:=sgI y.1.2.num 0<=0) (by unfold sgI;rw[if_neg aA,if_neg aA];decide)) ?_;refine g6 (b:=decide (((i:Nat):Int)>0)) rfl (fun uX=> ?_) (fun uX=> ?_)
   ·replace uX:=oDt uX;obtain⟨y0,tW,_⟩:=q8 (l:=m) (i:=i-1) aA;have l25:=l3.trans (l4.trans l5);refine CO el_mass (ws:=(shw y0.1.1).toList) DR (Xi y0.1.1) (by show((shw y0.1.1++shw y0.1.2).toList.drop 0).take _=_;rw[cS,eG,List.take_left]) aD rfl rfl rfl rfl rfl aF aF (hu.mono (lX.trans l25)) tW (i0 rfl (zp (by rw[show i-1+1=i by omega];rfl) aA)) aF (fun _ _=>rfl) fun _ _=> ?_;simp only[cA,nA];refine f0 (Ug y0.2.1) (p6 (by rw[Di];rfl)) ?_;rintro v14 H6 ⟨l6,q6⟩;refine⟨(fun _=>l6),?_⟩;simp only[cA,nA];refine f0 (Ug y.2.1) (congrArg (fun z=>[z]) (Qk y)) ?_;rintro v15 H7 ⟨l7,q7⟩;refine⟨(fun _=>l7),?_⟩;simp only[cA,nA];refine f0 (oo (q6.mono l7) q7 y0.2.1 y.2.1) rfl ?_;rintro _ H8 ⟨l8,rfl⟩;refine⟨(fun _=>l8),?_⟩;simp only[cA,nA];have qB:y0.1.1<y.1.1:=by
     have h1:=(aH.1 tW);have h2:=(aH.1 hy);have:=cV.1 hT.1 (i-1) i h1.1 h2.1 aA;rw[h1.2,h2.2]at this;exact this
    refine b9 ?_;exact⟨by show[Value.bool (decide (sgR y0.1.1 y.1.1≥0))]=_;rw[decide_eq_false (by have:=sgR_neg.2 qB;omega)],l25.trans (l6.trans (l7.trans l8))⟩
   ·replace uX:=oDf uX;exact⟨rfl,l3.trans (l4.trans l5)⟩
  rintro vals H2 _ ⟨rfl,l2⟩;simp only[cA,nA];refine b9 ?_;refine i7 rfl ?_;exact⟨(i+1),by show m.length-(i+1)<m.length-i;omega,(i0 rfl (j5 rfl aA)),⟨qG,lX.trans l2⟩⟩
 ·replace h:=oDf h;refine f0 (d0J (hu.mono lX) hT h0 hl) rfl ?_;rintro v5 H3 ⟨l3,q3⟩;refine nmI ?_;simp only[cA,nA];refine f0 (Xh 1 aA aA) rfl ?_;rintro v6 H4 ⟨l4,q4⟩;refine nmI ?_;simp only[cA,nA];refine f0 (oo (q3.mono l4) q4 LR LR) rfl ?_;rintro _ H5 ⟨l5,rfl⟩;refine nmI ?_;simp only[cA,nA];refine b9 ?_;refine i7 (by show Value.bool (sgR 1 ((1:Int):Rat) !=0)=_;rw[show sgR 1 ((1:Int):Rat)=0 from UO 1];rfl) ?_;exact d4 rfl ⟨lX.trans (l3.trans (l4.trans l5)),rfl⟩
end
end Go.Z

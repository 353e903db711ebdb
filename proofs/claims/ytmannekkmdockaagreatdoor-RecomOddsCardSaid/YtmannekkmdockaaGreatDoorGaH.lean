/- Trees of functions. -/
import Derived.Test.YtmannekkmdockaaGreatDoorGsM
namespace Go.Z
open Proofs.Tryz RowKit RX
set_option maxRecDepth 100000
theorem d3Q:tree prog [] [] [] [] 60=some (.cq 2 V0
(.cq 4 V1
(.cf 103 [(.ag V0)]
(.ri V2
(.br (.io .neq V2 (.ki 0)) (.ret [V2])
(.pm f60 4 2 [(.cn V1 0)]
(.ri V3
(.rq (.int .i64 (.cn V0 0)) (.br (.io .neq V3 (.cn V0 0)) (.ret [(.ki 320)]) (.rq (.int .i64 (.cn V1 1)) (.br (.io .lss (.cn V1 1) (.ki 0)) (.ret [(.ki 320)]) (.rq (.int .i64 (.cn V1 2)) (.br (.io .gtr (.cn V1 1) (.cn V1 2)) (.ret [(.ki 320)]) (.rq (.int .i64 (.cn V1 3)) (.br (.io .lss (.cn V1 3) (.ki 1)) (.ret [(.ki 320)]) (.br (.io .gtr (.cn V1 3) (.ki 8)) (.ret [(.ki 320)])
(.cf 104 [(.cn V1 0),(.k (.func (.func 105) #[] #[]))]
(.rb V4
(.br V4
(.ret [(.ki 320)]) (.ret [(.ki 0)])))))))))))))))))))):=aB
theorem c8U:tree prog [] [] [] [] 105=some (.ri V0
(.br (.io .lss V0 (.ki 0)) (.ret [kT]) (.ret [(.io .gtr V0 (.ki 1000000000))]))):=aB
theorem d3R:tree prog [2] [] [] [] 61=some (.cq 6 V0
(.pub 109 V0
(.pm f61 1 0 [V2]
(.pm f61 1 1 [V3]
(.pm f61 1 3 [V2]
(.pm f61 1 4 [V5]
(.pm f61 1 5 [V6]
(.cf 106 [V4,V1,V7]
(.ri V8
(.br (.io .neq V8 (.ki 0)) (.ret [kF])
(.pm f61 3 1 [V2]
(.pm f61 3 2 [V9]
(.pm f61 3 3 [V10]
(.cf 25 [V1,V11]
(.tq 0 V12
(.tq 1 V12
(.ef false f61 4 1 [V2]
(.cf 107 [(.pj V12 0),V13]
(.rb V14
(.ret [(.nt V14)])))))))))))))))))))):=aB
theorem c8V:tree prog [] [] [] [] 108=some (.pm f108 1 0 [V1]
(.cf 109 [V2,V0]
(.rb V3
(.ret [(.nt V3)])))):=aB
theorem d3S:tree prog [2] [] [] [] 109=some (.cq 6 V0
(.pub 109 V0
(.ef false f109 1 1 [V2]
(.cf 178 [V1,V3]
(.pm f109 2 0 [V2]
(.pm f109 2 1 [V5]
(.cf 112 [V6,V1]
(.tq 0 V7
(.tq 1 V7
(.rb (.pj V7 0) (.br (.pj V7 0)
(.pm f109 3 3 [V2]
(.pm f109 3 4 [V8]
(.pm f109 3 5 [V9]
(.ri V4
(.ri V10
(.br (.io .geq V4 V10)
(.pm f109 3 10 [V2]
(.pm f109 3 11 [V11]
(.pm f109 3 12 [V12]
(.ri V13
(.ret [(.io .leq V4 V13)]))))) (.ret [kF]))))))) (.ret [kF])))))))))))):=aB
theorem c8W:tree prog [] [] [] [] 179=some (.pm f179 1 0 [V1]
(.pm f179 1 1 [V2]
(.pm f179 1 2 [V3]
(.pm f179 1 4 [V4,V0]
(.pm f179 1 5 [V5]
(.ret [V6])))))):=aB
theorem d3T:tree prog [] [] [⟨0,2,[],[]⟩] [] 178=some (.loop [(.ki 0),V0]
(.ru V3
(.br (.uo .neq V3 (kU 0))
(.cf 122 [V3]
(.ef false f178 4 4 [V1,V4]
(.ri V2
(.ri V5
(.next 0 [(.io .add V2 V5),(.uo .and V3 (.uo .sub V3 (kU 1)))]))))) (.ret [V2])))):=aB
theorem d3U:tree prog [] [] [⟨0,3,[],[]⟩] [] 84=some (.cq 6 V0
(.pm f84 2 1 [V2]
(.loop [(.k (.slice none 0 0)),(.ki 0)]
(.ri V5
(.ri V3
(.br (.io .lss V5 V3)
(.pm f84 4 0 [V2,V5]
(.pm f84 4 1 [V6]
(.cf 114 [(.sn V0 4 2),V1,V2,V7]
(.tq 0 V8
(.tq 1 V8
(.tq 2 V8
(.cf 109 [(.ag V0),(.pj V8 0)]
(.rb V9
(.br V9
(.cf 109 [(.ag V0),(.pj V8 1)]
(.rb V10
(.br V10
(.ef false f84 7 2 [V7]
(.ef false f84 7 3 [V4,V11]
(.next 0 [V12,(.io .add V5 (.ki 1))]))) (.next 0 [V4,(.io .add V5 (.ki 1))])))) (.next 0 [V4,(.io .add V5 (.ki 1))])))))))))) (.ret [V4]))))))):=aB
theorem d3V:tree prog [] [] [] [] 36=some (.cq 2 V0
(.cq 4 V1
(.cf 60 [(.ag V0),(.ag V1)]
(.ri V3
(.br (.io .neq V3 (.ki 0)) (.ret [kF,V3])
(.cf 61 [(.cat (.ag V1) 4 (.ag V0)),V2]
(.ret [V4,(.ki 0)]))))))):=aB
theorem d3W:tree prog [] [] [] [] 37=some (.cq 2 V0
(.cq 4 V1
(.cf 60 [(.ag V0),(.ag V1)]
(.ri V4
(.br (.io .neq V4 (.ki 0)) (.ret [(.k (.slice none 0 0)),V4])
(.cf 83 [(.ag V0),V2,V3]
(.ri V5
(.br (.io .neq V5 (.ki 0)) (.ret [(.k (.slice none 0 0)),V5])
(.cf 84 [(.cat (.ag V1) 4 (.ag V0)),V2,V3]
(.ret [V6,(.ki 0)])))))))))):=aB
theorem d3X:tree prog [] [] [⟨0,3,[],[]⟩] [] 116=some (.cf 18 [V0]
(.pm f116 2 1 [V0]
(.loop [(.ki 0)]
(.ri V6
(.ri V5
(.br (.io .lss V6 V5)
(.pm f116 4 1 [V0,V6]
(.pm f116 4 2 [V7]
(.ri V8
(.ri V1
(.br (.io .neq V8 V1)
(.ri V2
(.br (.io .neq V8 V2) (.next 0 [(.io .add V6 (.ki 1))])
(.pm f116 6 3 [V4,V6]
(.ef false f116 6 4 [V9,V2]
(.ru V3
(.rq (.num V6) (.rq (.nn V6) (.br (.uo .eql (.uo .and (.uo .shr V3 V6) (kU 1)) (kU 1))
(.pm f116 8 3 [V4,V6]
(.ef false f116 8 4 [V11,V1]
(.next 0 [(.io .add V6 (.ki 1))]))) (.next 0 [(.io .add V6 (.ki 1))])))))))))
(.pm f116 6 3 [V4,V6]
(.ef false f116 6 4 [V9,V2]
(.ru V3
(.rq (.num V6) (.rq (.nn V6) (.br (.uo .eql (.uo .and (.uo .shr V3 V6) (kU 1)) (kU 1))
(.pm f116 8 3 [V4,V6]
(.ef false f116 8 4 [V11,V1]
(.next 0 [(.io .add V6 (.ki 1))]))) (.next 0 [(.io .add V6 (.ki 1))]))))))))))))
(.cf 21 [V4]
(.tq 0 V7
(.tq 1 V7
(.ret [(.pj V7 0)])))))))))):=aB
theorem d3Y:tree prog [] [] [⟨0,3,[],[]⟩,⟨0,6,[],[]⟩] [] 111=some (.loop [(.k (.slice none 0 0)),(.ki 0)]
(.ri V2
(.ri V0
(.br (.io .lss V2 V0) (.loop [V1,(.io .add V2 (.ki 1))]
(.ri V4
(.br (.io .lss V4 V0)
(.cq 1 V2
(.cq 1 V4
(.ef false f111 8 4 [(.pn (.pn (.z 99) 0 1 V2) 1 1 V4)]
(.ef false f111 8 5 [V3,V5]
(.next 1 [V6,(.io .add V4 (.ki 1))]))))) (.next 0 [V3,(.io .add V2 (.ki 1))])))) (.ret [V1]))))):=aB
theorem d3Z:tree prog [3] [] [] [] 51=some (.pub 112 (.z 112)
(.pm f51 2 0 [V1]
(.ef false f51 2 2 [V2,V0]
(.pm f51 3 0 [V1]
(.cq 12 V4
(.ret [(.ag V4)])))))):=aB
theorem d4a:tree prog [1] [] [] [] 146=some (.cq 1 V0
(.pub 54 V0
(.ef false f146 1 0 [V1]
(.ret [V2])))):=aB
@[reducible] def z0_:SV:= .uo .andNot V4 (.uo .and V2 (.op1 .neg .u64 V3))
theorem c8X:tree prog [] [] [⟨0,3,[],[]⟩] [] 203=some (.pm f203 0 0 [V1]
(.pm f203 0 1 [V1]
(.ru V3
(.ru V2
(.pm f203 1 0 [V1]
(.ru V4
(.loop [z0_]
(.ru V5
(.br (.uo .neq V5 (kU 0))
(.ef false f203 5 4 [V0,(.uo .or (.uo .and (.uo .sub V5 (kU 1)) z0_) (.uo .and V2 (.op1 .neg .u64 V3)))]
(.rb V6
(.br (.nt V6) (.ret []) (.next 0 [(.uo .and (.uo .sub V5 (kU 1)) z0_)])))) (.ret [])))))))))):=aB
theorem d4b:tree prog [] [] [] [] 145=some (.cq 6 V0
(.cf 27 [(.sn V0 4 2),V1]
(.tq 0 V2
(.tq 1 V2
(.cq 8 (.pj V2 0)
(.cf 75 [(.ag (.pj V2 0))]
(.cf 101 [V3]
(.cq 4 V4
(.ret [(.ag V4)]))))))))):=aB
theorem d4c:tree prog [] [] [⟨0,5,[],[]⟩,⟨4,13,[],[]⟩] [⟨7,[0,0,2,7,15,0,0,64,224,480,1023,0,4095],[0,0,5,1,1,0,0,5,1,1,0,3,4],[0,0,3,0,0,0,0,3,0,0,0,0,0],[0,1,2,3,4,5,6,7,8,9,10,11],[12]⟩,⟨10,[0,0,2,6,14,0,32,126,254,511,0,2047],[5,0,0,5,0,0,1,0,2,2,3,4],[5,0,0,0,0,0,0,0,0,0,0,0],[0,1,2,3,4,5,6,7,8,9,10],[11]⟩,⟨15,[0,0,2,0,0,30,0,0,0,384,1022,2046,0,8190,16383],[5,0,2,5,0,2,5,5,0,0,2,2,5,2,4],[2,0,0,0,0,0,0,4,0,0,0,0,6,0,0],[0,1,3,4,6,7,8,9,12,2,5,10,11,13],[14]⟩] 89=some (.cq 6 V0
(.cq 1 V1
(.ef false f89 1 0 []
(.cq 1 V2
(.cf 25 [(.cn V1 0),(.cn V0 3)]
(.tq 0 V3
(.tq 1 V3
(.cf 111 [(.cn V0 3)]
(.pm f89 4 1 [V4]
(.loop [(.ki 0)]
(.ri V6
(.ri V5
(.br (.io .lss V6 V5)
(.pm f89 6 0 [V4,V6]
(.pm f89 6 1 [V7]
(.cq 2 V8
(.pm f89 7 3 [(.pj V3 0),(.cn V8 0)]
(.pm f89 7 4 [V9]
(.pm f89 7 8 [(.pj V3 0),(.cn V8 1)]
(.pm f89 7 9 [V11]
(.ru V10
(.ru V12
(.cf 145 [(.ag V0),(.uo .or V10 V12)]
(.cq 4 V13
(.cf 67 [(.sn V13 0 2)]
(.ri V14
(.br (.io .eql V14 (.ki 0)) (.next 0 [(.io .add V6 (.ki 1))]) (.rq (.int .i64 (.cn V0 4))
(.pm f89 10 6 [V4]
(.ri V15
(.ct 58 [(.io .mul (.io .sub (.cn V0 4) (.ki 1)) V15)]
(.ct 82 [(.ag V13),V16]
(.cq 4 V17
(.cf 146 [(.uo .or V10 V12)]
(.rf V18 1 []
(.cf 116 [(.cn V1 0),(.cn V8 0),(.cn V8 1),V19]
(.cf 109 [(.ag V0),V19]
(.rb V21
(.br V21
(.ru V19
(.cf 109 [(.ag V0),(.uo .andNot (.uo .or V10 V12) V19)]
(.rb V22
(.br V22
(.cf 51 [(.cn V1 0)]
(.cf 51 [V20]
(.pm f89 14 15 [V23,V24]
(.rb V25
(.br V25
(.ct 51 [V20]
(.ct 145 [(.ag V0),V19]
(.ct 145 [(.ag V0),(.uo .andNot (.uo .or V10 V12) V19)]
(.ct 82 [V27,V28]
(.ct 147 [V29,(.ag V17)]
(.ef false f89 15 14 [(.cn V2 0),V26,V30]
(.next 1 []))))))) (.next 1 [])))))) (.next 1 []))))) (.next 1 []))))) (.next 0 [(.io .add V6 (.ki 1))]) (.dead 818))))))))))))))))))))))) (.ret [(.cn V2 0)])))))))))))))):=aB
theorem b2j:(opr f89 14 15).op= .binOp .neq 112 (.tmp 85) (.tmp 87) 112:=aB
theorem c8Y:tree prog [] [] [⟨0,4,[],[1]⟩] [⟨8,[0,0,2,0,15],[0,0,2,5,4],[0,0,0,1,0],[0,1,3,2],[4]⟩] 47=some (.cq 6 V0
(.cf 89 [(.ag V0),V1]
(.cf 58 [(.ki 1)]
(.cq 4 V3
(.ef false f47 3 1 [V2]
(.loop [V3]
(.ef false f47 4 0 [V4]
(.tq 0 V6
(.rb (.pj V6 0) (.br (.pj V6 0)
(.ef false f47 5 0 [V4]
(.tq 1 V7
(.cq 4 (.pj V7 1)
(.cf 90 [(.ag V5),(.ag (.pj V7 1))]
(.cq 4 V8
(.next 0 [V8]))))))
(.cf 67 [(.sn V5 0 2)]
(.ri V7
(.br (.io .gtr V7 (.ki 0))
(.ct 51 [V1]
(.ef false f47 8 4 [V2,V8,(.ag V5)]
(.ret [V2]))) (.ret [V2])))))))))))))):=aB
theorem d4d:tree prog [8] [] [] [] 46=some (.cq 2 V0
(.cq 4 V1
(.cf 60 [(.ag V0),(.ag V1)]
(.ri V3
(.br (.io .neq V3 (.ki 0)) (.ret [V3]) (.rq (.int .i64 (.cn V0 0)) (.br (.io .gtr (.cn V0 0) (.ki 12)) (.ret [(.ki 3)])
(.ef false f46 6 3 [(.cat (.ag V1) 4 (.ag V0))]
(.pub 138 (.z 138)
(.ef false f46 6 5 [V5,V4]
(.ef false f46 7 1 [V5]
(.cf 87 [V2,V7]
(.rb V8
(.br V8
(.ret [(.ki 8)]) (.ret [(.ki 0)]))))))))))))))):=aB
theorem c8Z:tree prog [] [] [] [] 88=some (.pm f88 1 0 [V1]
(.ef false f88 1 2 [V2,V0]
(.rb V3
(.ret [(.nt V3)])))):=aB
theorem c9a:tree prog [11] [] [⟨0,7,[],[]⟩,⟨0,12,[],[]⟩] [] 12=some (.cq 2 V0
(.cq 4 V1
(.ef false f12 1 3 [V2]
(.cf 46 [(.ag V0),(.ag V1),V3]
(.ri V4
(.br (.io .neq V4 (.ki 0)) (.ret [(.k (.slice none 0 0)),(.k (.slice none 0 0)),V4])
(.cf 21 [V2]
(.tq 0 V5
(.tq 1 V5
(.cf 47 [(.cat (.ag V1) 4 (.ag V0)),(.pj V5 0)]
(.ef false f12 6 1 [V6]
(.loop [(.k (.slice none 0 0))]
(.ef false f12 7 0 [V7]
(.tq 0 V9
(.rb (.pj V9 0) (.br (.pj V9 0)
(.ef false f12 8 0 [V7]
(.tq 0 V10
(.pub 112 (.z 112)
(.ef false f12 8 3 [V11,(.pj V10 0)]
(.pm f12 9 3 [V11,(.cn V0 0)]
(.cf 45 [V13]
(.ef false f12 9 5 [V14]
(.ef false f12 9 6 [V8,V15]
(.next 0 [V16])))))))))
(.cf 48 [V8,(.k (.func (.func 49) #[] #[]))]
(.pm f12 11 1 [V8]
(.loop [V8,(.ki 0),(.k (.slice none 0 0)),(.ki 0)]
(.ri V15
(.ri V11
(.br (.io .lss V15 V11)
(.pm f12 13 0 [V8,V15]
(.pm f12 13 1 [V16]
(.cf 51 [V17]
(.pm f12 14 3 [V6,V18]
(.cf 52 [V19]
(.tq 0 V20
(.tq 1 V20
(.cq 16 (.pj V20 0) (.rq (.int .i64 (.pj V20 1)) (.br (.io .neq (.pj V20 1) (.ki 0)) (.ret [(.k (.slice none 0 0)),(.k (.slice none 0 0)),(.pj V20 1)])
(.ef false f12 17 2 [(.ag (.pj V20 0))]
(.ef false f12 17 3 [V14,V21]
(.next 1 [V12,V13,V22,(.io .add V15 (.ki 1))]))))))))))))) (.ret [V12,V14,(.ki 0)]))))))))))))))))))))))):=aB
theorem c3i:tree prog [] [] [] [] 49=some (.cf 50 [V0,V1]
(.ret [V2])):=aB
theorem d7C:tree prog [] [] [] [] 16=some (.cq 2 V0
(.cq 4 V1
(.ef false f16 1 4 [V2,V3]
(.cf 46 [(.ag V0),(.ag V1),V4]
(.ri V5
(.br (.io .neq V5 (.ki 0)) (.ret [(.cat (.z 56) 8 (.z 56)),V5])
(.cf 21 [V2]
(.tq 0 V6
(.tq 1 V6
(.cf 21 [V3]
(.tq 0 V7
(.tq 1 V7
(.cf 47 [(.cat (.ag V1) 4 (.ag V0)),(.pj V6 0)]
(.cf 51 [(.pj V7 0)]
(.pm f16 6 7 [V8,V9]
(.tq 0 V10
(.tq 1 V10
(.cq 4 (.pj V10 0)
(.rb (.pj V10 1) (.br (.pj V10 1)
(.cf 52 [(.ag (.pj V10 0))]
(.tq 0 V11
(.tq 1 V11
(.cq 16 (.pj V11 0) (.ret [(.ag (.pj V11 0)),(.pj V11 1)])))))
(.cf 58 [(.ki 0)]
(.cf 52 [V11]
(.tq 0 V12
(.tq 1 V12
(.cq 16 (.pj V12 0) (.ret [(.ag (.pj V12 0)),(.pj V12 1)])))))))))))))))))))))))))):=aB
theorem c9b:tree prog [26] [] [] [⟨10,[0,0,2,6,14,0,32,97,255],[0,0,7,7,7,0,0,6,0],[0,0,0,0,0,0,0,3,0],[0,1],[2,3,4,5,6,7,8]⟩,⟨11,[0,0,0,6,14,0,32,96,224,15,543,2047,4095],[0,0,0,2,0,0,1,1,1,0,0,6,0],[0,0,0,0,0,0,0,0,0,0,0,3,0],[0,1,2,5,6,7,8,3,4,9,10],[11,12]⟩] 19=some (.cq 2 V0
(.cq 4 V1
(.cq 1 V3
(.cf 60 [(.ag V0),(.ag V1)]
(.ri V4
(.br (.io .neq V4 (.ki 0)) (.ret [(.k (.slice none 0 0)),kF,(.z 63),V4]) (.pub 137 (.cat (.cat (.ag V1) 4 (.ag V0)) 6 (.cat (.ag V3) 1 (.z 43)))
(.pm f19 5 1 [V5]
(.pm f19 5 2 [V6]
(.pm f19 5 3 [V7]
(.cf 61 [V8,V2]
(.rb V9
(.br (.nt V9) (.ret [(.k (.slice none 0 0)),kF,(.z 63),(.ki 8)])
(.cf 21 [V2]
(.tq 0 V10
(.tq 1 V10
(.cf 62 [V5,(.pj V10 0)]
(.pm f19 9 1 [V5]
(.pm f19 9 2 [V12]
(.pm f19 9 3 [V13]
(.ri V14
(.br (.io .neq V14 (.ki 0))
(.pm f19 10 2 [V5]
(.pm f19 10 3 [V15]
(.pm f19 10 4 [V16]
(.ret [(.k (.slice none 0 0)),kF,(.z 63),V17]))))
(.pm f19 11 6 [V5]
(.pm f19 11 7 [V15]
(.pm f19 11 8 [V16]
(.ct 20 [(.pj V10 0),V11]
(.rb V18
(.cq 1 V17
(.ret [V11,(.nt V18),(.ag V17),(.ki 0)]))))))))))))))))))))))))))))):=aB
open Go.GS
def bv (wts:Value) (lo hi ds:Int):Value:= .agg #[wts,ii lo,ii hi,ii ds]
def chv (wts:Value) (lo hi ds:Int) (n:Nat) (w:Value):Value:= .agg #[wts,ii lo,ii hi,ii ds,ii n,w]
theorem u0 {H:PH} {sz:Nat} {α:Type} {ce:α->List Value} {v:Value} {l:List α} (h:SE H sz ce v l):Dm v=true:=h.one.2 v (by rw[h.cells];simp)
theorem Cj {wts:Value} (h:Dm wts=true) (lo hi ds:Int):(bv wts lo hi ds).cells.size=4/\o0 (bv wts lo hi ds).cells:=by
 refine⟨rfl,fun c hc=> ?_⟩;rw[bv,Fj]at hc;simp only[aP,bP,or_false]at hc;rcases hc with rfl|rfl|rfl|rfl
 ·exact h
 all_goals rfl
theorem Vh {wts w:Value} (h:Dm wts=true) (h2:Dm w=true) (lo hi ds:Int) (n:Nat):(chv wts lo hi ds n w).cells.size=6/\o0 (chv wts lo hi ds n w).cells:=by
 refine⟨rfl,fun c hc=> ?_⟩;rw[chv,Fj]at hc;simp only[aP,bP,or_false]at hc;rcases hc with rfl|rfl|rfl|rfl|rfl|rfl
 ·exact h
 ·rfl
 ·rfl
 ·rfl
 ·rfl
 ·exact h2
theorem Zq:FA prog 109 0 0:=⟨aB,oDt aB,aB,aB,oDt aB⟩
theorem MU:FA prog 109 1 4:=⟨aB,oDt aB,aB,aB,oDt aB⟩
theorem e0i:FA prog 39 0 0:=⟨aB,oDt aB,aB,aB,oDt aB⟩
theorem e0j:FA prog 39 1 1:=⟨aB,oDt aB,aB,aB,oDt aB⟩
theorem e0k:FA prog 39 2 2:=⟨aB,oDt aB,aB,aB,oDt aB⟩
theorem MV:FA prog 39 3 3:=⟨aB,oDt aB,aB,aB,oDt aB⟩
theorem d7F:Sc prog 32:=⟨aB,aB,aB⟩
theorem MW:Ag prog 37 2:=⟨aB,aB,aB⟩
theorem MY:Ag prog 109 6:=⟨aB,aB,aB⟩
theorem c3k:Da prog 105=true:=aB
theorem c3l:Da prog 179=true:=aB
theorem c3m:Da prog 108=true:=aB
section
variable {H:PH} {u v w wts:Value} {p wl:List Int} {n:Nat} {es:List (Nat×Nat)} {lo hi ds:Int} {set:Nat}
theorem c3n (x:Int):Asks prog 105 [ii x] H (.bool (decide (x<0)||decide (x>1000000000))):=by
 refine i9 mixed c8U ?_;refine d9 ?_;refine g7 (b:=decide (x<0)) rfl (fun h=> ?_) (fun h=> ?_)
 ·replace h:=oDt h;exact g6 rfl ⟨rfl,by rw[oDd h];rfl⟩
 ·replace h:=oDf h;exact g6 rfl ⟨rfl,by rw[decide_eq_false h];rfl⟩
theorem Ia {h:¬(wl.length=n/\0<=lo/\lo<=hi/\1<=ds/\ds<=8/\Nh wl)}:bdE n wl lo hi ds=320:=if_neg h
theorem ly (hw:SG H w es) (hg:GV n es) (qO:SI H wts wl):Ae prog 60 [gv n w,bv wts lo hi ds] H (ii (bdE n wl lo hi ds)):=by
 refine i9 mixed d3Q ?_;refine d4 (t8 hw) ?_;refine d4 (Cj (u0 qO) _ _ _) ?_;refine y9 (kr hw hg) rfl fun H1 l1=> ?_;refine d9 ?_;refine r9 (bF (p:=(0:Int)≠0) aD) ?_;refine j1 el_int (qO.mono l1) ?_;refine d9 (d9 ?_);refine j8 (p:=(wl.length≠n)) (by show Value.bool (((wl.length:Nat):Int) !=((n:Nat):Int))=_;rw[bN];congr 1;apply decide_eq_decide.2;omega) (fun h=> ?_) fun h=> ?_
 ·exact g6 rfl ⟨l1,by rw[Ia (h:=fun e=>h e.1)];rfl⟩
 ·refine d9 ?_;refine g7 (b:=decide (lo<0)) rfl (fun h2=> ?_) (fun h2=> ?_)
  ·replace h2:=oDt h2;exact g6 rfl ⟨l1,by rw[Ia (h:=fun e=>aA)];rfl⟩
  ·replace h2:=oDf h2;refine d9 ?_;refine g7 (b:=decide (lo>hi)) rfl (fun h3=> ?_) (fun h3=> ?_)
   ·replace h3:=oDt h3;exact g6 rfl ⟨l1,by rw[Ia (h:=fun e=>aA)];rfl⟩
   ·replace h3:=oDf h3;refine d9 ?_;refine g7 (b:=decide (ds<1)) rfl (fun h4=> ?_) (fun h4=> ?_)
    ·replace h4:=oDt h4;exact g6 rfl ⟨l1,by rw[Ia (h:=fun e=>aA)];rfl⟩
    ·replace h4:=oDf h4;refine g7 (b:=decide (ds>8)) rfl (fun h5=> ?_) (fun h5=> ?_)
     ·replace h5:=oDt h5;exact g6 rfl ⟨l1,by rw[Ia (h:=fun e=>aA)];rfl⟩
     ·replace h5:=oDf h5;refine y9 (c3e (caps:=[]) (q:=fun x=>decide (x<0)||decide (x>1000000000)) (qO.mono l1) c3k (fun H' x _ _=>(c3n x).give)) rfl fun H2 l2=> ?_;refine d9 ?_;refine g7 (b:=wl.any fun x=>decide (x<0)||decide (x>1000000000)) rfl (fun h6=> ?_) (fun h6=> ?_)
      ·skip
       rw[List.any_eq_true]at h6;obtain⟨x,tX,rG⟩:=h6;exact g6 rfl ⟨l1.trans l2,by rw[Ia (h:=fun e=>by have:=e.2.2.2.2.2 x tX;simp at rG;omega)];rfl⟩
      ·skip
       have hW:Nh wl:=by
        intro x hx;rw[List.any_eq_false]at h6;have:=h6 x hx;simp at this;omega
       exact g6 rfl ⟨l1.trans l2,by rw[show bdE n wl lo hi ds=0 from if_pos ⟨aA,aA,aA,aA,aA,hW⟩];rfl⟩
theorem b9R {b:Nat} {T:TypeId} {x:Nat} {y:Int} (hb:H b=some (.cells #[wts,ii lo,ii hi,ii ds,ii n,w] T (0,0))) (qO:SI H wts wl) (hx:wl[x]? =some y):Ae prog 179 [ii (x:Nat),.pointer (some ⟨b,0,none⟩)] H (ii y):=by
 refine i9 mixed c8W ?_;refine Hf Zq ?_;refine Hf e0i ?_;refine Bn d7F rfl rfl hb rfl rfl ?_;refine j4 el_int qO hx fun _=> ?_;exact g6 rfl ⟨Pl.refl _,rfl⟩
theorem c3o {f:FuncId} {caps:List Value} (hT:Tb H) (hs:set<M64) (zC:Nh wl) (hsn:∀x,bit set x=true->x<wl.length) (sJ:Da prog f=true) (hf:∀H' x y,Pl H H'->wl[x]? =some y->Ae prog f (ii (x:Nat)::caps) H' (ii y)):Ae prog 178 [uv set,.func (.func f) #[] caps.toArray] H (ii (Sj wl set)):=by
 refine i9 mixed d3T ?_;refine s8 (α:=Nat×Nat) (fun⟨k,s⟩=>[ii (((els set).take k).map fun x=>wl.getD x 0).sum,uv s]) (fun⟨k,s⟩=>fun H'=>Pl H H'/\s<M64/\k<=(els set).length/\els s=(els set).drop k) (fun⟨k,s⟩=>(els set).length-k) ((0,set)) rfl (⟨Pl.refl _,hs,bI _,rfl⟩) fun⟨k,s⟩ H' hQ=> ?_;simp only[cA,nA];obtain⟨l1,qV,hk,he⟩:=hQ;refine d9 ?_;refine j8 (p:=(s≠0)) (bN0 s) (fun h=> ?_) fun h=> ?_
 ·obtain⟨x,r,tB⟩:∃x r,els s=x::r:=by
   cases tB:els s with
   |nil=>exact absurd (Yz qV tB) h
   |cons x r=>exact⟨x,r,rfl⟩
  have htz:tz s=x:=by simp[tz,tB]
  have qY:k<(els set).length:=by
   apply Nat.lt_of_not_le;intro hh;rw[eD hh,tB]at he;cases he
  obtain⟨y,hy,wO⟩:=m7 qY;rw[<-he,tB]at wO;obtain⟨rfl,hr'⟩:=List.cons.inj wO;have uX:=hsn x ((Jj hs).1 (aG hy));have hwx:wl[x]? =some wl[x]:=aJ uX;refine s6 (kg (hT.mono l1) qV) rfl ?_;simp only[cA,nA];rw[htz];refine t7 (fy (f:=f) (caps:=caps.toArray) (vs:=[ii (x:Nat)]) rfl rfl rfl sJ (hf _ x _ l1 hwx)) rfl ?_;rintro _ H2 ⟨l2,rfl⟩;refine nmI ?_;simp only[cA,nA];have hbd:=MS (((els set).take k).map fun x=>wl.getD x 0) (by
   intro z hz;rw[aY]at hz;obtain⟨a,ha,rfl⟩:=hz;have tI:=hsn a ((Jj hs).1 (cG ha));rw[aK,aJ tI];exact zC _ (dS tI))
  have rM:=Jk set;have hlk:((((els set).take k).map fun x=>wl.getD x 0)).length<=64:=by
   rw[aX,bM];unfold card at rM;omega
  have vL:=zC _ (dS uX);refine d9 (d9 ?_);exact⟨(k+1,s&&&(s-1)),by show(els set).length-(k+1)<(els set).length-k;omega,(i7 (by rw[Zh rfl rfl aA aA];show ii _=ii (((els set).take (k+1)).map fun x=>wl.getD x 0).sum;rw[take_snoc hy,aT,List.sum_append,aN,bJ,List.sum_cons,List.sum_nil,Int.add_zero,aK,hwx];rfl) (Gn rfl (Zg (B:=1) rfl rfl qV aA) qV (aZ (Nat.sub_le _ _) qV))),⟨l1.trans l2,jy qV,qY,by rw[LJ qV tB,hr']⟩⟩
 ·have h0:s=0:=aA;rw[h0,yg]at he;have uA:(els set).length<=k:=by
   apply Nat.le_of_not_lt;intro hh;rw[cV hh]at he;cases he
  exact g6 rfl ⟨l1,by rw[aF uA];rfl⟩
structure Chn (H:PH) (n:Nat) (w wts:Value) (es:List (Nat×Nat)) (wl:List Int):Prop where
 tb:Tb H
 gr:SG H w es
 ok:GV n es
 wt:SI H wts wl
 len:wl.length=n
 wok:Nh wl
theorem Chn.mono {H':PH} (h:Chn H n w wts es wl) (hl:Pl H H'):Chn H' n w wts es wl:=⟨h.tb.mono hl,h.gr.mono hl,h.ok,h.wt.mono hl,h.len,h.wok⟩
theorem Zr (hc:Chn H n w wts es wl) (hs:set<2^n):Ae prog 109 [chv wts lo hi ds n w,uv set] H (.bool (alB es wl lo hi set)):=by
 refine i9 mixed d3S ?_;have qV:=By hc.ok.n64 hs;refine d4 (Vh (u0 hc.wt) (u0 hc.gr) _ _ _ _) ?_;refine Gm (cs:= #[wts,ii lo,ii hi,ii ds,ii n,w]) rfl fun b hb=> ?_;simp only[cA,nA];have l1:=PH.le_put hb (.cells #[wts,ii lo,ii hi,ii ds,ii n,w] 109 (0,0));have b1:=PH.put_self H b (.cells #[wts,ii lo,ii hi,ii ds,ii n,w] 109 (0,0));generalize H.put b (.cells #[wts,ii lo,ii hi,ii ds,ii n,w] 109 (0,0))=H1 at l1 b1;have sL:=hc.mono l1;refine Na (Rm (vs:=[.pointer (some ⟨b,0,none⟩)]) rfl rfl) rfl ?_;simp only[cA,nA];refine y9 (c3o (caps:=[.pointer (some ⟨b,0,none⟩)]) (wl:=wl) sL.tb qV hc.wok (fun x hx=>by rw[hc.len];exact zd hs hx) c3l (fun H' x y hl hx=>b9R (hl _ _ b1) (sL.wt.mono hl) hx)) rfl fun H2 l2=> ?_;simp only[cA,nA];have rY:=sL.mono l2;have b2:=l2 _ _ b1;refine Hf MU ?_;simp only[cA,nA];refine Ux (vs:=[ii n,w]) MW rfl rfl b2 rfl aD rfl ?_;simp only[cA,nA];refine y9 (c3g rY.tb rY.gr hc.ok qV) rfl fun H3 l3=> ?_;simp only[cA,nA];have b3:=l3 _ _ b2;rw[show lw n es set= .tuple #[.bool (cnB es set),ii 0]from if_pos hs];refine i8 (i8 (d9 ?_));refine g7 (b:=cnB es set) rfl (fun h1=> ?_) (fun h1=> ?_)
 ·skip
  refine Hf Zq ?_;simp only[cA,nA];refine Hf e0j ?_;simp only[cA,nA];refine Bn sc_int rfl rfl b3 rfl rfl ?_;simp only[cA,nA];refine d9 (d9 ?_);refine g7 (b:=decide (Sj wl set≥lo)) rfl (fun h2=> ?_) (fun h2=> ?_)
  ·replace h2:=oDt h2;refine Hf Zq ?_;simp only[cA,nA];refine Hf e0k ?_;simp only[cA,nA];refine Bn sc_int rfl rfl b3 rfl rfl ?_;simp only[cA,nA];refine d9 ?_;exact g6 rfl ⟨(l1.trans l2).trans l3,by unfold alB;rw[h1,oDd h2];rfl⟩
  ·replace h2:=oDf h2;exact g6 rfl ⟨(l1.trans l2).trans l3,by unfold alB;rw[h1,decide_eq_false h2];rfl⟩
 ·skip
  exact g6 rfl ⟨(l1.trans l2).trans l3,by unfold alB;rw[h1];rfl⟩
theorem b9S {b:Nat} {T:TypeId} (hc:Chn H n w wts es wl) (hb:H b=some (.cells #[wts,ii lo,ii hi,ii ds,ii n,w] T (0,0))) (hs:set<2^n):Ae prog 108 [uv set,.pointer (some ⟨b,0,none⟩)] H (.bool (!alB es wl lo hi set)):=by
 refine i9 mixed c8V ?_;refine Ux (vs:=[wts,ii lo,ii hi,ii ds,ii n,w]) MY rfl rfl hb rfl aD rfl ?_;simp only[cA,nA];refine y9 (Zr hc hs) rfl fun H1 l1=> ?_;simp only[cA,nA];refine d9 ?_;exact g6 rfl ⟨l1,rfl⟩
theorem zi (hc:Chn H n w wts es wl) (hu:SI H u p):Ae prog 61 [chv wts lo hi ds n w,u] H (.bool (As n es wl lo hi ds p)):=by
 refine i9 mixed d3R ?_;refine d4 (Vh (u0 hc.wt) (u0 hc.gr) _ _ _ _) ?_;refine Gm (cs:= #[wts,ii lo,ii hi,ii ds,ii n,w]) rfl fun b hb=> ?_;have l1:=PH.le_put hb (.cells #[wts,ii lo,ii hi,ii ds,ii n,w] 109 (0,0));have b1:=PH.put_self H b (.cells #[wts,ii lo,ii hi,ii ds,ii n,w] 109 (0,0));generalize H.put b (.cells #[wts,ii lo,ii hi,ii ds,ii n,w] 109 (0,0))=H1 at l1 b1;have sL:=hc.mono l1;refine Hf MU ?_;refine Ux (vs:=[ii n,w]) MW rfl rfl b1 rfl aD rfl ?_;refine Hf Zq ?_;refine Hf MV ?_;refine Bn sc_int rfl rfl b1 rfl rfl ?_;refine y9 (c3h sL.gr hc.ok (hu.mono l1) ds) rfl fun H2 l2=> ?_;refine d9 ?_;refine j8 (p:=(plE n p ds≠0)) (bN _ _) (fun h=> ?_) fun h=> ?_
 ·exact g6 rfl ⟨l1.trans l2,by unfold As;rw[decide_eq_false h];rfl⟩
 ·have h0:plE n p ds=0:=bB h;have vW:=ze h0;have rY:=sL.mono l2;have b2:=l2 _ _ b1;refine Hf Zq ?_;refine Hf MV ?_;refine Bn sc_int rfl rfl b2 rfl rfl ?_;obtain⟨k,rfl⟩:∃k:Nat,ds=(k:Int):=⟨ds.toNat,aA⟩;rw[aV]at vW;refine g9 (MQ (hu.mono (l1.trans l2)) k aA aA vW.2.2.2.1 vW.2.2.2.2) rfl ?_;rintro _ H3 ⟨l3,z,rfl,hz⟩;refine nmI ?_;have zY:=rY.mono l3;have b3:=l3 _ _ b2;refine i8 (i8 ?_);refine Na (Rm (vs:=[.pointer (some ⟨b,0,none⟩)]) rfl rfl) rfl ?_;refine y9 (c3f (caps:=[.pointer (some ⟨b,0,none⟩)]) (q:=fun s=> !alB es wl lo hi s) hz c3m (fun H' s hl vC=>b9S (zY.mono hl) (hl _ _ b3) (by have:=zf vC vW.2.2.2.1.2.2;rw[vW.2.2.1]at this;exact this))) rfl fun H4 l4=> ?_;refine d9 ?_;exact g6 rfl ⟨((l1.trans l2).trans l3).trans l4,by unfold As;rw[oDd h0,aV,Bool.true_and];show Value.bool (!((masks p k).any fun s=> !alB es wl lo hi s))=_;rw[List.all_eq_not_any_not]⟩
theorem zj (hT:Tb H) (hw:SG H w es) (hg:GV n es) (qO:SI H wts wl) (hu:SI H u p):Ae prog 36 [gv n w,bv wts lo hi ds,u] H (.tuple #[.bool (decide (bdE n wl lo hi ds=0)&&As n es wl lo hi ds p),ii (bdE n wl lo hi ds)]):=by
 refine i9 mixed d3V ?_;refine d4 (t8 hw) ?_;refine d4 (Cj (u0 qO) _ _ _) ?_;refine y9 (ly hw hg qO) rfl fun H1 l1=> ?_;refine d9 ?_;refine j8 (p:=(bdE n wl lo hi ds≠0)) (bN _ _) (fun h=> ?_) fun h=> ?_
 ·exact g6 rfl ⟨l1,by rw[decide_eq_false h];rfl⟩
 ·have h0:bdE n wl lo hi ds=0:=bB h;have hb:=Ni h0;refine y9 (zi (lo:=lo) (hi:=hi) (ds:=ds) (p:=p) (u:=u) ⟨hT.mono l1,hw.mono l1,hg,qO.mono l1,hb.1,hb.2.2.2.2.2⟩ (hu.mono l1)) rfl fun H2 l2=> ?_;exact g6 rfl ⟨l1.trans l2,by rw[oDd h0,h0];rfl⟩
end
end Go.Z

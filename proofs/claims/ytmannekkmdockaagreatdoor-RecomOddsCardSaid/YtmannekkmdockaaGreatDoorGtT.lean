/- Trees of functions. -/
import Derived.Test.YtmannekkmdockaaGreatDoorProg
import Derived.Test.YtmannekkmdockaaGreatDoorRxW
namespace Go.Z
open Proofs.Tryz RowKit RX
set_option maxRecDepth 100000
theorem d4e:tree prog [] [] [⟨0,3,[],[]⟩] [] 118=some (.ef false f118 1 0 [(.ki 64),(.ki 64)]
(.pm f118 2 1 [V0]
(.loop [(.ki 0)]
(.ri V2
(.ri V1
(.br (.io .lss V2 V1)
(.pm f118 5 3 [V0,V2]
(.ef false f118 5 4 [V3,V2]
(.next 0 [(.io .add V2 (.ki 1))])))
(.cq 1 V0
(.ret [(.ag V0)])))))))):=aB
theorem d4f:tree prog [] [] [⟨0,1,[],[]⟩] [] 121=some (.loop [V1]
(.pm f121 1 2 [V0,V2]
(.pm f121 1 3 [V3]
(.ri V4
(.ri V2
(.br (.io .neq V4 V2)
(.pm f121 2 2 [V0,V2]
(.pm f121 2 3 [V5]
(.next 0 [V6]))) (.ret [V2]))))))):=aB
theorem d4g:tree prog [] [] [] [⟨1,[0,1,0,4,15,0,32,0,128,511,1023,2047],[0,5,0,5,2,0,5,0,5,2,0,0],[0,0,0,1,0,0,0,0,1,0,0,0],[0,1,2,3,5,6,7,8,4,9,10,11],[]⟩] 120=some (.cq 1 V0
(.cq 2 V1
(.ct 121 [(.cn V0 0),(.cn V1 0)]
(.ct 121 [(.cn V0 0),(.cn V1 1)]
(.pm f120 2 4 [V2,V3]
(.pm f120 2 7 [V2,V3]
(.pm f120 2 8 [(.cn V0 0),V4]
(.ef false f120 2 9 [V6,V5]
(.ri V2
(.ri V3
(.ret [(.io .neq V2 V3)]))))))))))):=aB
theorem d4h:tree prog [] [] [] [] 137=some (.cq 2 V1
(.ru V0
(.rq (.num (.cn V1 0)) (.rq (.nn (.cn V1 0)) (.br (.uo .eql (.uo .and (.uo .shr V0 (.cn V1 0)) (kU 1)) (kU 1)) (.rq (.num (.cn V1 1)) (.rq (.nn (.cn V1 1)) (.ret [(.uo .eql (.uo .and (.uo .shr V0 (.cn V1 1)) (kU 1)) (kU 1))]))) (.ret [kF])))))):=aB
theorem d7I:tree prog [] [] [] [⟨4,[0,1,3,7,15,7,39,127,255],[0,0,0,0,2,0,5,0,0],[0,0,0,0,0,0,0,0,0],[0,1,2,3,5,6,4,7,8],[]⟩] 70=some (.cq 2 V0
(.cf 103 [(.ag V0)]
(.ri V2
(.br (.io .neq V2 (.ki 0)) (.ret [V2])
(.ru V1
(.br (.uo .eql V1 (kU 0)) (.ret [(.ki 2)])
(.ct 117 [V1]
(.ri V3
(.rq (.int .i64 (.cn V0 0)) (.br (.io .gtr V3 (.cn V0 0)) (.ret [(.ki 2)]) (.ret [(.ki 0)]))))))))))):=aB
theorem d4i:tree prog [999999] [] [⟨0,7,[],[]⟩] [⟨9,[0,0,3,7,15,15,47,111,255,511,1023,2047,2047,6143,2047,30719,63487,131071,262143,524287,1048575,2097151,2097151,6291455,2097151,31457279,65011711,134217727,268435455,536870911],[0,0,0,0,0,0,5,1,0,0,0,0,0,5,0,1,1,2,0,0,0,5,0,5,0,1,1,8,0,0],[0,0,0,0,0,0,0,0,0,0,0,0,0,0,0,0,0,0,0,0,0,1,0,0,0,0,0,0,0,0],[0,1,2,3,4,5,6,7,8,9,10,11,12,13,14,15,16,17,18,19,20,21,22,23,24,25,26],[27,28,29]⟩] 83=some (.cq 2 V0
(.cf 70 [(.ag V0),V1]
(.ri V3
(.br (.io .neq V3 (.ki 0)) (.ret [V3])
(.cf 118 []
(.cq 1 V4
(.pm f83 6 1 [V2]
(.loop [(.ki 0),(kI (-1)),(.ki 0)]
(.ri V8
(.ri V5
(.br (.io .lss V8 V5)
(.pm f83 8 0 [V2,V8]
(.pm f83 8 1 [V9]
(.ri V10
(.ri V7
(.br (.io .leq V10 V7) (.ret [(.ki 300)])
(.pm f83 9 7 [(.cn V0 1)]
(.ri V11
(.br (.io .geq V10 V11) (.ret [(.ki 300)])
(.pm f83 9 15 [(.cn V0 1),V10]
(.pm f83 9 16 [V12]
(.ct 137 [V1,V13]
(.rb V14
(.br (.nt V14) (.ret [(.ki 300)])
(.pm f83 9 25 [(.cn V0 1),V10]
(.pm f83 9 26 [V15]
(.cf 120 [(.ag V4),V16]
(.rb V17
(.br (.nt V17) (.ret [(.ki 300)]) (.next 0 [V6,V10,(.io .add V8 (.ki 1))])))))))))))))))))))
(.pm f83 13 1 [V2]
(.cf 138 [V1]
(.ri V10
(.ri V9
(.br (.io .neq V9 (.io .sub V10 (.ki 1))) (.ret [(.ki 300)]) (.ret [(.ki 0)]))))))))))))))))):=aB
@[reducible] def z9_:SV:= .uo .or (.uo .shl (kU 1) V14) (.uo .shl (kU 1) V17)
theorem d4j:tree prog [] [] [⟨0,3,[],[]⟩,⟨0,6,[],[]⟩] [⟨8,[0,1,0,7,15,31,63,0,128,0,896,1920,3968,8064,16383,32767],[0,5,0,1,1,1,0,0,5,0,1,1,1,0,0,0],[0,0,0,0,0,0,0,0,0,0,0,0,0,0,0,0],[0,1,2,3,4,5,6,7,8,9,10,11,12,13,14,15],[]⟩] 189=some (.cq 2 V0
(.rq (.num V3) (.rq (.nn V3) (.loop [(.uo .shl (kU 1) V3),kT]
(.rb V5
(.br V5
(.pm f189 5 1 [V1]
(.loop [V4,kF,(.ki 0)]
(.ri V9
(.ri V6
(.br (.io .lss V9 V6)
(.pm f189 7 0 [V1,V9]
(.pm f189 7 1 [V10]
(.pm f189 8 3 [(.cn V0 1),V11]
(.pm f189 8 4 [V12,(.ki 0)]
(.pm f189 8 5 [V13]
(.rq (.num V14) (.rq (.nn V14)
(.pm f189 8 10 [(.cn V0 1),V11]
(.pm f189 8 11 [V15,(.ki 1)]
(.pm f189 8 12 [V16]
(.rq (.num V17) (.rq (.nn V17)
(.ri V11
(.ri V2
(.br (.io .neq V11 V2)
(.ru V7
(.br (.uo .neq (.uo .and V7 z9_) (kU 0)) (.br (.uo .neq (.uo .and V7 z9_) z9_) (.next 1 [(.uo .or V7 z9_),kT,(.io .add V9 (.ki 1))]) (.next 1 [V7,V8,(.io .add V9 (.ki 1))])) (.next 1 [V7,V8,(.io .add V9 (.ki 1))]))) (.next 1 [V7,V8,(.io .add V9 (.ki 1))])))))))))))))))) (.next 0 [V7,V8])))))) (.ret [V4]))))))):=aB
theorem d4k:tree prog [] [] [] [⟨6,[0,0,0,0,8,31,63],[5,0,0,0,2,2,0],[0,0,0,0,0,0,0],[0,1,2,3,4,5,6],[]⟩] 114=some (.cq 2 V0
(.cf 83 [(.ag V0),V1,V2]
(.ri V4
(.br (.io .neq V4 (.ki 0)) (.ret [(kU 0),(kU 0),V4])
(.cf 188 [V2,V3]
(.rb V5
(.br (.nt V5) (.ret [(kU 0),(kU 0),(.ki 2)])
(.ct 122 [V1]
(.ct 189 [(.ag V0),V2,V3,V6]
(.ru V1
(.ru V7
(.ret [V7,(.uo .andNot V1 V7),(.ki 0)])))))))))))):=aB
theorem d4l:tree prog [2,3] [] [] [] 119=some (.cq 2 V0
(.pub 37 V0
(.cq 1 V1
(.pub 54 V1
(.ef false f119 1 0 [V2,V3]
(.ret [V4])))))):=aB
theorem c9c:tree prog [] [] [⟨0,1,[],[]⟩] [] 190=some (.pm f190 0 0 [V1]
(.pm f190 0 1 [V3]
(.pm f190 0 2 [V4]
(.loop [(.ki 0)]
(.ri V6
(.ri V5
(.br (.io .lss V6 V5)
(.pm f190 2 1 [V4,V6]
(.pm f190 2 2 [V7]
(.cq 2 V8
(.pm f190 3 0 [V2]
(.cf 137 [V9,(.ag V8)]
(.rb V10
(.br V10
(.ef false f190 3 7 [V0,V6,(.ag V8)]
(.rb V11
(.br (.nt V11) (.ret []) (.next 0 [(.io .add V6 (.ki 1))])))) (.next 0 [(.io .add V6 (.ki 1))])))))))) (.ret [])))))))):=aB
theorem d4m:tree prog [] [] [⟨0,3,[],[0,1]⟩,⟨0,8,[],[0,1]⟩,⟨0,12,[],[]⟩] [⟨14,[0,0,3,7,0,31,63,0,0,384,896,0,3968,8064,16383,0,0,0,196608,458752,0,2031616,4128768,8388607,16777215,0,67108863],[0,0,1,1,0,1,1,0,0,1,1,0,1,1,2,5,0,0,1,1,0,1,1,2,2,3,4],[0,0,0,0,0,0,0,0,0,0,0,0,0,0,0,2,0,0,0,0,0,0,0,0,0,0,0],[0,1,2,3,4,5,6,7,8,9,10,11,12,13,15,16,17,18,19,20,21,22,14,23,24,25],[26]⟩,⟨15,[0,0,3,7,0,0,0,96,224,480,480,1023,3071],[0,0,1,1,0,5,5,2,0,0,0,1,8],[0,0,0,0,0,3,1,0,0,0,0,0,0],[0,1,2,3,4,5,6,7,8,9,10,11],[12]⟩] 125=some (.cf 102 [(.ki 1)]
(.cq 2 V1
(.pm f125 2 1 [V0]
(.loop [(.ki 0),(.z 116),V1]
(.ri V3
(.ri V2
(.br (.io .lss V3 V2)
(.pm f125 5 2 [V0,V3]
(.pm f125 5 3 [V6]
(.pm f125 5 5 [V7,V3]
(.pm f125 5 6 [V8]
(.cf 67 [V9]
(.ri V10
(.br (.io .eql V10 (.ki 0))
(.cf 102 [(.ki 0)]
(.cq 2 V11
(.ret [(.ag V11)]))) (.loop [(.io .add V3 (.ki 1)),V4,V5]
(.pm f125 8 2 [V0]
(.ri V11
(.ri V14
(.br (.io .lss V11 V14)
(.pm f125 10 2 [V0,V11]
(.pm f125 10 3 [V15]
(.pm f125 10 5 [V16,V3]
(.pm f125 10 6 [V17]
(.cq 2 V18
(.loop [V3]
(.pm f125 12 2 [V0]
(.ri V19
(.ri V20
(.br (.io .lss V19 V20)
(.pm f125 14 2 [V0,V11]
(.pm f125 14 3 [V21]
(.pm f125 14 5 [V22,V19]
(.pm f125 14 6 [V23]
(.pm f125 14 9 [V0,V3]
(.pm f125 14 10 [V25]
(.pm f125 14 12 [V26,V3]
(.pm f125 14 13 [V27]
(.pm f125 14 18 [V0,V3]
(.pm f125 14 19 [V29]
(.pm f125 14 21 [V30,V19]
(.pm f125 14 22 [V31]
(.ct 136 [V24,V28]
(.ct 136 [(.ag V18),V32]
(.ct 194 [V33,V34]
(.cq 2 V35
(.pm f125 15 2 [V0,V11]
(.pm f125 15 3 [V36]
(.ct 130 [(.ag V35),(.ag V13)]
(.tq 0 V38
(.tq 1 V38
(.pm f125 15 11 [V37,V19]
(.ef false f125 15 12 [V39,(.pj V38 0)]
(.next 2 [(.io .add V19 (.ki 1))])))))))))))))))))))))))) (.next 1 [(.io .add V11 (.ki 1)),V12,V13])))))))))))
(.pm f125 16 2 [V0,V3]
(.pm f125 16 3 [V15]
(.pm f125 16 5 [V16,V3]
(.pm f125 16 6 [V17]
(.cq 2 V18
(.next 0 [(.io .add V3 (.ki 1)),V12,V18])))))))))))))))))) (.ret [(.ag V5)])))))))):=aB
theorem d4n:tree prog [12,16] [] [⟨4,5,[],[3]⟩,⟨0,11,[],[]⟩,⟨0,18,[],[]⟩,⟨4,26,[],[]⟩] [⟨9,[0,0,2,7,15],[5,0,2,2,0],[5,0,0,0,0],[0,1,2,3,4],[]⟩,⟨20,[0,0,0,4,12,31,63],[1,0,1,1,2,1,8],[0,0,0,0,0,0,0],[0,1,2,3,4,5],[6]⟩,⟨26,[0,0,2,7,0,0,32,127,255,511],[5,0,5,2,5,0,5,2,0,0],[5,0,7,0,5,0,7,0,0,0],[0,1,2,4,5,6,3,7,8,9],[]⟩] 71=some (.cq 2 V0
(.cq 1 V2
(.cq 1 V3
(.cf 118 []
(.cq 1 V4
(.cf 119 [(.ag V0),V1]
(.rf V5 2 [(.z 116)]
(.cq 2 V7
(.pm f71 5 2 [(.cn V2 0),V6]
(.rb V9
(.br V9
(.cf 120 [(.ag V4),(.ag V7)]
(.rb V10
(.br (.nt V10)
(.cf 102 [(.ki 0)]
(.cq 2 V11
(.next 1 [V11]))) (.next 0 [V8])))) (.next 0 [V8])))))
(.ef false f71 7 0 []
(.pub 140 (.z 140)
(.ef false f71 7 2 [V8,V7]
(.ef false f71 8 2 [(.cn V4 0)]
(.cq 1 V10
(.ct 122 [V1]
(.ef true f71 9 3 [(.cn V10 0),V11]
(.loop [(.ki 0)]
(.ri V13
(.br (.io .lss V13 (.ki 64))
(.ru V1
(.rq (.num V13) (.rq (.nn V13) (.br (.uo .eql (.uo .and (.uo .shr V1 V13) (kU 1)) (kU 1))
(.ef false f71 13 8 [(.cn V10 0),V13]
(.ri V14
(.br (.io .eql V14 V13)
(.ri V12
(.br (.io .neq V13 V12)
(.pm f71 14 0 [V8]
(.pm f71 14 2 [V8]
(.pm f71 14 3 [V16]
(.ef false f71 14 4 [V15,V13,V17]
(.next 0 [(.io .add V13 (.ki 1))]))))) (.next 0 [(.io .add V13 (.ki 1))]))) (.next 0 [(.io .add V13 (.ki 1))])))) (.next 0 [(.io .add V13 (.ki 1))])))))
(.pm f71 16 0 [V8]
(.pm f71 16 1 [V14]
(.ef false f71 16 2 [V15,V15]
(.pub 201 (.z 201)
(.ef false f71 16 4 [V17,V16]
(.pm f71 17 0 [V17]
(.pm f71 17 1 [V19]
(.loop [(.ki 0)]
(.ri V21
(.ri V20
(.br (.io .lss V21 V20)
(.pm f71 20 0 [V17]
(.pm f71 20 2 [V8]
(.pm f71 20 3 [V23]
(.ef true f71 20 4 [V24,V24]
(.pm f71 20 5 [V22,V21]
(.ef false f71 20 6 [V26,V25]
(.next 1 [(.io .add V21 (.ki 1))])))))))
(.ef false f71 22 0 [V8,V17]
(.cq 1 V22
(.cf 119 [(.ag V0),V1]
(.rf V23 2 []
(.cq 2 V25
(.ef true f71 26 3 [(.cn V10 0),(.cn V25 0)]
(.ef true f71 26 7 [(.cn V10 0),(.cn V25 1)]
(.pm f71 27 2 [(.cn V3 0),V24]
(.rb V28
(.br V28
(.next 2 [])
(.ri V26
(.ri V27
(.br (.io .eql V26 V27) (.next 2 [])
(.ef false f71 28 3 [(.cn V22 0),V26,V26,(.ki 1)]
(.ef false f71 29 3 [(.cn V22 0),V27,V27,(.ki 1)]
(.ef false f71 30 3 [(.cn V22 0),V26,V27,(kI (-1))]
(.ef false f71 31 3 [(.cn V22 0),V27,V26,(kI (-1))]
(.next 2 []))))))))))))))
(.pm f71 32 0 [V17]
(.cf 125 [V24]
(.cq 2 V25
(.ret [(.ag V25)])))) (.dead 818)))))))))))))))))))))))))) (.ret [(.ag V6)])))))))):=aB
theorem c9d:tree prog [] [] [] [⟨3,[0,0,3,7,0,0,0,96,224,0,992,2016,0,4096,16352,32767,65535],[1,0,1,1,0,1,0,1,1,0,1,1,0,2,2,1,8],[0,0,0,0,0,0,0,0,0,0,0,0,0,0,0,0,0],[0,1,2,3,4,5,6,7,8,9,10,11,12,13,14,15],[16]⟩] 123=some (.pm f123 0 0 [V3]
(.pm f123 0 2 [V5,V0]
(.tq 0 V6
(.tq 1 V6
(.pm f123 1 0 [V3]
(.pm f123 1 2 [V7,V1]
(.tq 0 V8
(.tq 1 V8
(.rb (.pj V6 1) (.br (.pj V6 1)
(.rb (.pj V8 1) (.br (.pj V8 1)
(.pm f123 3 0 [V4]
(.pm f123 3 2 [V9,(.pj V6 0)]
(.pm f123 3 3 [V10]
(.pm f123 3 5 [V4]
(.pm f123 3 7 [V12,(.pj V6 0)]
(.pm f123 3 8 [V13]
(.pm f123 3 10 [V14,(.pj V8 0)]
(.pm f123 3 11 [V15]
(.ct 102 [V2]
(.ct 124 [V16,V17]
(.pm f123 3 15 [V11,(.pj V8 0)]
(.ef false f123 3 16 [V19,V18]
(.ret []))))))))))))) (.ret []))) (.ret []))))))))))):=aB
theorem d4o:tree prog [] [] [] [] 27=some (.cq 2 V0
(.cf 70 [(.ag V0),V1]
(.ri V2
(.br (.io .neq V2 (.ki 0)) (.ret [(.z 56),V2])
(.cf 71 [(.ag V0),V1,(.k (.map none)),(.k (.map none))]
(.cf 72 [V3]
(.tq 0 V4
(.tq 1 V4
(.cq 8 (.pj V4 0) (.ret [(.ag (.pj V4 0)),(.pj V4 1)])))))))))):=aB
end Go.Z

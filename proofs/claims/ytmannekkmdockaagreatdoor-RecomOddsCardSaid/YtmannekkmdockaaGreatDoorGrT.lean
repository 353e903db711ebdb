/- Chapter 32: walks at random. -/
import Derived.Test.YtmannekkmdockaaGreatDoorGyB
namespace Go.RX
open RowKit
theorem SO.tr {α:Type} {e:TypeId} {sz:Nat} {ce:α->List Value} {v:Value} {l:List α} {H0 H H0' H2:PH} (h:SO H0 H e sz ce v l) (h2:∀g ob,H0 g=none->H g=some ob->H0' g=none/\H2 g=some ob):SO H0' H2 e sz ce v l:=by
 obtain⟨qD,hv⟩:=h;refine⟨qD,hv.imp id ?_⟩;rintro⟨g,cap,cur,h3,rZ,hg,h4⟩;obtain⟨h5,h6⟩:=h2 g _ rZ hg;exact⟨g,cap,cur,h3,h5,h6,h4⟩
section
variable {P:Program} {o:Oper}
theorem NK {fn:Fn} {t:Nat} {v:Value} (ho:o.op= .makeFunc fn #[.tmp t] #[]):Run P o [v] (.func fn #[v] #[]):=fun w=>by
 have qK:o.op.operands.toList=[.tmp t]:=by rw[ho];rfl
 unfold Stp;rw[qK];simp only[execOp,ho,Sem.run_bind,Instr.makeFunc,Sem.run_pure,Result.andThen_ok];exact⟨by simp[g8,On],Ext.refl _⟩
variable {G:Value->PH->Prop} {nx:List (List Value->PH->Prop)} {ρ:List Value} {H:PH} {t:Tree} {id i b q:Nat} {x y:Operand} {T T':TypeId} {cs:Array Value} {args:List SV} {pf:Bool}
end
end Go.RX
namespace Go.Z
open Proofs.Tryz RowKit RX GS
theorem Vk (H:PH) (b:Nat):Pl (j9 H b) H:=fun k o hk=>by
 unfold j9 at hk;by_cases e:k=b
 ·rw[if_pos e]at hk;cases hk
 ·rw[if_neg e]at hk;exact hk
set_option maxRecDepth 100000
theorem c3v:tree prog [] [] [⟨0,4,[],[]⟩] [⟨6,[0,1,0,7,15,31,0,64,0,448,960,1984,63,8191],[0,5,0,1,1,1,0,5,0,1,1,1,0,0],[0,0,0,0,0,0,0,0,0,0,0,0,0,0],[0,1,2,3,4,5,6,7,8,9,10,11,12,13],[]⟩] 10=some (.cq 2 V0
(.rq (.int .i64 (.cn V0 0)) (.br (.io .lss (.cn V0 0) (.ki 1)) (.ret [(.ki 180)]) (.br (.io .gtr (.cn V0 0) (.ki 64)) (.ret [(.ki 180)])
(.pm f10 1 11 [(.cn V0 1)]
(.ri V1
(.br (.io .gtr V1 (.ki 200)) (.ret [(.ki 180)]) (.loop [(.ki 0),(.ki 0)]
(.pm f10 4 3 [(.cn V0 1)]
(.ri V3
(.ri V4
(.br (.io .lss V3 V4)
(.pm f10 6 3 [(.cn V0 1),V3]
(.pm f10 6 4 [V5,(.ki 0)]
(.pm f10 6 5 [V6]
(.pm f10 6 9 [(.cn V0 1),V3]
(.pm f10 6 10 [V8,(.ki 1)]
(.pm f10 6 11 [V9]
(.ri V7
(.br (.io .lss V7 (.ki 0)) (.ret [(.ki 180)])
(.ri V10
(.br (.io .geq V7 V10) (.ret [(.ki 180)]) (.br (.io .geq V10 (.cn V0 0)) (.ret [(.ki 180)]) (.br (.io .gtr V3 (.ki 0))
(.pm f10 9 7 [(.cn V0 1),(.io .sub V3 (.ki 1))]
(.pm f10 9 8 [V11,(.ki 0)]
(.pm f10 9 9 [V12]
(.ri V13
(.br (.io .gtr V13 V7) (.ret [(.ki 180)])
(.pm f10 9 17 [(.cn V0 1),(.io .sub V3 (.ki 1))]
(.pm f10 9 18 [V14,(.ki 0)]
(.pm f10 9 19 [V15]
(.ri V16
(.br (.io .eql V16 V7)
(.pm f10 9 27 [(.cn V0 1),(.io .sub V3 (.ki 1))]
(.pm f10 9 28 [V17,(.ki 1)]
(.pm f10 9 29 [V18]
(.ri V19
(.br (.io .geq V19 V10) (.ret [(.ki 180)]) (.next 0 [V2,(.io .add V3 (.ki 1))])))))) (.next 0 [V2,(.io .add V3 (.ki 1))]))))))))))) (.next 0 [V2,(.io .add V3 (.ki 1))]))))))))))))) (.ret [(.ki 0)]))))))))))))):=aB
theorem c3w:tree prog [] [] [] [] 139=some (.ri V1
(.ru V0
(.rq (.nn (.cv .u64 V1)) (.ret [(.uo .eql (.uo .and (.uo .shr V0 (.cv .u64 V1)) (kU 1)) (kU 1))])))):=aB
theorem c3x:tree prog [] [] [] [] 40=some (.ri V0
(.rq (.nn (.cv .u64 V0)) (.ret [(.uo .shl (kU 1) (.cv .u64 V0))]))):=aB
theorem c3y:tree prog [] [] [⟨0,3,[],[]⟩] [] 141=some (.loop [(.ki 0),(.ki 0)]
(.ri V2
(.br (.io .lss V2 (.ki 64))
(.cf 139 [V0,V2]
(.rb V3
(.br V3
(.ri V1
(.next 0 [(.io .add V1 (.ki 1)),(.io .add V2 (.ki 1))])) (.next 0 [V1,(.io .add V2 (.ki 1))])))) (.ret [V1])))):=aB
theorem c3z:tree prog [] [] [] [] 267=some (.cq 2 V0
(.cf 10 [(.ag V0)]
(.ri V2
(.br (.io .neq V2 (.ki 0)) (.ret [V2]) (.rq (.int .i64 (.cn V0 0)) (.br (.io .lss (.cn V0 0) (.ki 64))
(.ru V1
(.rq (.nn (.cv .u64 (.cn V0 0))) (.br (.uo .neq (.uo .shr V1 (.cv .u64 (.cn V0 0))) (kU 0)) (.ret [(.ki 2)]) (.ret [(.ki 0)])))) (.ret [(.ki 0)]))))))):=aB
theorem c3A:tree prog [] [] [⟨0,3,[],[]⟩,⟨0,5,[],[]⟩] [⟨7,[0,1,0,7,15,31,0,64,0,448,960,1984,63,8191],[0,5,0,1,1,1,0,5,0,1,1,1,0,0],[0,0,0,0,0,0,0,0,0,0,0,0,0,0],[0,1,2,3,4,5,6,7,8,9,10,11,12,13],[]⟩] 140=some (.cq 2 V0
(.cf 40 [V2]
(.pm f140 2 2 [(.cn V0 1)]
(.loop [V4,(.ki 0)]
(.ri V7
(.ri V5
(.br (.io .lss V7 V5) (.loop [V6,(.ki 0)]
(.pm f140 5 3 [(.cn V0 1)]
(.ri V9
(.ri V10
(.br (.io .lss V9 V10)
(.pm f140 7 3 [(.cn V0 1),V9]
(.pm f140 7 4 [V11,(.ki 0)]
(.pm f140 7 5 [V12]
(.pm f140 7 9 [(.cn V0 1),V9]
(.pm f140 7 10 [V14,(.ki 1)]
(.pm f140 7 11 [V15]
(.ri V3
(.br (.io .neq V9 V3)
(.cf 139 [V1,V13]
(.rb V17
(.br V17
(.cf 139 [V1,V16]
(.rb V18
(.br V18
(.cf 139 [V8,V13]
(.rb V19
(.br V19
(.cf 40 [V13]
(.ru V8
(.ru V20
(.cf 40 [V16]
(.ru V21
(.next 1 [(.uo .or (.uo .or V8 V20) V21),(.io .add V9 (.ki 1))]))))))
(.cf 139 [V8,V16]
(.rb V20
(.br V20
(.cf 40 [V13]
(.ru V8
(.ru V21
(.cf 40 [V16]
(.ru V22
(.next 1 [(.uo .or (.uo .or V8 V21) V22),(.io .add V9 (.ki 1))])))))) (.next 1 [V8,(.io .add V9 (.ki 1))]))))))) (.next 1 [V8,(.io .add V9 (.ki 1))])))) (.next 1 [V8,(.io .add V9 (.ki 1))])))) (.next 1 [V8,(.io .add V9 (.ki 1))]))))))))) (.next 0 [V8,(.io .add V7 (.ki 1))])))))) (.ret [V6])))))))):=aB
theorem c3B:tree prog [] [] [⟨0,4,[],[]⟩] [] 85=some (.cq 2 V0
(.loop [(.k (.slice none 0 0)),(kU 0),(.ki 0)]
(.ri V4
(.rq (.int .i64 (.cn V0 0)) (.br (.io .lss V4 (.cn V0 0))
(.cf 139 [V1,V4]
(.rb V5
(.br V5
(.cf 139 [V3,V4]
(.rb V6
(.br (.nt V6)
(.cf 140 [(.ag V0),V1,V4,(kI (-1))]
(.ef false f85 8 2 [V7]
(.ef false f85 8 3 [V2,V8]
(.ru V3
(.ru V7
(.next 0 [V9,(.uo .or V3 V7),(.io .add V4 (.ki 1))])))))) (.next 0 [V2,V3,(.io .add V4 (.ki 1))])))) (.next 0 [V2,V3,(.io .add V4 (.ki 1))])))) (.ret [V2])))))):=aB
theorem c3C:tree prog [] [] [] [] 41=some (.cq 2 V0
(.cf 85 [(.ag V0),V1]
(.pm f41 1 3 [V2]
(.ri V3
(.ret [(.io .eql V3 (.ki 1))]))))):=aB
@[reducible] def z6_:SV:= .io .add (.ki 1) (.cv .i64 (.op2 .rem .u8 (.cn V0 0) (kB 4)))
@[reducible] def z7_:SV:= .io .rem (.cv .i64 V17) (.cn V8 0)
@[reducible] def z8_:SV:= .io .rem (.cv .i64 V20) (.cn V8 0)
theorem c3D:tree prog [] [] [⟨3,10,[9],[]⟩,⟨2,58,[6,9],[]⟩,⟨3,12,[72],[]⟩,⟨2,72,[9],[]⟩,⟨3,16,[83],[]⟩,⟨3,19,[9],[]⟩,⟨0,5,[],[0,1,2]⟩,⟨0,8,[],[2]⟩,⟨0,16,[],[]⟩] [⟨1,[0,1,3,7,15,0,32,96,224,480,31,2047],[0,5,0,0,0,0,5,0,0,0,0,0],[0,0,0,0,0,0,0,0,0,0,0,0],[0,1,2,3,4,5,6,7,8,9,10,11],[]⟩,⟨18,[0,1,0,7,15,31,63,0,128,511,0,1024,0,7168,15360,31744,64512,0,131072,523264,1023,2097151],[0,5,0,1,1,1,0,0,5,0,0,5,0,1,1,1,0,0,5,0,0,0],[0,0,0,0,0,0,0,0,2,0,0,0,0,0,0,0,0,0,2,0,0,0],[0,1,2,3,4,5,6,7,8,9,10,11,12,13,14,15,16,17,18,19,20,21],[]⟩] 39=some (.cq 4 V0
(.rq (.int .u8 (.cn V0 0)) (.rq (.int .u8 (.cn V0 1)) (.loop [(.ki 0),(.ki 0),V0,(.z 37),(.cat (.io .mul z6_ (.io .add (.ki 1) (.cv .i64 (.op2 .rem .u8 (.cn V0 1) (kB 3))))) 1 (.z 35))]
(.ri V2
(.rq (.int .i64 (.cn V5 0)) (.br (.io .lss V2 (.cn V5 0)) (.loop [V1,(.io .add V2 (.ki 1)),V5]
(.ri V7
(.rq (.int .i64 (.cn V8 0)) (.br (.io .lss V7 (.cn V8 0)) (.join 1
(.br (.io .eql V7 (.io .add V2 z6_)) (.next 2 [kT]) (.br (.io .eql V7 (.io .add V2 (.ki 1))) (.rq (.nz z6_) (.next 2 [(.io .neq (.io .rem V7 z6_) (.ki 0))])) (.next 2 [kF]))) (.join 2
(.rb V9
(.br V9
(.join 1
(.ri V6
(.br (.io .eql (.io .rem V6 (.ki 2)) (.ki 1)) (.rq (.int .u16 (.cn V3 2)) (.rq (.nn (.cv .u64 (.io .rem (.io .quo V6 (.ki 2)) (.ki 16)))) (.next 3 [(.op2 .eql .u16 (.op2 .and .u16 (.op2 .shr .u16 (.cn V3 2) (.cv .u64 (.io .rem (.io .quo V6 (.ki 2)) (.ki 16)))) (.k (.int .u16 (1)))) (.k (.int .u16 (1))))]))) (.next 3 [kF]))) (.join 1
(.rb V10
(.br V10
(.next 3 [kF]) (.next 3 [V9])))
(.ri V6
(.next 2 [(.io .add V6 (.ki 1)),V11])))) (.next 2 [V6,V9]))) (.loop [V11,(.ki 0)]
(.join 1
(.pm f39 16 3 [(.cn V3 3)]
(.ri V13
(.ri V14
(.br (.io .lss V13 V14) (.next 3 [(.io .lss V13 (.ki 3))]) (.next 3 [kF])))))
(.rb V14
(.br V14
(.pm f39 18 3 [(.cn V3 3),V13]
(.pm f39 18 4 [V15,(.ki 0)]
(.pm f39 18 5 [V16]
(.rq (.int .u8 V17) (.rq (.nz (.cn V8 0))
(.pm f39 18 13 [(.cn V3 3),V13]
(.pm f39 18 14 [V18,(.ki 1)]
(.pm f39 18 15 [V19]
(.rq (.int .u8 V20) (.join 1
(.rb V12
(.br V12
(.next 3 [kT]) (.br (.io .eql z7_ V2) (.br (.io .eql z8_ V7) (.next 3 [kT]) (.br (.io .eql z7_ V7) (.next 3 [(.io .eql z8_ V2)]) (.next 3 [kF]))) (.br (.io .eql z7_ V7) (.next 3 [(.io .eql z8_ V2)]) (.next 3 [kF])))))
(.ri V13
(.next 2 [V21,(.io .add V13 (.ki 1))]))))))))))))
(.rb V12
(.br V12
(.cq 1 V2
(.cq 1 V7
(.ef false f39 21 5 [(.pn (.pn (.z 99) 0 1 V2) 1 1 V7)]
(.ef false f39 21 6 [(.cn V8 1),V15]
(.cq 1 V16
(.next 1 [V10,(.io .add V7 (.ki 1)),(.cat (.sn V8 0 1) 1 V16)])))))) (.next 1 [V10,(.io .add V7 (.ki 1)),V8]))))))))) (.next 0 [V6,(.io .add V2 (.ki 1)),V3,V4,V8]))))) (.ret [(.ag V5)])))))))):=aB
theorem c3E:tree prog [] [] [⟨0,2,[],[]⟩] [] 96=some (.loop [kF,(.ki 0)]
(.pm f96 2 2 [V0]
(.ri V3
(.ri V4
(.br (.io .lss V3 V4)
(.pm f96 4 2 [V0,V3]
(.pm f96 4 3 [V5]
(.ri V6
(.br (.io .lss V6 (.ki 0)) (.ret [kF])
(.pm f96 4 8 [V0,V3]
(.pm f96 4 9 [V7]
(.ri V8
(.ri V1
(.br (.io .geq V8 V1) (.ret [kF]) (.next 0 [V2,(.io .add V3 (.ki 1))]))))))))))
(.pm f96 6 1 [V0]
(.ri V5
(.br (.io .geq V5 (.ki 1))
(.pm f96 6 5 [V0]
(.ri V6
(.ret [(.io .leq V6 (.ki 64))]))) (.ret [kF]))))))))):=aB
theorem c3F:tree prog [] [] [⟨0,2,[],[]⟩] [] 209=some (.loop [kF,(.ki 0)]
(.ri V3
(.ri V1
(.br (.io .lss V3 V1)
(.cf 161 [V0,V3]
(.ru V4
(.br (.uo .eql V4 (kU 0)) (.ret [kF]) (.next 0 [V2,(.io .add V3 (.ki 1))])))) (.ret [kT]))))):=aB
theorem c3G:tree prog [] [] [⟨0,3,[],[]⟩] [] 161=some (.loop [(kU 0),(.ki 0)]
(.pm f161 3 2 [V0]
(.ri V3
(.ri V4
(.br (.io .lss V3 V4)
(.pm f161 5 2 [V0,V3]
(.pm f161 5 3 [V5]
(.ri V6
(.ri V1
(.br (.io .eql V6 V1) (.rq (.num V3) (.rq (.nn V3)
(.ru V2
(.next 0 [(.uo .or V2 (.uo .shl (kU 1) V3)),(.io .add V3 (.ki 1))])))) (.next 0 [V2,(.io .add V3 (.ki 1))])))))) (.ret [V2])))))):=aB
theorem c3H:tree prog [] [] [] [] 159=some (.cq 2 V0
(.cf 10 [(.ag V0)]
(.ri V3
(.br (.io .neq V3 (.ki 0)) (.ret [V3])
(.ri V2
(.br (.io .lss V2 (.ki 1)) (.ret [(.ki 2)]) (.br (.io .gtr V2 (.ki 8)) (.ret [(.ki 2)])
(.pm f159 6 1 [V1]
(.ri V4
(.rq (.int .i64 (.cn V0 0)) (.br (.io .neq V4 (.cn V0 0)) (.ret [(.ki 210)])
(.cf 96 [V1,V2]
(.rb V5
(.br (.nt V5) (.ret [(.ki 210)])
(.cf 209 [V1,V2]
(.rb V6
(.br (.nt V6) (.ret [(.ki 210)]) (.ret [(.ki 0)])))))))))))))))))):=aB
theorem c3I:tree prog [] [] [⟨0,7,[],[]⟩] [] 54=some (.cf 96 [V0,(.ki 8)]
(.rb V1
(.br (.nt V1) (.ret [(.k (.slice none 0 0)),(.ki 210)])
(.ef false f54 3 0 [(kI (-1)),(kI (-1)),(kI (-1)),(kI (-1)),(kI (-1)),(kI (-1)),(kI (-1)),(kI (-1))]
(.loop [(.ki 0),(.k (.slice none 0 0)),(.ki 0)]
(.pm f54 7 2 [V0]
(.ri V5
(.ri V6
(.br (.io .lss V5 V6)
(.pm f54 9 3 [V0,V5]
(.pm f54 9 4 [V7]
(.pm f54 9 5 [V2,V8]
(.pm f54 9 6 [V9]
(.ri V10
(.br (.io .lss V10 (.ki 0))
(.pm f54 10 3 [V0,V5]
(.pm f54 10 4 [V11]
(.pm f54 10 6 [V2,V12]
(.ef false f54 10 7 [V13,V3]
(.ri V3
(.pm f54 12 4 [V0,V5]
(.pm f54 12 5 [V15]
(.pm f54 12 6 [V2,V16]
(.pm f54 12 7 [V17]
(.ef false f54 12 8 [V18]
(.ef false f54 12 9 [V4,V19]
(.next 0 [(.io .add V3 (.ki 1)),V20,(.io .add V5 (.ki 1))]))))))))))))
(.pm f54 12 4 [V0,V5]
(.pm f54 12 5 [V11]
(.pm f54 12 6 [V2,V12]
(.pm f54 12 7 [V13]
(.ef false f54 12 8 [V14]
(.ef false f54 12 9 [V4,V15]
(.next 0 [V3,V16,(.io .add V5 (.ki 1))]))))))))))))) (.ret [V4,(.ki 0)])))))))))):=aB
theorem c3J:tree prog [] [] [⟨0,4,[],[]⟩] [⟨6,[0,0,3,7,0,0,48,112,255],[0,0,1,1,0,0,1,1,0],[0,0,0,0,0,0,0,0,0],[0,1,2,3,4,5,6,7,8],[]⟩] 57=some (.pm f57 1 1 [V0]
(.pm f57 1 3 [V1]
(.ri V2
(.ri V3
(.br (.io .neq V2 V3) (.ret [kF]) (.loop [kF,(.ki 0)]
(.pm f57 4 2 [V0]
(.ri V5
(.ri V6
(.br (.io .lss V5 V6)
(.pm f57 6 2 [V0,V5]
(.pm f57 6 3 [V7]
(.pm f57 6 6 [V1,V5]
(.pm f57 6 7 [V9]
(.ri V8
(.ri V10
(.br (.io .neq V8 V10) (.ret [kF]) (.next 0 [V4,(.io .add V5 (.ki 1))])))))))) (.ret [kT]))))))))))):=aB
theorem c3K:tree prog [] [] [] [] 245=some (.cq 2 V0
(.cf 10 [(.ag V0)]
(.ri V2
(.br (.io .neq V2 (.ki 0)) (.ret [V2])
(.ru V1
(.br (.uo .eql V1 (kU 0)) (.ret [(.ki 2)])
(.cf 267 [(.ag V0),V1]
(.ret [V3])))))))):=aB
theorem c3L:tree prog [] [] [] [] 142=some (.cq 2 V0
(.ri V2
(.br (.io .geq V2 (.ki 0))
(.pm f142 1 6 [(.cn V0 1)]
(.ri V3
(.br (.io .lss V2 V3)
(.pm f142 1 14 [(.cn V0 1),V2]
(.pm f142 1 15 [V4,(.ki 0)]
(.pm f142 1 16 [V5]
(.cf 139 [V1,V6]
(.rb V7
(.br V7
(.pm f142 1 24 [(.cn V0 1),V2]
(.pm f142 1 25 [V8,(.ki 1)]
(.pm f142 1 26 [V9]
(.cf 139 [V1,V10]
(.ret [V11]))))) (.ret [kF]))))))) (.ret [kF])))) (.ret [kF])))):=aB
theorem c3M:tree prog [] [] [⟨0,3,[],[]⟩,⟨0,6,[],[]⟩] [⟨8,[0,1,0,0,12,28,63,127,255,0,512,0,0,6144,14336,32256,65024,130560,511,524287],[0,5,0,0,1,1,1,1,1,0,5,0,0,1,1,1,1,1,0,0],[0,0,0,0,0,0,0,0,0,0,0,0,0,0,0,0,0,0,0,0],[0,1,2,3,4,5,6,7,8,9,10,11,12,13,14,15,16,17,18,19],[]⟩] 143=some (.cq 2 V0
(.cf 40 [V2]
(.loop [V3,(.ki 0)]
(.ri V5
(.br (.io .lss V5 (.ki 64)) (.loop [V4,(.ki 0)]
(.pm f143 6 2 [V1]
(.ri V7
(.ri V8
(.br (.io .lss V7 V8)
(.pm f143 8 4 [V1,V7]
(.pm f143 8 5 [V9]
(.pm f143 8 6 [(.cn V0 1),V10]
(.pm f143 8 7 [V11,(.ki 0)]
(.pm f143 8 8 [V12]
(.pm f143 8 13 [V1,V7]
(.pm f143 8 14 [V14]
(.pm f143 8 15 [(.cn V0 1),V15]
(.pm f143 8 16 [V16,(.ki 1)]
(.pm f143 8 17 [V17]
(.cf 139 [V6,V13]
(.rb V19
(.br V19
(.cf 40 [V13]
(.ru V6
(.ru V20
(.cf 40 [V18]
(.ru V21
(.next 1 [(.uo .or (.uo .or V6 V20) V21),(.io .add V7 (.ki 1))]))))))
(.cf 139 [V6,V18]
(.rb V20
(.br V20
(.cf 40 [V13]
(.ru V6
(.ru V21
(.cf 40 [V18]
(.ru V22
(.next 1 [(.uo .or (.uo .or V6 V21) V22),(.io .add V7 (.ki 1))])))))) (.next 1 [V6,(.io .add V7 (.ki 1))]))))))))))))))))) (.next 0 [V6,(.io .add V5 (.ki 1))])))))) (.ret [V4])))))):=aB
theorem c3N:tree prog [] [] [⟨0,2,[],[]⟩] [] 218=some (.loop [(.ki 0)]
(.cf 139 [V0,V1]
(.rb V2
(.br (.nt V2)
(.ri V1
(.next 0 [(.io .add V1 (.ki 1))])) (.ret [V1]))))):=aB
theorem c3O:tree prog [] [] [⟨0,2,[],[]⟩] [⟨4,[0,0,0,0,12,28,63,127,255,511,1023,2047,4095,4095,16383,32767,4095,4095,135167,462847,987135,2097151,4194303,8388607],[5,0,0,0,1,1,2,0,0,0,0,0,0,0,1,1,0,0,0,1,1,0,0,0],[0,0,0,0,0,0,0,0,0,0,0,0,0,0,0,0,0,0,0,0,0,0,0,0],[0,1,2,3,4,5,6,7,8,9,10,11,12,13,14,15,16,17,18,19,20,21,22,23],[]⟩,⟨6,[0,1,0,4,12,31,63,127,127,127,639,2047,127,8191,16383,32767],[0,1,0,2,0,0,0,5,0,0,2,2,0,0,0,0],[0,0,0,0,0,0,0,0,0,0,0,0,0,0,0,0],[0,1,2,3,4,5,6,7,8,9,12,10,11,13,14,15],[]⟩] 246=some (.cq 2 V0
(.loop [kF,(.ki 0)]
(.pm f246 2 2 [V2]
(.ri V4
(.ri V5
(.br (.io .lss V4 V5)
(.pm f246 4 4 [V2,V4]
(.pm f246 4 5 [V6]
(.ct 142 [(.ag V0),V1,V7]
(.rb V8
(.br (.nt V8) (.ret [kF]) (.br (.io .gtr V4 (.ki 0))
(.pm f246 4 14 [V2,V4]
(.pm f246 4 15 [V9]
(.pm f246 4 19 [V2,(.io .sub V4 (.ki 1))]
(.pm f246 4 20 [V11]
(.ri V10
(.ri V12
(.br (.io .leq V10 V12) (.ret [kF]) (.next 0 [V3,(.io .add V4 (.ki 1))])))))))) (.next 0 [V3,(.io .add V4 (.ki 1))])))))))
(.pm f246 6 1 [V2]
(.ct 141 [V1]
(.ri V7
(.ri V6
(.br (.io .eql V6 (.io .sub V7 (.ki 1)))
(.ct 218 [V1]
(.ct 143 [(.ag V0),V2,V8]
(.ru V9
(.ru V1
(.ret [(.uo .eql V9 V1)]))))) (.ret [kF])))))))))))):=aB
theorem c3P:tree prog [] [] [] [] 216=some (.cq 2 V0
(.cf 245 [(.ag V0),V1]
(.ri V3
(.br (.io .neq V3 (.ki 0)) (.ret [V3])
(.cf 246 [(.ag V0),V1,V2]
(.rb V4
(.br (.nt V4) (.ret [(.ki 300)]) (.ret [(.ki 0)])))))))):=aB
theorem c3Q:tree prog [64,68,999998] [] [⟨0,8,[],[]⟩] [⟨10,[0,0,0,7,15,31,63,63,63,319,63,1855,3903,7999,16383,63,32831,63,229439,491583,1015871,2097151,4194303],[5,0,0,2,0,0,5,0,0,5,0,1,1,1,2,0,5,0,1,1,1,8,0],[0,0,0,0,0,0,0,0,0,0,0,0,0,0,0,0,0,0,0,0,0,0,0],[0,1,2,3,4,5,6,7,8,9,10,11,12,13,15,16,17,18,19,20,14],[21,22]⟩,⟨11,[0,0,0,0,0,24,0,64,248,510,1023,2047],[0,5,0,3,0,2,0,3,8,8,8,0],[0,0,0,0,0,0,0,0,0,0,0,0],[0,1,2,4,6,3,5,7],[8,9,10,11]⟩] 86=some (.cq 2 V0
(.pm f86 1 1 [V2]
(.cf 141 [V1]
(.ri V4
(.ri V3
(.br (.io .eql V3 (.io .sub V4 (.ki 1)))
(.ef false f86 2 0 []
(.ef false f86 2 2 [V5,V2]
(.ef false f86 2 3 [V6]
(.ret [V7]))))
(.pm f86 4 1 [V2]
(.ri V5
(.br (.io .gtr V5 (.ki 0))
(.pm f86 5 2 [V2]
(.ri V6
(.pm f86 5 4 [V2,(.io .sub V6 (.ki 1))]
(.pm f86 5 5 [V7]
(.ri V8
(.loop [(.k (.slice none 0 0)),(.io .add V8 (.ki 1))]
(.pm f86 8 3 [(.cn V0 1)]
(.ri V10
(.ri V11
(.br (.io .lss V10 V11)
(.ct 142 [(.ag V0),V1,V10]
(.rb V12
(.br (.nt V12) (.next 0 [V9,(.io .add V10 (.ki 1))])
(.pm f86 10 11 [(.cn V0 1),V10]
(.pm f86 10 12 [V13,(.ki 0)]
(.pm f86 10 13 [V14]
(.pm f86 10 18 [(.cn V0 1),V10]
(.pm f86 10 19 [V16,(.ki 1)]
(.pm f86 10 20 [V17]
(.ct 143 [(.ag V0),V2,V15]
(.cf 139 [V19,V18]
(.rb V20
(.br V20
(.next 0 [V9,(.io .add V10 (.ki 1))])
(.mq f86 11 3 []
(.ef true f86 11 5 [V21,V2]
(.mq f86 11 7 [V10]
(.ef false f86 11 8 [V22,V23]
(.cf 86 [(.ag V0),V1,V24]
(.ef false f86 11 10 [V9,V25]
(.next 0 [V26,(.io .add V10 (.ki 1))])))))))))))))))))))) (.ret [V9]))))))))))) (.loop [(.k (.slice none 0 0)),(.ki 0)]
(.pm f86 8 3 [(.cn V0 1)]
(.ri V7
(.ri V8
(.br (.io .lss V7 V8)
(.ct 142 [(.ag V0),V1,V7]
(.rb V9
(.br (.nt V9) (.next 0 [V6,(.io .add V7 (.ki 1))])
(.pm f86 10 11 [(.cn V0 1),V7]
(.pm f86 10 12 [V10,(.ki 0)]
(.pm f86 10 13 [V11]
(.pm f86 10 18 [(.cn V0 1),V7]
(.pm f86 10 19 [V13,(.ki 1)]
(.pm f86 10 20 [V14]
(.ct 143 [(.ag V0),V2,V12]
(.cf 139 [V16,V15]
(.rb V17
(.br V17
(.next 0 [V6,(.io .add V7 (.ki 1))])
(.mq f86 11 3 []
(.ef true f86 11 5 [V18,V2]
(.mq f86 11 7 [V7]
(.ef false f86 11 8 [V19,V20]
(.cf 86 [(.ag V0),V1,V21]
(.ef false f86 11 10 [V6,V22]
(.next 0 [V23,(.io .add V7 (.ki 1))])))))))))))))))))))) (.ret [V6]))))))))))))))):=aB
theorem c3R:tree prog [] [] [] [] 42=some (.cq 2 V0
(.cf 86 [(.ag V0),V1,(.k (.slice none 0 0))]
(.ret [V2]))):=aB
theorem c3S:tree prog [] [] [⟨0,3,[],[]⟩] [] 217=some (.loop [(.k (.slice none 0 0)),(.ki 0)]
(.pm f217 3 2 [V0]
(.ri V3
(.ri V4
(.br (.io .lss V3 V4)
(.pm f217 5 2 [V0,V3]
(.pm f217 5 3 [V5]
(.ri V6
(.ri V1
(.br (.io .neq V6 V1)
(.pm f217 6 3 [V0,V3]
(.pm f217 6 4 [V7]
(.ef false f217 6 5 [V8]
(.ef false f217 6 6 [V2,V9]
(.next 0 [V10,(.io .add V3 (.ki 1))]))))) (.next 0 [V2,(.io .add V3 (.ki 1))])))))) (.ret [V2])))))):=aB
theorem c3T:tree prog [] [] [] [⟨7,[0,0,0,4,15,31],[5,0,0,2,2,0],[0,0,0,0,0,0],[0,1,2,3,4,5],[]⟩] 168=some (.cq 2 V0
(.cf 216 [(.ag V0),V1,V2]
(.ri V4
(.br (.io .neq V4 (.ki 0)) (.ret [(kU 0),(kU 0),V4])
(.cf 217 [V2,V3]
(.pm f168 5 1 [V5]
(.pm f168 5 3 [V2]
(.ri V6
(.ri V7
(.br (.io .eql V6 V7) (.ret [(kU 0),(kU 0),(.ki 2)])
(.ct 218 [V1]
(.ct 143 [(.ag V0),V5,V8]
(.ru V1
(.ru V9
(.ret [V9,(.uo .sub V1 V9),(.ki 0)]))))))))))))))):=aB
end Go.Z

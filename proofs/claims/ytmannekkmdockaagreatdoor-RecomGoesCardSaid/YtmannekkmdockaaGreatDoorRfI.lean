/- Trees of functions. -/
import Derived.Test.YtmannekkmdockaaGreatDoorLgB
open Int renaming eq_nat_or_neg->nE,natAbs_natCast->cV,natAbs_neg->fW
namespace Go.Proofs.Z
open Go.Proofs.Tryz
open Go.RowKit Go.RX
theorem F4:tree prog [] [] [⟨3,2,[17],[]⟩,⟨0,2,[],[]⟩] [] 132=some (.pm f132 1 1 [V1]
(.loop [V2]
(.join 1
(.ri V3
(.br (.io .gtr V3 (.ki 0))
(.pm f132 2 6 [V1,(.io .sub V3 (.ki 1))]
(.pm f132 2 7 [V4]
(.ru V5
(.next 1 [(.uo .eql V5 (kU 0))])))) (.next 1 [(.k (.bool false))]))) (.rq (.bool V4) (.br V4
(.ri V3
(.next 0 [(.io .sub V3 (.ki 1))])) (.rq (.bool V0) (.br V0
(.ri V3
(.pm f132 4 7 [V1,V3]
(.rq (.cells 1 V5) (.ret [(.cat (.io .gtr V3 (.ki 0)) 1 V5)]))))
(.pm f132 4 7 [V1,V3]
(.rq (.cells 1 V5) (.ret [(.cat (.k (.bool false)) 1 V5)])))))))))):=by kernel_rfl
theorem F5:(opr f132 4 7).op= .slice 76 (.tmp 25) none (some (.tmp 26)) none:=by kernel_rfl
theorem F6:tree prog [3] [] [] [⟨2,[0,1,0,0,8,28,63,127],[1,1,2,1,1,2,2,6],[0,0,0,0,0,0,0,1],[0,1,3,4,2,5,6],[7]⟩] 75=some (.rq (.cells 8 V0) (.call false 128 [(.ag V0)]
(.pub 208 (.z 208)
(.ef false f75 1 3 [V2,V1]
(.pm f75 2 0 [V2]
(.pm f75 2 1 [V4]
(.pm f75 2 3 [V2]
(.pm f75 2 4 [V6]
(.ef true f75 2 2 []
(.ef true f75 2 5 [V8,V7]
(.call true 132 [V5,V9]
(.rq (.cells 2 V10) (.ret [(.ag V10)]))))))))))))):=by kernel_rfl
theorem F7:tree prog [] [] [] [] 102=some (.call false 29 [V0]
(.call false 75 [V1]
(.rq (.cells 2 V2) (.ret [(.ag V2)])))):=by kernel_rfl
theorem F8:tree prog [4] [] [] [⟨4,[0,1,0,4,15],[1,1,1,1,4],[0,0,0,0,0],[0,1,2,3],[4]⟩] 72=some (.rq (.cells 2 V0)
(.pm f72 1 2 [(.cell V0 1 0 noI)]
(.ri V1
(.br (.io .gtr V1 (.ki 8)) (.ret [(.z 56),(.ki 6)]) (.rq (.cells 1 (.cell V0 0 0 noI)) (.pub 208 (.z 208)
(.ef false f72 3 4 [V2,(.cat (.cell V0 0 0 noI) 1 (.z 206))]
(.pm f72 4 0 [V2]
(.pm f72 4 1 [V4]
(.ef false f72 4 4 [V5,(.cell V0 1 0 noI)]
(.pm f72 5 0 [V2]
(.call false 126 [V7]
(.rq (.tup 0 V8) (.rq (.tup 1 V8) (.rq (.cells 8 (.proj V8 0)) (.ret [(.ag (.proj V8 0)),(.proj V8 1)])))))))))))))))):=by kernel_rfl
theorem F9:(opr f72 3 4).op= .store 208 (.tmp 4) (.tmp 12):=by kernel_rfl
theorem G0:tree prog [] [] [⟨0,4,[],[]⟩] [⟨6,[0,0,3,7,0,0,48,112,255,511],[0,0,1,1,0,0,1,1,0,0],[0,0,0,0,0,0,0,0,0,0],[0,1,2,3,4,5,6,7,8,9],[]⟩,⟨8,[0,0,3,7,0,0,48,112,255,511],[0,0,1,1,0,0,1,1,0,0],[0,0,0,0,0,0,0,0,0,0],[0,1,2,3,4,5,6,7,8,9],[]⟩] 192=some (.pm f192 1 1 [V0]
(.pm f192 1 3 [V1]
(.ri V2
(.ri V3
(.br (.io .neq V2 V3)
(.pm f192 2 1 [V0]
(.pm f192 2 3 [V1]
(.ri V4
(.ri V5
(.ret [(.io .sub V4 V5)])))))
(.pm f192 3 1 [V0]
(.ri V4
(.loop [(.ki 0),(.io .sub V4 (.ki 1))]
(.ri V6
(.br (.io .geq V6 (.ki 0))
(.pm f192 6 2 [V0,V6]
(.pm f192 6 3 [V7]
(.pm f192 6 6 [V1,V6]
(.pm f192 6 7 [V9]
(.ru V8
(.ru V10
(.br (.uo .lss V8 V10) (.ret [(kI (-1))])
(.pm f192 8 2 [V0,V6]
(.pm f192 8 3 [V11]
(.pm f192 8 6 [V1,V6]
(.pm f192 8 7 [V13]
(.ru V12
(.ru V14
(.br (.uo .gtr V12 V14) (.ret [(.ki 1)]) (.next 0 [V5,(.io .sub V6 (.ki 1))]))))))))))))))) (.ret [(.ki 0)]))))))))))):=by kernel_rfl
theorem G1:tree prog [] [] [⟨2,14,[0,1],[]⟩,⟨2,31,[9],[]⟩,⟨0,6,[],[]⟩] [] 191=some (.pm f191 1 1 [V0]
(.pm f191 1 3 [V1]
(.ri V2
(.ri V3
(.join 2
(.br (.io .lss V2 V3) (.next 0 [V1,V0]) (.next 0 [V0,V1]))
(.pm f191 3 1 [V4]
(.ri V6
(.ef false f191 3 3 [(.io .add V6 (.ki 1)),(.io .add V6 (.ki 1))]
(.pm f191 5 1 [V4]
(.loop [(kU 0),(.ki 0)]
(.ri V10
(.ri V8
(.br (.io .lss V10 V8)
(.pm f191 7 1 [V4,V10]
(.pm f191 7 2 [V11]
(.pm f191 9 2 [V5]
(.ri V13
(.join 1
(.br (.io .lss V10 V13)
(.pm f191 10 2 [V5,V10]
(.pm f191 10 3 [V14]
(.next 1 [V15]))) (.next 1 [(kU 0)])) (.ext 231 [V12,V14,V9]
(.rq (.tup 0 V15) (.rq (.tup 1 V15)
(.pm f191 11 9 [V7,V10]
(.ef false f191 11 10 [V16,(.proj V15 0)]
(.next 0 [(.proj V15 1),(.io .add V10 (.ki 1))])))))))))))
(.pm f191 13 2 [V4]
(.pm f191 13 4 [V7,V11]
(.ef false f191 13 5 [V12,V9]
(.ret [V7]))))))))))))))))):=by kernel_rfl
theorem G2:tree prog [] [] [⟨2,23,[9],[]⟩,⟨0,4,[],[]⟩] [] 193=some (.pm f193 1 1 [V0]
(.ef false f193 1 2 [V2,V2]
(.pm f193 3 1 [V0]
(.loop [(kU 0),(.ki 0)]
(.ri V6
(.ri V4
(.br (.io .lss V6 V4)
(.pm f193 5 1 [V0,V6]
(.pm f193 5 2 [V7]
(.pm f193 7 2 [V1]
(.ri V9
(.join 1
(.br (.io .lss V6 V9)
(.pm f193 8 2 [V1,V6]
(.pm f193 8 3 [V10]
(.next 1 [V11]))) (.next 1 [(kU 0)])) (.ext 232 [V8,V10,V5]
(.rq (.tup 0 V11) (.rq (.tup 1 V11)
(.pm f193 9 9 [V3,V6]
(.ef false f193 9 10 [V12,(.proj V11 0)]
(.next 0 [(.proj V11 1),(.io .add V6 (.ki 1))]))))))))))) (.ret [V3])))))))):=by kernel_rfl
theorem G3:tree prog [] [] [⟨0,3,[],[]⟩,⟨0,7,[],[]⟩] [] 202=some (.pm f202 1 1 [V0]
(.pm f202 1 3 [V1]
(.ri V2
(.ri V3
(.ef false f202 1 5 [(.io .add V2 V3),(.io .add V2 V3)]
(.pm f202 2 1 [V0]
(.loop [(.ki 0)]
(.ri V6
(.ri V5
(.br (.io .lss V6 V5)
(.pm f202 4 1 [V0,V6]
(.pm f202 4 2 [V7]
(.pm f202 6 1 [V1]
(.loop [(kU 0),(.ki 0)]
(.ri V11
(.ri V9
(.br (.io .lss V11 V9)
(.pm f202 8 1 [V1,V11]
(.pm f202 8 2 [V12]
(.call false 240 [V8,V13]
(.rq (.tup 0 V14) (.rq (.tup 1 V14)
(.pm f202 10 4 [V4,(.io .add V6 V11)]
(.pm f202 10 5 [V15]
(.ext 231 [V16,(.proj V14 1),(kU 0)]
(.rq (.tup 0 V17) (.rq (.tup 1 V17) (.ext 231 [(.proj V17 0),V10,(kU 0)]
(.rq (.tup 0 V18) (.rq (.tup 1 V18) (.rq (.int .u64 (.proj V14 0)) (.rq (.int .u64 (.proj V17 1)) (.rq (.int .u64 (.proj V18 1))
(.pm f202 12 10 [V4,(.io .add V6 V11)]
(.ef false f202 12 11 [V19,(.proj V18 0)]
(.next 1 [(.uo .add (.uo .add (.proj V14 0) (.proj V17 1)) (.proj V18 1)),(.io .add V11 (.ki 1))])))))))))))))))))))
(.pm f202 14 3 [V1]
(.ri V12
(.pm f202 14 6 [V4,(.io .add V6 V12)]
(.ef false f202 14 7 [V13,V10]
(.next 0 [(.io .add V6 (.ki 1))])))))))))))) (.ret [V4]))))))))))):=by kernel_rfl
theorem G4:tree prog [] [] [] [] 238=some (.pm f238 1 1 [V0]
(.ri V1
(.br (.io .eql V1 (.ki 0)) (.ret [(.ki 0)])
(.pm f238 3 1 [V0]
(.ri V2
(.pm f238 3 5 [V0]
(.ri V3
(.pm f238 3 7 [V0,(.io .sub V3 (.ki 1))]
(.pm f238 3 8 [V4]
(.call false 264 [V5]
(.ri V6
(.ret [(.io .sub (.io .mul (.ki 64) V2) V6)])))))))))))):=by kernel_rfl
@[reducible] def ui:SV:= .io .add V5 (.io .quo V1 (.ki 64))
theorem G5:tree prog [] [] [⟨0,3,[],[]⟩] [⟨5,[0,0,0,4,14,31,63,0,0,256,896,2047,4095,8191],[0,0,0,0,0,1,1,0,0,0,0,0,1,4],[0,0,0,0,0,0,0,0,0,0,0,0,0,0],[0,1,2,3,4,5,6,7,8,9,10,11,12],[13]⟩] 239=some (.pm f239 1 1 [V0]
(.ri V1
(.ri V2
(.ef false f239 1 6 [(.io .add (.io .add V2 (.io .quo V1 (.ki 64))) (.ki 1)),(.io .add (.io .add V2 (.io .quo V1 (.ki 64))) (.ki 1))]
(.pm f239 2 1 [V0]
(.loop [(.ki 0)]
(.ri V5
(.ri V4
(.br (.io .lss V5 V4)
(.pm f239 4 1 [V0,V5]
(.pm f239 4 2 [V6]
(.pm f239 5 5 [V3,ui]
(.pm f239 5 6 [V8]
(.ru V7
(.rq (.nn (.io .rem V1 (.ki 64)))
(.ru V9
(.pm f239 5 12 [V3,ui]
(.ef false f239 5 13 [V10,(.uo .or V9 (.uo .shl V7 (.io .rem V1 (.ki 64))))]
(.br (.io .gtr (.io .rem V1 (.ki 64)) (.ki 0)) (.rq (.nn (.io .sub (.ki 64) (.io .rem V1 (.ki 64))))
(.pm f239 7 11 [V3,(.io .add ui (.ki 1))]
(.ef false f239 7 12 [V12,(.uo .shr V7 (.io .sub (.ki 64) (.io .rem V1 (.ki 64))))]
(.next 0 [(.io .add V5 (.ki 1))])))) (.next 0 [(.io .add V5 (.ki 1))]))))))))))) (.call false 132 [(.k (.bool false)),V3]
(.rq (.agg 2 V6) (.ret [(.cell V6 1 0 noI)])))))))))))):=by kernel_rfl
theorem G6:tree prog [] [] [⟨0,5,[],[]⟩,⟨0,11,[],[]⟩] [⟨7,[0,0,0,0,0,24,56,0,128,384,1020,2044,4092,4092,8191,24575,65535],[0,0,0,0,0,1,1,0,1,1,2,0,0,0,1,4,0],[0,0,0,0,0,0,0,0,0,0,0,0,0,0,0,0,0],[0,1,2,3,4,5,6,7,8,9,10,11,12,13,14],[15,16]⟩,⟨16,[0,0,2,7,15,0,32,96,255,511,1023],[0,0,0,1,1,0,0,0,0,1,4],[0,0,0,0,0,0,0,0,0,0,0],[0,1,2,3,4,5,6,7,8,9],[10]⟩] 200=some (.pm f200 1 1 [V0]
(.ef false f200 1 2 [V2,V2]
(.pm f200 2 1 [V1]
(.ri V4
(.br (.io .eql V4 (.ki 1))
(.pm f200 4 1 [V0]
(.ri V5
(.loop [(kU 0),(.io .sub V5 (.ki 1))]
(.ri V7
(.br (.io .geq V7 (.ki 0))
(.pm f200 7 5 [V0,V7]
(.pm f200 7 6 [V8]
(.pm f200 7 8 [V1,(.ki 0)]
(.pm f200 7 9 [V10]
(.call true 237 [V6,V9,V11]
(.rq (.tup 0 V12) (.rq (.tup 1 V12)
(.pm f200 7 14 [V3,V7]
(.ef false f200 7 15 [V13,(.proj V12 0)]
(.next 0 [(.proj V12 1),(.io .sub V7 (.ki 1))]))))))))))
(.ef false f200 8 2 [V6]
(.call false 132 [(.k (.bool false)),V8]
(.rq (.agg 2 V9) (.ret [V3,(.cell V9 1 0 noI)]))))))))) (.call false 238 [V0]
(.call false 238 [V1]
(.ri V5
(.ri V6
(.loop [V0,(.io .sub V5 V6)]
(.ri V8
(.br (.io .geq V8 (.ki 0)) (.call false 239 [V1,V8]
(.call false 192 [V7,V9]
(.ri V10
(.br (.io .geq V10 (.ki 0)) (.call false 193 [V7,V9]
(.call false 132 [(.k (.bool false)),V11]
(.rq (.agg 2 V12)
(.pm f200 16 3 [V3,(.io .quo V8 (.ki 64))]
(.pm f200 16 4 [V13]
(.rq (.nn (.io .rem V8 (.ki 64)))
(.ru V14
(.pm f200 16 9 [V3,(.io .quo V8 (.ki 64))]
(.ef false f200 16 10 [V15,(.uo .or V14 (.uo .shl (kU 1) (.io .rem V8 (.ki 64))))]
(.next 0 [(.cell V12 1 0 noI),(.io .sub V8 (.ki 1))])))))))))) (.next 0 [V7,(.io .sub V8 (.ki 1))]))))) (.ret [V3,V7]))))))))))))):=by kernel_rfl
theorem G7:tree prog [] [] [] [] 131=some (.rq (.cells 2 V0) (.rq (.bool (.cell V0 0 0 noI)) (.call false 132 [(.nt (.cell V0 0 0 noI)),(.cell V0 1 0 noI)]
(.rq (.cells 2 V1) (.ret [(.ag V1)]))))):=by kernel_rfl
theorem G8:tree prog [] [] [] [⟨2,[0,1,0,4,0,16,60,127,255],[1,1,1,1,1,1,2,2,6],[0,0,0,0,0,0,0,0,2],[0,1,2,3,4,5,6,7],[8]⟩,⟨5,[0,1,0,4,0,16,60,127,255],[1,1,1,1,1,1,2,2,6],[0,0,0,0,0,0,0,0,2],[0,1,2,3,4,5,6,7],[8]⟩] 124=some (.rq (.cells 2 V0) (.rq (.cells 2 V1) (.rq (.bool (.cell V0 0 0 noI)) (.rq (.bool (.cell V1 0 0 noI)) (.br (.eqb false (.cell V0 0 0 noI) (.cell V1 0 0 noI)) (.call true 191 [(.cell V0 1 0 noI),(.cell V1 1 0 noI)]
(.call true 132 [(.cell V0 0 0 noI),V2]
(.rq (.cells 2 V3) (.ret [(.ag V3)])))) (.call false 192 [(.cell V0 1 0 noI),(.cell V1 1 0 noI)]
(.ri V2
(.br (.io .lss V2 (.ki 0)) (.call true 193 [(.cell V1 1 0 noI),(.cell V0 1 0 noI)]
(.call true 132 [(.cell V1 0 0 noI),V3]
(.rq (.cells 2 V4) (.ret [(.ag V4)])))) (.call true 193 [(.cell V0 1 0 noI),(.cell V1 1 0 noI)]
(.call true 132 [(.cell V0 0 0 noI),V3]
(.rq (.cells 2 V4) (.ret [(.ag V4)])))))))))))):=by kernel_rfl
theorem G9:tree prog [] [] [] [⟨1,[0,0,2,7,15],[5,5,2,2,6],[0,1,0,0,2],[0,1,2,3],[4]⟩] 194=some (.rq (.cells 2 V0) (.rq (.cells 2 V1) (.call true 131 [(.ag V1)]
(.call true 124 [(.ag V0),V2]
(.rq (.cells 2 V3) (.ret [(.ag V3)])))))):=by kernel_rfl
theorem I0:tree prog [] [] [] [⟨1,[0,1,0,4,15,0,32,0,128,480,1023,2047],[1,1,1,1,0,1,1,1,1,2,2,6],[0,0,0,0,0,0,0,0,0,0,0,2],[0,1,2,3,4,5,6,7,8,9,10],[11]⟩] 136=some (.rq (.cells 2 V0) (.rq (.cells 2 V1) (.rq (.bool (.cell V0 0 0 noI)) (.rq (.bool (.cell V1 0 0 noI)) (.call true 202 [(.cell V0 1 0 noI),(.cell V1 1 0 noI)]
(.call true 132 [(.eqb true (.cell V0 0 0 noI) (.cell V1 0 0 noI)),V2]
(.rq (.cells 2 V3) (.ret [(.ag V3)])))))))):=by kernel_rfl
theorem I1:tree prog [] [] [] [⟨2,[0,1,0,4,15,0,63,0,128,0,1023,2047,4095],[1,1,1,1,0,0,2,1,1,0,2,6,6],[0,0,0,0,0,0,0,0,0,0,0,2,3],[0,1,2,3,4,5,7,8,9,6,10],[11,12]⟩,⟨8,[0,0,1,7],[5,5,6,6],[2,3,2,3],[0,1],[2,3]⟩] 130=some (.rq (.cells 2 V0) (.rq (.cells 2 V1) (.call false 200 [(.cell V0 1 0 noI),(.cell V1 1 0 noI)]
(.rq (.tup 0 V2) (.rq (.tup 1 V2) (.rq (.bool (.cell V0 0 0 noI)) (.rq (.bool (.cell V1 0 0 noI)) (.call true 132 [(.eqb true (.cell V0 0 0 noI) (.cell V1 0 0 noI)),(.proj V2 0)]
(.call true 132 [(.cell V0 0 0 noI),(.proj V2 1)]
(.rq (.cells 2 V3) (.rq (.cells 2 V4) (.rq (.bool (.cell V4 0 0 noI)) (.br (.cell V4 0 0 noI) (.rq (.cells 1 (.cell V1 1 0 noI)) (.call false 124 [(.ag V4),(.cat (.z 4) 1 (.cell V1 1 0 noI))]
(.rq (.cells 2 V5)
(.ef false f130 6 3 [(kU 1)]
(.rq (.cells 1 V6) (.call false 124 [(.ag V3),(.cat (.nt (.cell V1 0 0 noI)) 1 V6)]
(.rq (.cells 2 V7) (.ret [(.ag V7),(.ag V5)])))))))) (.ret [(.ag V3),(.ag V4)])))))))))))))):=by kernel_rfl
theorem I2:tree prog [] [] [⟨0,2,[],[]⟩] [⟨1,[0,1,0,4,3,31],[1,1,1,1,0,0],[0,0,0,0,0,0],[0,1,2,3,4,5],[]⟩] 129=some (.rq (.cells 2 V0) (.rq (.cells 2 V1) (.loop [(.cell V0 1 0 noI),(.cell V1 1 0 noI)]
(.pm f129 2 1 [V3]
(.ri V4
(.br (.io .gtr V4 (.ki 0)) (.call false 200 [V2,V3]
(.rq (.tup 0 V5) (.rq (.tup 1 V5) (.next 0 [V3,(.proj V5 1)])))) (.rq (.cells 1 V2) (.ret [(.cat (.z 4) 1 V2)])))))))):=by kernel_rfl
theorem I3:tree prog [] [] [] [] 67=some (.rq (.cells 2 V0) (.rq (.bool (.cell V0 0 0 noI)) (.br (.cell V0 0 0 noI) (.ret [(kI (-1))])
(.pm f67 3 2 [(.cell V0 1 0 noI)]
(.ri V1
(.br (.io .eql V1 (.ki 0)) (.ret [(.ki 0)]) (.ret [(.ki 1)]))))))):=by kernel_rfl
theorem I4:tree prog [] [] [] [] 201=some (.rq (.cells 2 V0) (.rq (.cells 2 V1) (.call false 194 [(.ag V0),(.ag V1)]
(.call false 67 [V2]
(.ret [V3]))))):=by kernel_rfl
end Go.Proofs.Z
/- The reference of chapter 01: numbers with a sign. -/
namespace Go.Proofs.Z
open Go.Proofs.Tryz
open Go.RowKit Go.RX Go.WD
def Lm (z:Int):Prop:=z.natAbs<BP 10000
theorem I5 (z:Int):sn (!decide (z<0)) z.natAbs= -z:=by
 unfold sn;by_cases h:z<0<;>simp[h]<;>omega
theorem I6 (z:Int):sn (decide (z<0)) z.natAbs=z:=by
 unfold sn;by_cases h:z<0<;>simp[h]<;>omega
section
variable {H:PH} {v x y:Value} {z p q:Int}
theorem I7 (h:(decide (p<0)==decide (q<0))=true):sn (decide (p<0)) (p.natAbs+q.natAbs)=p+q:=by
 unfold sn;by_cases h1:p<0<;>by_cases h2:q<0<;>simp[h1,h2]at h⊢<;>omega
theorem HU (h:(decide (p<0)==decide (q<0))=false) (hl:q.natAbs<=p.natAbs):sn (decide (p<0)) (p.natAbs-q.natAbs)=p+q:=by
 unfold sn;by_cases h1:p<0<;>by_cases h2:q<0<;>simp[h1,h2]at h⊢<;>omega
theorem I8:sn (true !=(decide (p<0)==decide (q<0))) (p.natAbs*q.natAbs)=p*q:=by
 obtain⟨a,ha⟩:=nE p;obtain⟨b,hb⟩:=nE q;have rL:(((a*b:Nat):Int))=(a:Int)*b:=Int.natCast_mul a b;have hz:a=0\/b=0->(a:Int)*b=0:=by rintro(h|h)<;>rw[h]<;>simp
 unfold sn;rcases ha with ha|ha<;>rcases hb with hb|hb<;>subst ha<;>subst hb
 ·simp[show ¬(a:Int)<0 by omega,show ¬(b:Int)<0 by omega]
 ·rw[fW,cV,cV,rL,Int.mul_neg];by_cases h:b=0
  ·rw[hz (.inr h)];simp
  ·rw[decide_eq_false (show ¬(a:Int)<0 by omega),oDd (show -(b:Int)<0 by omega)];rfl
 ·rw[fW,cV,cV,rL,Int.neg_mul];by_cases h:a=0
  ·rw[hz (.inl h)];simp
  ·rw[decide_eq_false (show ¬(b:Int)<0 by omega),oDd (show -(a:Int)<0 by omega)];rfl
 ·rw[fW,cV,fW,cV,rL,Int.neg_mul_neg];by_cases h:a=0\/b=0
  ·rw[hz h];simp
  ·rw[oDd (show -(a:Int)<0 by omega),oDd (show -(b:Int)<0 by omega)];rfl
end
open Go.RowKit Go.RX Go.WD
section
variable {H:PH} {v x y:Value} {z p q:Int}
theorem I9 (k:Nat):BP (2*k+1)=PW k*4294967296:=by rw[BP_succ,su]
theorem HV:HM=BP 15*2147483648:=by
 rw[Qx,show(15:Nat)=2*7+1 from rfl,I9,Nat.mul_assoc,Nat.mul_comm]
end
end Go.Proofs.Z
/- The reference of chapter 01: Parts, Divisor, and what the chapter says. -/
namespace Go.Proofs.Z
open Go.Proofs.Tryz
open Go.RowKit Go.RX Go.WD
theorem HW:s7 prog 4= .bool false:=by kernel_rfl
open Classical in
section
variable {H:PH} {v x y:Value} {z p q:Int}
theorem Lm.nat {n:Nat} (h:n<BP 10000):Lm (n:Int):=by unfold Lm;rw[cV];exact h
theorem uj:Lm 1:=by
 unfold Lm;have:=BP_lt_iff.2 (show 0<10000 by omega);rw[BP_zero]at this;exact this
end
open Go.RowKit Go.RX Go.WD
theorem J0 {z:Int} (h:z.natAbs<M):Lm z:=by
 unfold Lm;have:=Bf (show 16<=10000 by omega);rw[ZZ]at this;omega
theorem ga (a:Nat):Lm (toI a):=J0 (GO a)
end Go.Proofs.Z

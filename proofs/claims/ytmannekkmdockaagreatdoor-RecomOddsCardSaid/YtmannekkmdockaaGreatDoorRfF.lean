/- Trees of functions. -/
import Derived.Test.YtmannekkmdockaaGreatDoorLgB
open Go.Result renaming andThen_ok->eH
open List renaming drop_of_length_le->fK,length_drop->eU
open Nat renaming add_comm->fL,div_eq_of_lt->fZ,div_one->pL,dvd_of_mod_eq_zero->mF,mul_add->eS,mul_div_cancel_left->lW,pow_pos->jL,pow_succ->jN,pow_zero->kC,sub_mul->pK
open Go.IntKind renaming wrap->wQ
namespace Go.Z
open Proofs.Tryz RowKit RX
theorem O3:tree prog [] [] [⟨3,2,[17],[]⟩,⟨0,2,[],[]⟩] [] 132=some (.pm f132 1 1 [V1]
(.loop [V2]
(.join 1
(.ri V3
(.br (.io .gtr V3 (.ki 0))
(.pm f132 2 6 [V1,(.io .sub V3 (.ki 1))]
(.pm f132 2 7 [V4]
(.ru V5
(.next 1 [(.uo .eql V5 (kU 0))])))) (.next 1 [kF])))
(.rb V4
(.br V4
(.ri V3
(.next 0 [(.io .sub V3 (.ki 1))]))
(.rb V0
(.br V0
(.ri V3
(.pm f132 4 7 [V1,V3]
(.cq 1 V5
(.ret [(.cat (.io .gtr V3 (.ki 0)) 1 V5)]))))
(.pm f132 4 7 [V1,V3]
(.cq 1 V5
(.ret [(.cat kF 1 V5)])))))))))):=aB
theorem O4:(opr f132 4 7).op= .slice 76 (.tmp 25) none (some (.tmp 26)) none:=aB
theorem O5:tree prog [3] [] [] [⟨2,[0,1,0,0,8,28,63,127],[1,1,2,1,1,2,2,6],[0,0,0,0,0,0,0,1],[0,1,3,4,2,5,6],[7]⟩] 75=some (.cq 8 V0
(.cf 128 [(.ag V0)]
(.pub 208 (.z 208)
(.ef false f75 1 3 [V2,V1]
(.pm f75 2 0 [V2]
(.pm f75 2 1 [V4]
(.pm f75 2 3 [V2]
(.pm f75 2 4 [V6]
(.ef true f75 2 2 []
(.ef true f75 2 5 [V8,V7]
(.ct 132 [V5,V9]
(.cq 2 V10
(.ret [(.ag V10)]))))))))))))):=aB
theorem O6:tree prog [] [] [] [] 102=some (.cf 29 [V0]
(.cf 75 [V1]
(.cq 2 V2
(.ret [(.ag V2)])))):=aB
theorem O7:tree prog [4] [] [] [⟨4,[0,1,0,4,15],[1,1,1,1,4],[0,0,0,0,0],[0,1,2,3],[4]⟩] 72=some (.cq 2 V0
(.pm f72 1 2 [(.cn V0 1)]
(.ri V1
(.br (.io .gtr V1 (.ki 8)) (.ret [(.z 56),(.ki 6)])
(.cq 1 (.cn V0 0) (.pub 208 (.z 208)
(.ef false f72 3 4 [V2,(.cat (.cn V0 0) 1 (.z 206))]
(.pm f72 4 0 [V2]
(.pm f72 4 1 [V4]
(.ef false f72 4 4 [V5,(.cn V0 1)]
(.pm f72 5 0 [V2]
(.cf 126 [V7]
(.tq 0 V8
(.tq 1 V8
(.cq 8 (.pj V8 0) (.ret [(.ag (.pj V8 0)),(.pj V8 1)])))))))))))))))):=aB
theorem O8:(opr f72 3 4).op= .store 208 (.tmp 4) (.tmp 12):=aB
theorem O9:tree prog [] [] [⟨0,4,[],[]⟩] [⟨6,[0,0,3,7,0,0,48,112,255,511],[0,0,1,1,0,0,1,1,0,0],[0,0,0,0,0,0,0,0,0,0],[0,1,2,3,4,5,6,7,8,9],[]⟩,⟨8,[0,0,3,7,0,0,48,112,255,511],[0,0,1,1,0,0,1,1,0,0],[0,0,0,0,0,0,0,0,0,0],[0,1,2,3,4,5,6,7,8,9],[]⟩] 192=some (.pm f192 1 1 [V0]
(.pm f192 1 3 [V1]
(.ri V2
(.ri V3
(.br (.io .neq V2 V3)
(.pm f192 2 1 [V0]
(.pm f192 2 3 [V1]
(.ri V4
(.ri V5
(.ret [(.io .sub V4 V5)])))))
(.pm f192 3 1 [V0]
(.ri V4
(.loop [(.ki 0),(.io .sub V4 (.ki 1))]
(.ri V6
(.br (.io .geq V6 (.ki 0))
(.pm f192 6 2 [V0,V6]
(.pm f192 6 3 [V7]
(.pm f192 6 6 [V1,V6]
(.pm f192 6 7 [V9]
(.ru V8
(.ru V10
(.br (.uo .lss V8 V10) (.ret [(kI (-1))])
(.pm f192 8 2 [V0,V6]
(.pm f192 8 3 [V11]
(.pm f192 8 6 [V1,V6]
(.pm f192 8 7 [V13]
(.ru V12
(.ru V14
(.br (.uo .gtr V12 V14) (.ret [(.ki 1)]) (.next 0 [V5,(.io .sub V6 (.ki 1))]))))))))))))))) (.ret [(.ki 0)]))))))))))):=aB
theorem P0:tree prog [] [] [⟨2,14,[0,1],[]⟩,⟨2,31,[9],[]⟩,⟨0,6,[],[]⟩] [] 191=some (.pm f191 1 1 [V0]
(.pm f191 1 3 [V1]
(.ri V2
(.ri V3
(.join 2
(.br (.io .lss V2 V3) (.next 0 [V1,V0]) (.next 0 [V0,V1]))
(.pm f191 3 1 [V4]
(.ri V6
(.ef false f191 3 3 [(.io .add V6 (.ki 1)),(.io .add V6 (.ki 1))]
(.pm f191 5 1 [V4]
(.loop [(kU 0),(.ki 0)]
(.ri V10
(.ri V8
(.br (.io .lss V10 V8)
(.pm f191 7 1 [V4,V10]
(.pm f191 7 2 [V11]
(.pm f191 9 2 [V5]
(.ri V13
(.join 1
(.br (.io .lss V10 V13)
(.pm f191 10 2 [V5,V10]
(.pm f191 10 3 [V14]
(.next 1 [V15]))) (.next 1 [(kU 0)])) (.ext 231 [V12,V14,V9]
(.tq 0 V15
(.tq 1 V15
(.pm f191 11 9 [V7,V10]
(.ef false f191 11 10 [V16,(.pj V15 0)]
(.next 0 [(.pj V15 1),(.io .add V10 (.ki 1))])))))))))))
(.pm f191 13 2 [V4]
(.pm f191 13 4 [V7,V11]
(.ef false f191 13 5 [V12,V9]
(.ret [V7]))))))))))))))))):=aB
theorem P1:tree prog [] [] [⟨2,23,[9],[]⟩,⟨0,4,[],[]⟩] [] 193=some (.pm f193 1 1 [V0]
(.ef false f193 1 2 [V2,V2]
(.pm f193 3 1 [V0]
(.loop [(kU 0),(.ki 0)]
(.ri V6
(.ri V4
(.br (.io .lss V6 V4)
(.pm f193 5 1 [V0,V6]
(.pm f193 5 2 [V7]
(.pm f193 7 2 [V1]
(.ri V9
(.join 1
(.br (.io .lss V6 V9)
(.pm f193 8 2 [V1,V6]
(.pm f193 8 3 [V10]
(.next 1 [V11]))) (.next 1 [(kU 0)])) (.ext 232 [V8,V10,V5]
(.tq 0 V11
(.tq 1 V11
(.pm f193 9 9 [V3,V6]
(.ef false f193 9 10 [V12,(.pj V11 0)]
(.next 0 [(.pj V11 1),(.io .add V6 (.ki 1))]))))))))))) (.ret [V3])))))))):=aB
theorem P2:tree prog [] [] [⟨0,3,[],[]⟩,⟨0,7,[],[]⟩] [] 202=some (.pm f202 1 1 [V0]
(.pm f202 1 3 [V1]
(.ri V2
(.ri V3
(.ef false f202 1 5 [(.io .add V2 V3),(.io .add V2 V3)]
(.pm f202 2 1 [V0]
(.loop [(.ki 0)]
(.ri V6
(.ri V5
(.br (.io .lss V6 V5)
(.pm f202 4 1 [V0,V6]
(.pm f202 4 2 [V7]
(.pm f202 6 1 [V1]
(.loop [(kU 0),(.ki 0)]
(.ri V11
(.ri V9
(.br (.io .lss V11 V9)
(.pm f202 8 1 [V1,V11]
(.pm f202 8 2 [V12]
(.cf 240 [V8,V13]
(.tq 0 V14
(.tq 1 V14
(.pm f202 10 4 [V4,(.io .add V6 V11)]
(.pm f202 10 5 [V15]
(.ext 231 [V16,(.pj V14 1),(kU 0)]
(.tq 0 V17
(.tq 1 V17
(.ext 231 [(.pj V17 0),V10,(kU 0)]
(.tq 0 V18
(.tq 1 V18
(.rq (.int .u64 (.pj V14 0)) (.rq (.int .u64 (.pj V17 1)) (.rq (.int .u64 (.pj V18 1))
(.pm f202 12 10 [V4,(.io .add V6 V11)]
(.ef false f202 12 11 [V19,(.pj V18 0)]
(.next 1 [(.uo .add (.uo .add (.pj V14 0) (.pj V17 1)) (.pj V18 1)),(.io .add V11 (.ki 1))])))))))))))))))))))
(.pm f202 14 3 [V1]
(.ri V12
(.pm f202 14 6 [V4,(.io .add V6 V12)]
(.ef false f202 14 7 [V13,V10]
(.next 0 [(.io .add V6 (.ki 1))])))))))))))) (.ret [V4]))))))))))):=aB
theorem P3:tree prog [] [] [] [] 238=some (.pm f238 1 1 [V0]
(.ri V1
(.br (.io .eql V1 (.ki 0)) (.ret [(.ki 0)])
(.pm f238 3 1 [V0]
(.ri V2
(.pm f238 3 5 [V0]
(.ri V3
(.pm f238 3 7 [V0,(.io .sub V3 (.ki 1))]
(.pm f238 3 8 [V4]
(.cf 264 [V5]
(.ri V6
(.ret [(.io .sub (.io .mul (.ki 64) V2) V6)])))))))))))):=aB
@[reducible] def xe:SV:= .io .add V5 (.io .quo V1 (.ki 64))
theorem P4:tree prog [] [] [⟨0,3,[],[]⟩] [⟨5,[0,0,0,4,14,31,63,0,0,256,896,2047,4095,8191],[0,0,0,0,0,1,1,0,0,0,0,0,1,4],[0,0,0,0,0,0,0,0,0,0,0,0,0,0],[0,1,2,3,4,5,6,7,8,9,10,11,12],[13]⟩] 239=some (.pm f239 1 1 [V0]
(.ri V1
(.ri V2
(.ef false f239 1 6 [(.io .add (.io .add V2 (.io .quo V1 (.ki 64))) (.ki 1)),(.io .add (.io .add V2 (.io .quo V1 (.ki 64))) (.ki 1))]
(.pm f239 2 1 [V0]
(.loop [(.ki 0)]
(.ri V5
(.ri V4
(.br (.io .lss V5 V4)
(.pm f239 4 1 [V0,V5]
(.pm f239 4 2 [V6]
(.pm f239 5 5 [V3,xe]
(.pm f239 5 6 [V8]
(.ru V7
(.rq (.nn (.io .rem V1 (.ki 64)))
(.ru V9
(.pm f239 5 12 [V3,xe]
(.ef false f239 5 13 [V10,(.uo .or V9 (.uo .shl V7 (.io .rem V1 (.ki 64))))]
(.br (.io .gtr (.io .rem V1 (.ki 64)) (.ki 0)) (.rq (.nn (.io .sub (.ki 64) (.io .rem V1 (.ki 64))))
(.pm f239 7 11 [V3,(.io .add xe (.ki 1))]
(.ef false f239 7 12 [V12,(.uo .shr V7 (.io .sub (.ki 64) (.io .rem V1 (.ki 64))))]
(.next 0 [(.io .add V5 (.ki 1))])))) (.next 0 [(.io .add V5 (.ki 1))])))))))))))
(.cf 132 [kF,V3]
(.rq (.agg 2 V6) (.ret [(.cn V6 1)])))))))))))):=aB
theorem P5:tree prog [] [] [⟨0,5,[],[]⟩,⟨0,11,[],[]⟩] [⟨7,[0,0,0,0,0,24,56,0,128,384,1020,2044,4092,4092,8191,24575,65535],[0,0,0,0,0,1,1,0,1,1,2,0,0,0,1,4,0],[0,0,0,0,0,0,0,0,0,0,0,0,0,0,0,0,0],[0,1,2,3,4,5,6,7,8,9,10,11,12,13,14],[15,16]⟩,⟨16,[0,0,2,7,15,0,32,96,255,511,1023],[0,0,0,1,1,0,0,0,0,1,4],[0,0,0,0,0,0,0,0,0,0,0],[0,1,2,3,4,5,6,7,8,9],[10]⟩] 200=some (.pm f200 1 1 [V0]
(.ef false f200 1 2 [V2,V2]
(.pm f200 2 1 [V1]
(.ri V4
(.br (.io .eql V4 (.ki 1))
(.pm f200 4 1 [V0]
(.ri V5
(.loop [(kU 0),(.io .sub V5 (.ki 1))]
(.ri V7
(.br (.io .geq V7 (.ki 0))
(.pm f200 7 5 [V0,V7]
(.pm f200 7 6 [V8]
(.pm f200 7 8 [V1,(.ki 0)]
(.pm f200 7 9 [V10]
(.ct 237 [V6,V9,V11]
(.tq 0 V12
(.tq 1 V12
(.pm f200 7 14 [V3,V7]
(.ef false f200 7 15 [V13,(.pj V12 0)]
(.next 0 [(.pj V12 1),(.io .sub V7 (.ki 1))]))))))))))
(.ef false f200 8 2 [V6]
(.cf 132 [kF,V8]
(.rq (.agg 2 V9) (.ret [V3,(.cn V9 1)])))))))))
(.cf 238 [V0]
(.cf 238 [V1]
(.ri V5
(.ri V6
(.loop [V0,(.io .sub V5 V6)]
(.ri V8
(.br (.io .geq V8 (.ki 0))
(.cf 239 [V1,V8]
(.cf 192 [V7,V9]
(.ri V10
(.br (.io .geq V10 (.ki 0))
(.cf 193 [V7,V9]
(.cf 132 [kF,V11]
(.rq (.agg 2 V12)
(.pm f200 16 3 [V3,(.io .quo V8 (.ki 64))]
(.pm f200 16 4 [V13]
(.rq (.nn (.io .rem V8 (.ki 64)))
(.ru V14
(.pm f200 16 9 [V3,(.io .quo V8 (.ki 64))]
(.ef false f200 16 10 [V15,(.uo .or V14 (.uo .shl (kU 1) (.io .rem V8 (.ki 64))))]
(.next 0 [(.cn V12 1),(.io .sub V8 (.ki 1))])))))))))) (.next 0 [V7,(.io .sub V8 (.ki 1))]))))) (.ret [V3,V7]))))))))))))):=aB
theorem P6:tree prog [] [] [] [] 131=some (.cq 2 V0
(.rb (.cn V0 0)
(.cf 132 [(.nt (.cn V0 0)),(.cn V0 1)]
(.cq 2 V1
(.ret [(.ag V1)]))))):=aB
theorem P7:tree prog [] [] [] [⟨2,[0,1,0,4,0,16,60,127,255],[1,1,1,1,1,1,2,2,6],[0,0,0,0,0,0,0,0,2],[0,1,2,3,4,5,6,7],[8]⟩,⟨5,[0,1,0,4,0,16,60,127,255],[1,1,1,1,1,1,2,2,6],[0,0,0,0,0,0,0,0,2],[0,1,2,3,4,5,6,7],[8]⟩] 124=some (.cq 2 V0
(.cq 2 V1
(.rb (.cn V0 0)
(.rb (.cn V1 0) (.br (.eqb false (.cn V0 0) (.cn V1 0))
(.ct 191 [(.cn V0 1),(.cn V1 1)]
(.ct 132 [(.cn V0 0),V2]
(.cq 2 V3
(.ret [(.ag V3)]))))
(.cf 192 [(.cn V0 1),(.cn V1 1)]
(.ri V2
(.br (.io .lss V2 (.ki 0))
(.ct 193 [(.cn V1 1),(.cn V0 1)]
(.ct 132 [(.cn V1 0),V3]
(.cq 2 V4
(.ret [(.ag V4)]))))
(.ct 193 [(.cn V0 1),(.cn V1 1)]
(.ct 132 [(.cn V0 0),V3]
(.cq 2 V4
(.ret [(.ag V4)])))))))))))):=aB
theorem P8:tree prog [] [] [] [⟨1,[0,0,2,7,15],[5,5,2,2,6],[0,1,0,0,2],[0,1,2,3],[4]⟩] 194=some (.cq 2 V0
(.cq 2 V1
(.ct 131 [(.ag V1)]
(.ct 124 [(.ag V0),V2]
(.cq 2 V3
(.ret [(.ag V3)])))))):=aB
theorem P9:tree prog [] [] [] [⟨1,[0,1,0,4,15,0,32,0,128,480,1023,2047],[1,1,1,1,0,1,1,1,1,2,2,6],[0,0,0,0,0,0,0,0,0,0,0,2],[0,1,2,3,4,5,6,7,8,9,10],[11]⟩] 136=some (.cq 2 V0
(.cq 2 V1
(.rb (.cn V0 0)
(.rb (.cn V1 0)
(.ct 202 [(.cn V0 1),(.cn V1 1)]
(.ct 132 [(.eqb true (.cn V0 0) (.cn V1 0)),V2]
(.cq 2 V3
(.ret [(.ag V3)])))))))):=aB
theorem Q0:tree prog [] [] [] [⟨2,[0,1,0,4,15,0,63,0,128,0,1023,2047,4095],[1,1,1,1,0,0,2,1,1,0,2,6,6],[0,0,0,0,0,0,0,0,0,0,0,2,3],[0,1,2,3,4,5,7,8,9,6,10],[11,12]⟩,⟨8,[0,0,1,7],[5,5,6,6],[2,3,2,3],[0,1],[2,3]⟩] 130=some (.cq 2 V0
(.cq 2 V1
(.cf 200 [(.cn V0 1),(.cn V1 1)]
(.tq 0 V2
(.tq 1 V2
(.rb (.cn V0 0)
(.rb (.cn V1 0)
(.ct 132 [(.eqb true (.cn V0 0) (.cn V1 0)),(.pj V2 0)]
(.ct 132 [(.cn V0 0),(.pj V2 1)]
(.cq 2 V3
(.cq 2 V4
(.rb (.cn V4 0) (.br (.cn V4 0)
(.cq 1 (.cn V1 1)
(.cf 124 [(.ag V4),(.cat (.z 4) 1 (.cn V1 1))]
(.cq 2 V5
(.ef false f130 6 3 [(kU 1)]
(.cq 1 V6
(.cf 124 [(.ag V3),(.cat (.nt (.cn V1 0)) 1 V6)]
(.cq 2 V7
(.ret [(.ag V7),(.ag V5)])))))))) (.ret [(.ag V3),(.ag V4)])))))))))))))):=aB
theorem Q1:tree prog [] [] [⟨0,2,[],[]⟩] [⟨1,[0,1,0,4,3,31],[1,1,1,1,0,0],[0,0,0,0,0,0],[0,1,2,3,4,5],[]⟩] 129=some (.cq 2 V0
(.cq 2 V1
(.loop [(.cn V0 1),(.cn V1 1)]
(.pm f129 2 1 [V3]
(.ri V4
(.br (.io .gtr V4 (.ki 0))
(.cf 200 [V2,V3]
(.tq 0 V5
(.tq 1 V5
(.next 0 [V3,(.pj V5 1)]))))
(.cq 1 V2
(.ret [(.cat (.z 4) 1 V2)])))))))):=aB
theorem Q2:tree prog [] [] [] [] 67=some (.cq 2 V0
(.rb (.cn V0 0) (.br (.cn V0 0) (.ret [(kI (-1))])
(.pm f67 3 2 [(.cn V0 1)]
(.ri V1
(.br (.io .eql V1 (.ki 0)) (.ret [(.ki 0)]) (.ret [(.ki 1)]))))))):=aB
end Go.Z
namespace Go.RX
open RowKit
theorem Q3 {P:Program} {H:PH} {o:Oper} {x lo:Operand} {vs:List Value} {T e:TypeId} {sz n i:Nat} {k:IntKind} {v:Value} {xs:List Value} (ho:o.op= .slice T x (some lo) none none) (hx:g8 [x,lo] vs x=v) (hl:g8 [x,lo] vs lo= .int k (i:Nat)) (hu:P.underlying T=some (.slice e)) (he:w9 P e=true) (rR:P.cellsOf e=sz) (h:Sl H sz v n xs) (h1:i<=n):
  ∃u,Yld P o vs u/\Sl H sz u (n-i) (xs.drop (i*sz)):=by
 obtain⟨qD,a,c,h2,h3,h4,h5⟩:=h;obtain⟨⟨ie,uZ⟩,_⟩:=Gx he;have qK:o.op.operands.toList=[x,lo]:=by simp[ho,Op.operands]
 refine⟨.slice (if c=i then a else a.map (·.add (i*sz))) (n-i) (c-i),fun w=> ?_,by rw[eU,qD,pK],_,_,rfl,aA,aA,?_⟩
 ·rw[qK];simp only[execOp,ho,hx,h2,dF,Option.map_none,hl,Instr.sliceAt,Instr.slice,Sem.run_bind,run_underlying hu,eH,Sem.run_pure,Instr.sliceBounds];rw[run_sliceBound w k (i:Int) n _ aA aA];simp only[eH,Ht uZ,aV,rR]
 ·rcases h5 with h5|⟨b,q,cs,T',fz,h5,h6,h7⟩
  ·left;omega
  ·by_cases hni:n-i=0
   ·exact .inl hni
   ·right;subst h5;refine⟨b,q+i*sz,cs,T',fz,?_,h6,?_⟩
    ·rw[if_neg aA,dF,Jv]
    ·rw[<-h7,List.drop_take,List.drop_drop,pK]
end Go.RX
namespace Go.Z
open Proofs.Tryz RowKit RX WD
theorem Ds.drop {H:PH} {v:Value} {l:List Nat} {o:Oper} {x lo:Operand} {i:Nat} {k:IntKind} {vs:List Value} (h:Ds H v l) (ho:o.op= .slice 32 x (some lo) none none) (hx:g8 [x,lo] vs x=v) (hl:g8 [x,lo] vs lo= .int k (i:Nat)) (h1:i<=l.length):∃u,Yld prog o vs u/\Ds H u (l.drop i):=by
 obtain⟨u,h2,h3⟩:=Q3 (P:=prog) ho hx hl Jf Uj Ui h.1 h1;refine⟨u,h2,?_,h.2.drop i⟩;rw[eU,List.map_drop]
 rwa[dN]at h3
theorem Od.frame {Hr H Hr' H':PH} {v:Value} {l:List Nat} (h:Od Hr H v l) (hk:∀k ob,H k=some ob->Hr k=none->Hr' k=none/\H' k=some ob):Od Hr' H' v l:=⟨h.1.frame hk,h.2⟩
theorem _root_.Go.WD.Tm.top {l:List Nat} (h:Tm l) (hD:Dg l) {n:Nat} (hn:l.length=n+1):l.getD n 0≠0:=fun h0=>by
 have h1:=Uh (l:=l) (k:=n) aA;rw[aF aA,h0,Nat.mul_zero,eF]at h1;have h4:=Ls (hD.take n);rw[bM,bY aA]at h4;have h3:l.length<=n:=h n aA;omega
theorem _root_.Go.WD.Tm.drop {l:List Nat} (h:Tm l) (hD:Dg l) (k:Nat):Tm (l.drop k):=by
 rcases dV k l.length with hk|hk
 ·obtain⟨n,hn⟩:∃n,l.length=n+1:=⟨l.length-1,aA⟩;refine Tm.of (n:=n-k) (by rw[eU];omega) ?_;rw[aK,cS,<-aK,show k+(n-k)=n from aA];exact h.top hD hn
 ·rw[fK hk];exact Tm.nil
theorem Q4 {X ai Q qi r B k:Nat} (hk:k<32) (hq:qi%2^(k+1)=0) (h:X*2^(32-(k+1))+ai/2^(k+1)=(Q*2^(32-(k+1))+qi/2^(k+1))*B+r):
  X*2^(32-k)+ai/2^k=(Q*2^(32-k)+qi/2^k)*B+(2*r+ai/2^k%2)/\qi%2^k=0:=by
 have e:32-k=(32-(k+1))+1:=aA;have hp:0<2^k:=jL aA;rw[jN 2 k]at hq h;obtain⟨t,rfl⟩:=mF hq;rw[lW t aA,<-Nat.div_div_eq_div_mul]at h;rw[e,jN 2 (32-(k+1)),cY,lW _ hp];refine⟨?_,Nat.mul_mod_right _ _⟩;generalize 2^(32-(k+1))=p at h;generalize ai/2^k=A at h;have e1:X*(p*2)=2*(X*p):=by rw[<-cY,cX]
 have e2:(Q*(p*2)+2*t)*B=2*((Q*p+t)*B):=by rw[<-cY,cX (Q*p),<-eS,cY]
 rw[e1,e2];omega
theorem Q5 {H0 H1 H:PH} {vq vr:Value} {lq lr:List Nat} (hq:Od H0 H1 vq lq) (pY:Pl H0 H1) (hl:Pl H1 H) (hr:Od H1 H vr lr):∃Hr,Pl H0 Hr/\Pl Hr H/\Od Hr H vq lq/\Ds Hr vr lr:=by
 obtain⟨⟨q1,q2⟩,q3⟩:=hq;rcases q2 with⟨rfl,q2⟩|⟨g,cap,cur,rfl,rZ,hg,q4⟩
 ·exact⟨H,pY.trans hl,Pl.refl H,⟨⟨q1,.inl ⟨rfl,q2⟩⟩,q3⟩,hr.ds⟩
 ·refine⟨fun k=>if k=g then none else H k,fun k ob hk=> ?_,fun k ob hk=> ?_,⟨⟨q1,.inr ⟨g,cap,cur,rfl,if_pos rfl,hl _ _ hg,q4⟩⟩,q3⟩,?_⟩
  ·show(if k=g then none else H k)=some ob;rw[if_neg (fun e=>by rw[e,rZ]at hk;cases hk)];exact hl _ _ (pY _ _ hk)
  ·replace hk:(if k=g then none else H k)=some ob:=hk;split at hk
   ·cases hk
   ·exact hk
  ·obtain⟨⟨r1,r2⟩,r3⟩:=hr;rcases r2 with⟨rfl,r2⟩|⟨g',cap',cur',rfl,a2t,hg',r4,r5,r6,r7⟩
   ·have:lr=[]:=aI r2;subst this;exact Ds.nil _
   ·refine⟨⟨r1,_,cap',rfl,r4,r5,.inr ⟨g',0,cur',3,(0,0),rfl,?_,by rw[cH];exact r7⟩⟩,r3⟩;show(if g'=g then none else H g')=some _;rw[if_neg (fun e=>by rw[e,hg]at a2t;cases a2t)];exact hg'
theorem Q6 (a k:Nat) (hk:k<=64):(a:Int).fdiv (2^min k (IntKind.bits .i64))=((a/2^k:Nat):Int):=by
 rw[show min k (IntKind.bits .i64)=k from bY hk,show(2:Int)^k=((2^k:Nat):Int)from aD,Int.fdiv_eq_ediv_of_nonneg _ (Int.natCast_nonneg _)];exact(Int.natCast_ediv a (2^k)).symm
theorem Q7 {k:Nat} (hk:k<32):wQ .i64 (1*2^min k (IntKind.bits .i64))=((2^k:Nat):Int):=by
 have h:2^k<2^32:=dA aA hk;rw[show min k (IntKind.bits .i64)=k from bY (by show k<=64;omega),show(2:Int)^k=((2^k:Nat):Int)from aD,Int.one_mul];exact wn aA
theorem JK (a:Nat):(a:Int).tmod 2=((a%2:Nat):Int):=JF a 2
section
variable {H:PH} {a b:List Nat} {va vb:Value}
set_option maxRecDepth 100000 in
theorem JL (ha:Ds H va a) (hb:Ds H vb b) (ta:Tm a) (tb:Tm b) (sN:0<vl b) (hA:a.length<=10000) (hB:b.length<=10000):
  Con prog 242 [va,vb] H fun u H'=>Pl H H'/\∃q r,u= .tuple #[q,r]/\Nu H' q (vl a/vl b)/\Nu H' r (vl a%vl b):=by
 obtain⟨n,hn⟩:∃n,b.length=n+1:=⟨b.length-1,by have:=tb.pos.2 sN;omega⟩;have hbn:=tb.ge hn;have e1:wQ .i64 (((n+1:Nat):Int)-1)=(n:Int):=by rw[Do aA aA];omega
 refine s9 mixed G6 aB rfl (Ci rfl rfl hb rfl (d4 ⟨_,rfl⟩ (Ci rfl rfl ha rfl (d4 ⟨_,rfl⟩ (g7 (b:=decide (a.length<=n)) ?_ (fun h=> ?_) (fun h=> ?_))))))
 ·simp only[rxs,iv,hn,e1];congr 1;rw[decide_eq_decide];omega
 ·have h:=oDt h;have pX:vl a<vl b:=Tm.lt_of_len ha.2 tb aA;refine IE rfl rfl fun e H1 qR h1=>vo rfl rfl rfl qR h1 (ha.mono qR) (by simp;omega) rfl rfl fun v' H2 rN h2 _=>g6 rfl ⟨rN,_,v',rfl,?_,a,?_,ta,?_⟩
  ·rw[fZ pX];exact Nu.zero _
  ·exact h2.ds
  ·rw[cP pX]
 have h:n<a.length:=by have:=oDf h;omega
 obtain⟨m,hm⟩:∃m,a.length=m+n:=⟨a.length-n,aA⟩;have e2:wQ .i64 (((m+n:Nat):Int)-(n:Int))=(m:Int):=by rw[Do aA aA];omega
 refine Ci rfl rfl ha rfl (d4 ⟨_,rfl⟩ (gz (kl:= .i64) (kc:= .i64) (m:=m) rfl rfl rfl aA (by simp only[rxs,iv,hn,hm,e1,e2]) fun vq H1 qR h1=> ?_));refine IE rfl rfl fun e H2 rN h2=>Ci rfl rfl ((ha.mono qR).mono rN) rfl (d4 ⟨_,rfl⟩ ?_);obtain⟨w8,hw8,hd8⟩:=Ds.drop (i:=m) (k:= .i64) (vs:=[va,.int .i64 (m:Nat)]) ((ha.mono qR).mono rN) G7 rfl rfl aA;refine j7 (hw8.rds _) (by simp only[rxs,iv,hn,hm,e1,e2]) ?_;refine vo rfl rfl rfl rN h2 hd8 (by rw[eU];simp;omega) rfl rfl fun rest H3 tJ h3 rD=> ?_;rw[cB]at h3;simp only[cA,nA];obtain⟨Hr0,r1,r2,r3,r4⟩:=Q5 h1 qR tJ h3;have e3:wQ .i64 ((m:Int)-1)=(m:Int)-1:=Do aA aA;refine Ci rfl rfl r3.ds rfl (d4 ⟨_,rfl⟩ ⟨fun vals H'=>∃(i r:Nat) (rest:Value) (Hr:PH) (lq:List Nat),vals=[rest,.int .i64 ((i:Int)-1)]/\i<=m/\Pl H Hr/\Pl Hr H'/\Od Hr H' vq lq/\lq.length=m/\Nu Hr rest r/\r<vl b/\(∀k,k<i->lq.getD k 0=0)/\vl (a.drop i)=vl (lq.drop i)*vl b+r,fun vals _=>(intOf (vals.getD 1 undef)+1).toNat,⟨m,vl (a.drop m),rest,Hr0,_,?_,aS _,r1,r2,r3,aD,⟨_,r4,ta.drop ha.2 m,rfl⟩,?_,fun k _=>Ov _ k,?_⟩,?_⟩)
 ·simp only[rxs,iv,List.length_replicate,e3]
 ·have:=Ls (ha.2.drop m);rw[eU,hm,Nat.add_sub_cancel_left]at this;omega
 ·rw[fK (l:=List.replicate m 0) aD];simp[vl]
 rintro vals H'-⟨i,r,rest2,Hr,lq,rfl,hi,pY,uJ,hq,hlq,sY,hr,hz,hv⟩;simp only[cA,nA];refine d4 ⟨_,rfl⟩ (g7 (b:=decide ((i:Int)-1≥0)) rfl (fun tA=> ?_) (fun tA=> ?_))
 ·have tA:=oDt tA;obtain⟨j,rfl⟩:∃j,i=j+1:=⟨i-1,aA⟩;have ej:((j+1:Nat):Int)-1=(j:Int):=aA;rw[ej];have dai:=ha.2.at j;have e4:wQ .i64 ((j:Int)-1)=(j:Int)-1:=Do aA aA;refine⟨fun vals H'=>∃(k r:Nat) (rest:Value) (Hr:PH) (lq:List Nat),vals=[rest,.int .i64 ((k:Int)-1)]/\k<=32/\Pl H Hr/\Pl Hr H'/\Od Hr H' vq lq/\lq.length=m/\Nu Hr rest r/\r<vl b/\(∀k,k<j->lq.getD k 0=0)/\lq.getD j 0%2^k=0/\vl (a.drop (j+1))*2^(32-k)+a.getD j 0/2^k=(vl (lq.drop (j+1))*2^(32-k)+lq.getD j 0/2^k)*vl b+r,fun vals _=>(intOf (vals.getD 1 undef)+1).toNat,⟨32,r,rest2,Hr,lq,rfl,aA,pY,uJ,hq,hlq,sY,hr,fun k hk=>hz k aA,?_,?_⟩,?_⟩
  ·rw[hz j aA]
  ·rw[hz j aA,fZ (show a.getD j 0<2^32 from dai),Nat.zero_div,Nat.sub_self,kC,dN,dN,eF,eF];exact hv
  clear hz hv hr sY hq uJ pY hlq;rintro vals H2-⟨k,r,rest3,Hr,lq,rfl,hk,pY,uJ,hq,hlq,sY,hr,hz,xK,hv⟩;simp only[cA,nA];refine d4 ⟨_,rfl⟩ (g7 (b:=decide ((k:Int)-1≥0)) rfl (fun uA=> ?_) (fun uA=> ?_))
  ·have uA:=oDt uA;obtain⟨k,rfl⟩:∃j,k=j+1:=⟨k-1,aA⟩;have ek:((k+1:Nat):Int)-1=(k:Int):=aA;rw[ek];have e5:wQ .i64 ((k:Int)-1)=(k:Int)-1:=Do aA aA;refine Fo (k:= .i64) (j:=j) rfl rfl rfl rfl aE (ha.mono (pY.trans uJ)) aA rfl aE fun p=>d4 ⟨_,rfl⟩ (d4 ⟨_,_,rfl⟩ (d4 ?_ ?_))
   ·show(0:Int)<=(k:Int);omega
   simp only[cA,nA];obtain⟨hs,hm0⟩:=Q4 (k:=k) aA xK hv;generalize sZ:a.getD j 0/2^k%2=bit at hs;have a2u:bit<=1:=aA;obtain⟨lr,hlr,wG,rfl⟩:=sY;have a6z:lr.length<=b.length:=Tm.len_le wG hb.2 aA;refine g9 ((N9 hlr aA a2u).frame uJ) ?_ ?_
   ·simp only[rxs,iv,Q6 _ k aA,JK,sZ]
   rintro u H3 ⟨Hr',⟨s1,s2⟩,s3,s4⟩;have vU:=hq.frame s4;refine nmI ?_;obtain⟨l2,rN,ht2,hv2⟩:=id s2;have yB:Ds Hr' vb b:=hb.mono (pY.trans s1);refine g9 (xd (rN.mono s3) (yB.mono s3) ht2 tb) rfl ?_;rintro c H4 ⟨rfl,c,rfl,sL,rY⟩;refine⟨fun h=>(nomatch h),d4 ⟨_,rfl⟩ (g7 (b:=decide (c≥0)) rfl (fun hc=> ?_) (fun hc=> ?_))⟩
   ·have hc:=oDt hc;have wB:vl b<=vl l2:=aA;have a7a:l2.length<=b.length+1:=ht2 _ (by
     have:=Ls hb.2;rw[BP_succ];omega)
    refine g9 ((iz rN yB wB (Tm.len_le tb rN.2 wB) aA).frame s3) rfl ?_;rintro u2 H5 ⟨Hr2,⟨t1,t2⟩,t3,t4⟩;have wH:=vU.frame t4;refine nmI ?_;refine Fo (k:= .i64) (j:=j) rfl rfl rfl rfl aE wH.ds aA rfl aE fun p2=>d4 ⟨_,rfl⟩ ?_;have dq:=wH.2.at j;have zP:0<2^k:=jL aA;have tY:lq.getD j 0+2^k<4294967296:=by
     have h32:(2:Nat)^(k+1) ∣ 4294967296:=by
      rw[show(4294967296:Nat)=2^32 from rfl];exact Nat.pow_dvd_pow 2 aA
     obtain⟨z1,yG⟩:=h32;obtain⟨z2,uI⟩:=mF xK;rw[uI,yG]at dq;have pX:=Nat.lt_of_mul_lt_mul_left dq;have:=cE (2^(k+1)) (show z2+1<=z1 from pX);rw[eS,dN,<-yG,<-uI,jN]at this;omega
    have e6:wQ .i64 (((lq.getD j 0:Nat):Int)+((2^k:Nat):Int))=((lq.getD j 0+2^k:Nat):Int):=Jg aA;refine Yi (k:= .i64) (j:=j) (d:=lq.getD j 0+2^k) rfl rfl rfl rfl aE aE t3 wH aA tY rfl (fun p=>by simp only[rxs,iv,Q7 (show k<32 by omega),e6]) rfl fun p u3 H6 wI h6 _=>⟨⟨k,vl l2-vl b,u2,Hr2,_,?_,aA,pY.trans (s1.trans t1),wI,h6,by rw[cJ];exact hlq,t2,?_,?_,?_,?_⟩,?_⟩
    ·simp only[rxs,iv,e5]
    ·omega
    ·intro k' qY;rw[Il aA];exact hz k' qY
    ·rw[Yf aA,Nat.add_mod_right];exact hm0
    ·rw[Yf aA,HZ aA,hs,Nat.add_div_right _ zP];have ex:∀A q B:Nat,(A+(q+1))*B=(A+q)*B+B:=fun A q B=>by rw[<-Nat.add_assoc,Nat.succ_mul]
     rw[ex];omega
    ·simp only[rxs,iv,e5];omega
   ·have hc:=oDf hc;refine⟨⟨k,vl l2,u,Hr',lq,?_,aA,pY.trans s1,s3,vU,hlq,hv2 ▸ s2,aA,hz,hm0,?_⟩,?_⟩
    ·simp only[rxs,iv,e5]
    ·rw[hs,hv2]
    ·simp only[rxs,iv,e5];omega
  ·have uA:=oDf uA;have zK:k=0:=aA;subst zK;refine⟨⟨j,r,rest3,Hr,lq,?_,aA,pY,uJ,hq,hlq,sY,hr,hz,?_⟩,?_⟩
   ·simp only[rxs,iv,e4]
   ·rw[HW aA,HW (l:=lq) aA];rw[kC,pL,pL,Nat.sub_zero]at hv;rw[cX 4294967296,cX 4294967296,fL,fL (lq.getD j 0)];exact hv
   ·simp only[rxs,iv,e4];omega
 ·have tA:=oDf tA;have hi0:i=0:=aA;subst hi0;rw[cH,cH]at hv;refine g9 (Yq hq.ds) rfl ?_;rintro u H5 ⟨rfl,hu⟩;refine⟨fun h=>(nomatch h),g6 rfl ⟨pY.trans uJ,u,rest2,rfl,?_,?_⟩⟩
  ·rw[hv,fL,Nat.add_mul_div_right _ _ sN,fZ hr,bK];exact hu
  ·rw[hv,fL,eB,cP hr];exact sY.mono uJ
end
end Go.Z

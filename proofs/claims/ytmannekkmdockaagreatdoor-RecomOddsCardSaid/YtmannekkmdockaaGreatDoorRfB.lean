/- Trees of functions. -/
import Derived.Test.YtmannekkmdockaaGreatDoorRfA
import Derived.Test.YtmannekkmdockaaGreatDoorRxV
open Array renaming ext'->nF,range->jY
namespace Go.Z
open Proofs.Tryz RowKit RX
theorem F6:tree prog [] [] [⟨3,2,[15],[]⟩,⟨0,2,[],[]⟩] [] 220=some (.pm f220 1 1 [V0]
(.loop [V1]
(.join 1
(.ri V2
(.br (.io .gtr V2 (.ki 0))
(.pm f220 2 6 [V0,(.io .sub V2 (.ki 1))]
(.pm f220 2 7 [V3]
(.ri V4
(.next 1 [(.io .eql V4 (.ki 0))])))) (.next 1 [kF])))
(.rb V3
(.br V3
(.ri V2
(.next 0 [(.io .sub V2 (.ki 1))]))
(.pm f220 4 2 [V0,V2]
(.ret [V4]))))))):=aB
theorem F7:(opr f220 4 2).op= .slice 32 (.tmp 18) none (some (.tmp 19)) none:=aB
theorem F8:tree prog [] [] [] [] 213=some (.cf 220 [V1]
(.rb V0
(.br V0
(.pm f213 2 3 [V2]
(.ri V3
(.cq 1 V2
(.ret [(.cat (.io .gtr V3 (.ki 0)) 1 V2)]))))
(.cq 1 V2
(.ret [(.cat kF 1 V2)]))))):=aB
theorem F9:tree prog [] [] [⟨3,4,[27],[]⟩,⟨2,32,[6],[]⟩,⟨0,13,[],[2]⟩] [⟨15,[0,1,0,4,12,28,0,0,192,448,960,0,2048,6144,16320,32764,65535,131071],[0,0,0,0,1,1,0,0,1,1,0,0,0,0,0,0,1,4],[0,0,0,0,0,0,0,0,0,0,0,0,0,0,0,0,0,0],[0,1,2,3,4,5,6,7,8,9,10,11,12,13,14,15,16],[17]⟩] 100=some (.cq 2 V0
(.ef false f100 1 0 [(.ki 16),(.ki 16)]
(.pm f100 2 1 [V1,(.ki 15)]
(.ef false f100 2 2 [V2,(.ki 2147483648)]
(.cf 172 [(.cn V0 1),V1]
(.join 1
(.ri V4
(.br (.io .gtr V4 (.ki 0)) (.next 0 [kT]) (.br (.io .eql V4 (.ki 0))
(.rb (.cn V0 0) (.next 0 [(.nt (.cn V0 0))])) (.next 0 [kF]))))
(.rb V5
(.br V5
(.ret [(.z 56),(.ki 6)]) (.join 1
(.rb (.cn V0 0) (.br (.cn V0 0)
(.ef false f100 8 0 [(.ki 17),(.ki 17)]
(.pm f100 9 1 [V6,(.ki 16)]
(.ef false f100 9 2 [V7,(.ki 1)]
(.cf 173 [V6,(.cn V0 1)]
(.next 0 [V9]))))) (.next 0 [(.cn V0 1)]))) (.loop [(.ki 0),(.z 56)]
(.pm f100 13 2 [V6]
(.ri V7
(.ri V9
(.br (.io .lss V7 V9) (.rq (.lt 8 (.io .quo V7 (.ki 2)))
(.pm f100 15 8 [V6,V7]
(.pm f100 15 9 [V10]
(.ri V11
(.rq (.nn (.io .mul (.ki 32) (.io .rem V7 (.ki 2)))) (.rq (.int .u64 (.cell V8 0 1 (.io .quo V7 (.ki 2)))) (.next 0 [(.io .add V7 (.ki 1)),(.put V8 0 1 (.uo .add (.cell V8 0 1 (.io .quo V7 (.ki 2))) (.uo .shl (.cv .u64 V11) (.io .mul (.ki 32) (.io .rem V7 (.ki 2))))) 1 (.io .quo V7 (.ki 2)))]))))))) (.ret [(.ag V8),(.ki 0)]))))))))))))))):=aB
theorem G0:tree prog [] [] [⟨2,9,[4],[]⟩] [] 163=some (.ri V0
(.join 1
(.br (.io .lss V0 (.ki 0)) (.next 0 [(.op1 .neg .u64 (.cv .u64 V0))]) (.next 0 [(.cv .u64 V0)]))
(.ru V1
(.ef false f163 5 7 [(.cv .i64 (.uo .rem V1 (kU 4294967296))),(.cv .i64 (.uo .quo V1 (kU 4294967296)))]
(.cf 213 [(.io .lss V0 (.ki 0)),V2]
(.cq 2 V3
(.ret [(.ag V3)]))))))):=aB
theorem G1:tree prog [] [] [⟨0,4,[],[]⟩] [⟨6,[0,0,3,7,0,0,48,112,255],[0,0,1,1,0,0,1,1,0],[0,0,0,0,0,0,0,0,0],[0,1,2,3,4,5,6,7,8],[]⟩,⟨7,[0,0,3,7,0,0,48,112,255,511],[0,0,1,1,0,0,1,1,0,0],[0,0,0,0,0,0,0,0,0,0],[0,1,2,3,4,5,6,7,8,9],[]⟩] 172=some (.pm f172 1 1 [V0]
(.pm f172 1 3 [V1]
(.ri V2
(.ri V3
(.br (.io .neq V2 V3)
(.pm f172 2 1 [V0]
(.pm f172 2 3 [V1]
(.ri V4
(.ri V5
(.ret [(.io .sub V4 V5)])))))
(.pm f172 3 1 [V0]
(.ri V4
(.loop [(.ki 0),(.io .sub V4 (.ki 1))]
(.ri V6
(.br (.io .geq V6 (.ki 0))
(.pm f172 6 2 [V0,V6]
(.pm f172 6 3 [V7]
(.pm f172 6 6 [V1,V6]
(.pm f172 6 7 [V9]
(.ri V8
(.ri V10
(.br (.io .neq V8 V10)
(.pm f172 7 2 [V0,V6]
(.pm f172 7 3 [V11]
(.pm f172 7 6 [V1,V6]
(.pm f172 7 7 [V13]
(.ri V12
(.ri V14
(.ret [(.io .sub V12 V14)]))))))) (.next 0 [V5,(.io .sub V6 (.ki 1))])))))))) (.ret [(.ki 0)]))))))))))):=aB
theorem G2:tree prog [] [] [⟨3,4,[21],[]⟩,⟨2,27,[6],[]⟩,⟨2,37,[6],[]⟩,⟨0,4,[],[]⟩] [] 266=some (.loop [(.k (.slice none 0 0)),(.ki 0),(.ki 0)]
(.join 1
(.pm f266 4 2 [V0]
(.ri V4
(.ri V5
(.br (.io .lss V4 V5) (.next 1 [kT])
(.pm f266 4 7 [V1]
(.ri V6
(.br (.io .lss V4 V6) (.next 1 [kT])
(.ri V3
(.next 1 [(.io .gtr V3 (.ki 0))])))))))))
(.rb V5
(.br V5
(.pm f266 6 2 [V0]
(.ri V4
(.ri V6
(.join 1
(.br (.io .lss V4 V6)
(.pm f266 7 3 [V0,V4]
(.pm f266 7 4 [V7]
(.ri V3
(.ri V8
(.next 1 [(.io .add V3 V8)]))))) (.next 1 [V3]))
(.pm f266 8 2 [V1]
(.ri V8
(.join 1
(.br (.io .lss V4 V8)
(.pm f266 9 3 [V1,V4]
(.pm f266 9 4 [V9]
(.ri V7
(.ri V10
(.next 1 [(.io .add V7 V10)]))))) (.next 1 [V7]))
(.ri V9
(.ef false f266 10 3 [(.io .rem V9 (.ki 4294967296))]
(.ef false f266 10 4 [V2,V10]
(.next 0 [V11,(.io .quo V9 (.ki 4294967296)),(.io .add V4 (.ki 1))]))))))))))) (.ret [V2]))))):=aB
theorem G3:tree prog [] [] [⟨2,24,[8],[]⟩,⟨2,32,[8,6],[]⟩,⟨0,4,[],[]⟩] [] 173=some (.loop [(.ki 0),(.k (.slice none 0 0)),(.ki 0)]
(.pm f173 4 2 [V0]
(.ri V4
(.ri V5
(.br (.io .lss V4 V5)
(.pm f173 6 2 [V0,V4]
(.pm f173 6 3 [V6]
(.ri V7
(.ri V2
(.pm f173 7 2 [V1]
(.ri V8
(.join 1
(.br (.io .lss V4 V8)
(.pm f173 8 3 [V1,V4]
(.pm f173 8 4 [V9]
(.ri V10
(.next 1 [(.io .sub (.io .sub V7 V2) V10)])))) (.next 1 [(.io .sub V7 V2)]))
(.ri V9
(.join 2
(.br (.io .lss V9 (.ki 0)) (.next 1 [(.io .add V9 (.ki 4294967296)),(.ki 1)]) (.next 1 [V9,(.ki 0)]))
(.ef false f173 13 2 [V10]
(.ef false f173 13 3 [V3,V12]
(.next 0 [V11,V13,(.io .add V4 (.ki 1))]))))))))))))
(.cf 220 [V3]
(.ret [V6]))))))):=aB
@[reducible] def IC:SV:= .uo .add (.uo .add V7 (.cv .u64 V11)) (.uo .mul (.cv .u64 V13) (.cv .u64 V15))
theorem G4:tree prog [] [] [⟨0,3,[],[]⟩,⟨0,7,[],[]⟩] [⟨9,[0,0,0,0,12,30,62,126,255,0,0,1536,3584,7680,0,0,49152,114688,245760,523776,1048575,2097151],[0,0,0,0,0,1,1,0,0,0,0,1,1,0,0,0,1,1,0,0,0,0],[0,0,0,0,0,0,0,0,0,0,0,0,0,0,0,0,0,0,0,0,0,0],[0,1,2,3,4,5,6,7,8,9,10,11,12,13,14,15,16,17,18,19,20,21],[]⟩] 247=some (.pm f247 1 1 [V0]
(.pm f247 1 3 [V1]
(.ri V2
(.ri V3
(.ef false f247 1 5 [(.io .add V2 V3),(.io .add V2 V3)]
(.loop [(.ki 0)]
(.pm f247 3 2 [V0]
(.ri V5
(.ri V6
(.br (.io .lss V5 V6) (.loop [(kU 0),(.ki 0)]
(.pm f247 7 2 [V1]
(.ri V8
(.ri V9
(.br (.io .lss V8 V9)
(.pm f247 9 5 [V4,(.io .add V5 V8)]
(.pm f247 9 6 [V10]
(.ri V11
(.ru V7
(.pm f247 9 11 [V0,V5]
(.pm f247 9 12 [V12]
(.ri V13
(.pm f247 9 16 [V1,V8]
(.pm f247 9 17 [V14]
(.ri V15
(.pm f247 10 7 [V4,(.io .add V5 V8)]
(.ef false f247 10 8 [V16,(.cv .i64 (.uo .rem IC (kU 4294967296)))]
(.next 1 [(.uo .quo IC (kU 4294967296)),(.io .add V8 (.ki 1))])))))))))))))
(.pm f247 12 3 [V1]
(.ri V10
(.ru V7
(.pm f247 12 7 [V4,(.io .add V5 V10)]
(.ef false f247 12 8 [V11,(.cv .i64 V7)]
(.next 0 [(.io .add V5 (.ki 1))])))))))))))
(.cf 220 [V4]
(.ret [V7])))))))))))):=aB
theorem G5:tree prog [] [] [⟨0,3,[],[]⟩] [] 265=some (.loop [(.k (.slice none 0 0)),V1,(.ki 0)]
(.pm f265 3 2 [V0]
(.ri V4
(.ri V5
(.br (.io .lss V4 V5)
(.pm f265 5 2 [V0,V4]
(.pm f265 5 3 [V6]
(.ri V7
(.ri V3
(.ef false f265 6 3 [(.io .rem (.io .add (.io .mul (.ki 2) V7) V3) (.ki 4294967296))]
(.ef false f265 6 4 [V2,V8]
(.next 0 [V9,(.io .quo (.io .add (.io .mul (.ki 2) V7) V3) (.ki 4294967296)),(.io .add V4 (.ki 1))])))))))
(.ef false f265 8 2 [V3]
(.ef false f265 8 3 [V2,V6]
(.cf 220 [V7]
(.ret [V8]))))))))):=aB
theorem G6:tree prog [] [] [⟨0,7,[],[]⟩,⟨0,10,[],[]⟩] [⟨15,[0,0,0,0,12,28,0,64,252,511,1023],[0,0,0,0,1,1,0,0,0,1,4],[0,0,0,0,0,0,0,0,0,0,0],[0,1,2,3,4,5,6,7,8,9],[10]⟩] 242=some (.pm f242 1 1 [V1]
(.ri V2
(.pm f242 2 1 [V0]
(.ri V3
(.br (.io .leq V3 (.io .sub V2 (.ki 1)))
(.ef false f242 3 0 []
(.ef false f242 3 2 [V4,V0]
(.ret [(.k (.slice none 0 0)),V5])))
(.pm f242 4 1 [V0]
(.ri V4
(.ef false f242 4 4 [(.io .sub V4 (.io .sub V2 (.ki 1))),(.io .sub V4 (.io .sub V2 (.ki 1)))]
(.ef false f242 5 0 []
(.pm f242 5 3 [V0]
(.ri V7
(.pm f242 5 6 [V0,(.io .sub V7 (.io .sub V2 (.ki 1)))]
(.ef false f242 5 7 [V6,V8]
(.pm f242 6 1 [V5]
(.ri V10
(.loop [V9,(.io .sub V10 (.ki 1))]
(.ri V12
(.br (.io .geq V12 (.ki 0)) (.loop [V11,(.ki 31)]
(.ri V14
(.br (.io .geq V14 (.ki 0))
(.pm f242 12 3 [V0,V12]
(.pm f242 12 4 [V15]
(.ri V16
(.rq (.num V14) (.rq (.nn V14)
(.cf 265 [V13,(.io .rem (.io .shr V16 V14) (.ki 2))]
(.cf 172 [V17,V1]
(.ri V18
(.br (.io .geq V18 (.ki 0))
(.cf 173 [V17,V1]
(.pm f242 15 4 [V5,V12]
(.pm f242 15 5 [V20]
(.ri V21
(.pm f242 15 9 [V5,V12]
(.ef false f242 15 10 [V22,(.io .add V21 (.io .shl (.ki 1) V14))]
(.next 1 [V19,(.io .sub V14 (.ki 1))]))))))) (.next 1 [V17,(.io .sub V14 (.ki 1))])))))))))) (.next 0 [V13,(.io .sub V12 (.ki 1))]))))
(.cf 220 [V5]
(.ret [V13,V11])))))))))))))))))))):=aB
theorem G7:(opr f242 5 6).op= .slice 32 (.tmp 27) (some (.tmp 31)) none none:=aB
theorem G8:tree prog [] [] [] [] 211=some (.cq 2 V0
(.rb (.cn V0 0)
(.cf 213 [(.nt (.cn V0 0)),(.cn V0 1)]
(.cq 2 V1
(.ret [(.ag V1)]))))):=aB
theorem G9:tree prog [] [] [] [⟨2,[0,1,0,4,0,16,60,127,255],[1,1,1,1,1,1,2,2,6],[0,0,0,0,0,0,0,0,2],[0,1,2,3,4,5,6,7],[8]⟩,⟨4,[0,1,0,4,0,16,60,127,255],[1,1,1,1,1,1,2,2,6],[0,0,0,0,0,0,0,0,2],[0,1,2,3,4,5,6,7],[8]⟩,⟨5,[0,1,0,4,0,16,60,127,255],[1,1,1,1,1,1,2,2,6],[0,0,0,0,0,0,0,0,2],[0,1,2,3,4,5,6,7],[8]⟩] 243=some (.cq 2 V0
(.cq 2 V1
(.rb (.cn V0 0)
(.rb (.cn V1 0) (.br (.eqb false (.cn V0 0) (.cn V1 0))
(.ct 266 [(.cn V0 1),(.cn V1 1)]
(.ct 213 [(.cn V0 0),V2]
(.cq 2 V3
(.ret [(.ag V3)]))))
(.cf 172 [(.cn V0 1),(.cn V1 1)]
(.ri V2
(.br (.io .geq V2 (.ki 0))
(.ct 173 [(.cn V0 1),(.cn V1 1)]
(.ct 213 [(.cn V0 0),V3]
(.cq 2 V4
(.ret [(.ag V4)]))))
(.ct 173 [(.cn V1 1),(.cn V0 1)]
(.ct 213 [(.cn V1 0),V3]
(.cq 2 V4
(.ret [(.ag V4)])))))))))))):=aB
theorem I0:tree prog [] [] [] [⟨1,[0,0,2,7,15],[5,5,2,2,6],[0,1,0,0,2],[0,1,2,3],[4]⟩] 244=some (.cq 2 V0
(.cq 2 V1
(.ct 211 [(.ag V1)]
(.ct 243 [(.ag V0),V2]
(.cq 2 V3
(.ret [(.ag V3)])))))):=aB
theorem I1:tree prog [] [] [] [⟨1,[0,1,0,4,15,0,32,0,128,480,1023,2047],[1,1,1,1,0,1,1,1,1,2,2,6],[0,0,0,0,0,0,0,0,0,0,0,2],[0,1,2,3,4,5,6,7,8,9,10],[11]⟩] 219=some (.cq 2 V0
(.cq 2 V1
(.rb (.cn V0 0)
(.rb (.cn V1 0)
(.ct 247 [(.cn V0 1),(.cn V1 1)]
(.ct 213 [(.eqb true (.cn V0 0) (.cn V1 0)),V2]
(.cq 2 V3
(.ret [(.ag V3)])))))))):=aB
theorem I2:tree prog [] [] [] [⟨2,[0,1,0,4,15,0,63,0,128,0,1023,0,0,8191,16383],[1,1,1,1,0,0,2,1,1,0,2,3,3,4,4],[0,0,0,0,0,0,0,0,0,0,0,0,0,0,0],[0,1,2,3,4,5,7,8,9,6,10,11,12],[13,14]⟩,⟨6,[0,0,3,7],[5,2,2,6],[4,0,0,4],[0,1,2],[3]⟩,⟨7,[0,0,3,7],[5,2,2,6],[4,0,0,4],[0,1,2],[3]⟩,⟨8,[0,0,1,7],[5,5,6,6],[4,5,2,3],[0,1],[2,3]⟩] 212=some (.cq 2 V0
(.cq 2 V1
(.cf 242 [(.cn V0 1),(.cn V1 1)]
(.tq 0 V2
(.tq 1 V2
(.rb (.cn V0 0)
(.rb (.cn V1 0)
(.ct 213 [(.eqb true (.cn V0 0) (.cn V1 0)),(.pj V2 0)]
(.ct 213 [(.cn V0 0),(.pj V2 1)]
(.cq 2 V3
(.cq 2 V4
(.rb (.cn V4 0) (.br (.cn V4 0)
(.cq 1 (.cn V1 1)
(.cf 243 [(.ag V4),(.cat (.z 4) 1 (.cn V1 1))]
(.cq 2 V5
(.br (.cn V1 0)
(.ct 163 [(.ki 1)]
(.ct 243 [(.ag V3),V6]
(.cq 2 V7
(.ret [(.ag V7),(.ag V5)]))))
(.ct 163 [(.ki 1)]
(.ct 244 [(.ag V3),V6]
(.cq 2 V7
(.ret [(.ag V7),(.ag V5)])))))))) (.ret [(.ag V3),(.ag V4)])))))))))))))):=aB
theorem I3:tree prog [] [] [⟨0,2,[],[]⟩] [⟨1,[0,1,0,4,3,31],[1,1,1,1,0,0],[0,0,0,0,0,0],[0,1,2,3,4,5],[]⟩] 210=some (.cq 2 V0
(.cq 2 V1
(.loop [(.cn V0 1),(.cn V1 1)]
(.pm f210 2 1 [V3]
(.ri V4
(.br (.io .gtr V4 (.ki 0))
(.cf 242 [V2,V3]
(.tq 0 V5
(.tq 1 V5
(.next 0 [V3,(.pj V5 1)]))))
(.cq 1 V2
(.ret [(.cat (.z 4) 1 V2)])))))))):=aB
end Go.Z
namespace Go.RX
open RowKit
theorem Con.frame {P:Program} {f:FuncId} {args:List Value} {Hr H:PH} {V:Value->PH->Prop} (h:Con P f args Hr V) (pY:Pl Hr H):
  Con P f args H fun u H'=>∃Hr',V u Hr'/\Pl Hr' H'/\∀k ob,H k=some ob->Hr k=none->Hr' k=none/\H' k=some ob:=fun w hw=>by
 refine(h w (pY.In hw)).mono ?_;rintro e w' ⟨v,Hr',he,hs,hV⟩;have none_of:∀k ob,H k=some ob->Hr k=none->Hr' k=none:=fun k ob hk hr=>by
  cases e2:Hr' k with
  |none=>rfl
  |some o2=>
   have h2:=Di (hw _ _ hk);rcases hs.dom k (by simp[e2])with h3|h3
   ·exact absurd hr h3
   ·omega
 refine⟨v,fun k=>match Hr' k with|some o=>some o|none=>if Hr k=none then H k else none,he,⟨hs.os,hs.tape,hs.output,hs.size,fun k hk hn=> ?_,fun k ob hk=> ?_,fun k hk=> ?_,hs.dr⟩,Hr',hV,fun k ob hk=> ?_,fun k ob hk hr=>⟨none_of k ob hk hr,?_⟩⟩
 ·refine hs.block k hk ?_;cases e2:Hr k with
  |none=>rfl
  |some o2=>rw[pY _ _ e2]at hn;cases hn
 ·cases e2:Hr' k with
  |some o2=>simp only[e2]at hk;cases hk;exact hs.holds _ _ e2
  |none=>
   simp only[e2]at hk;split at hk
   ·rename_i hr;rw[hs.block k (Di (hw _ _ hk)) hr];exact hw _ _ hk
   ·cases hk
 ·cases e2:Hr' k with
  |some o2=>
   rcases hs.dom k (by simp[e2])with h3|h3
   ·refine .inl fun hn=>h3 ?_;cases e3:Hr k with
    |none=>rfl
    |some o3=>rw[pY _ _ e3]at hn;cases hn
   ·exact .inr h3
  |none=>
   simp only[e2]at hk;split at hk
   ·exact .inl hk
   ·exact absurd rfl hk
 ·simp only[hk]
 ·simp only[none_of k ob hk hr,hr,if_true,hk]
theorem OwS.frame {Hr H Hr' H':PH} {e:TypeId} {sz n:Nat} {v:Value} {xs:List Value} (h:OwS Hr H e sz v n xs) (hk:∀k ob,H k=some ob->Hr k=none->Hr' k=none/\H' k=some ob):OwS Hr' H' e sz v n xs:=by
 obtain⟨h1,h2|⟨g,cap,cur,h2,h3,h4,h5⟩⟩:=h
 ·exact⟨h1,.inl h2⟩
 ·exact⟨h1,.inr ⟨g,cap,cur,h2,(hk _ _ h4 h3).1,(hk _ _ h4 h3).2,h5⟩⟩
end Go.RX
namespace Go.Z
open Proofs.Tryz RowKit RX WD
def iv (d:Nat):Value:= .int .i64 (d:Nat)
theorem ID (f:Nat->Value):(jY (1*1)).map f= #[f 0]:=by
 apply nF;simp
theorem I4 (f:Nat->Value):(jY (2*1)).map f= #[f 0,f 1]:=by
 apply nF;simp[List.range_succ]
theorem I5 (f:Nat->Value) (d:Nat):Instr.fill (fun j=>some (j*1,1)) ((jY (1*1)).map f) [(0,iv d)]=some #[iv d]:=by
 rw[ID];simp[Instr.fill,iv,fw]
theorem I6 (f:Nat->Value) (d e:Nat):Instr.fill (fun j=>some (j*1,1)) ((jY (2*1)).map f) [(0,iv d),(1,iv e)]=some #[iv d,iv e]:=by
 rw[I4];simp[Instr.fill,iv,fw]
def Ds (H:PH) (v:Value) (l:List Nat):Prop:=Sl H 1 v l.length (l.map iv)/\Dg l
def Od (H0 H:PH) (v:Value) (l:List Nat):Prop:=OwS H0 H 3 1 v l.length (l.map iv)/\Dg l
theorem Ds.mono {H H':PH} {v:Value} {l:List Nat} (h:Ds H v l) (hl:Pl H H'):Ds H' v l:=⟨h.1.mono hl,h.2⟩
theorem Od.mono {H0 H H':PH} {v:Value} {l:List Nat} (h:Od H0 H v l) (hl:Pl H H'):Od H0 H' v l:=⟨h.1.mono hl,h.2⟩
theorem Od.ds {H0 H:PH} {v:Value} {l:List Nat} (h:Od H0 H v l):Ds H v l:=⟨h.1.sl,h.2⟩
theorem Od.nil (H0 H:PH):Od H0 H (.slice none 0 0) []:=⟨OwS.nil H0 H _ 1,Dg.nil⟩
theorem Ds.nil (H:PH):Ds H (.slice none 0 0) []:=(Od.nil H H).ds
def Nu (H:PH) (v:Value) (n:Nat):Prop:=∃l,Ds H v l/\Tm l/\vl l=n
theorem Nu.mono {H H':PH} {v:Value} {n:Nat} (h:Nu H v n) (hl:Pl H H'):Nu H' v n:=by
 obtain⟨l,h1,h2⟩:=h;exact⟨l,h1.mono hl,h2⟩
theorem Nu.zero (H:PH):Nu H (.slice none 0 0) 0:=⟨[],Ds.nil H,Tm.nil,rfl⟩
theorem Ds.cells {H:PH} {v:Value} {l:List Nat} (h:Ds H v l):v.cells= #[v]:=by
 obtain⟨⟨_,a,c,h2,_⟩,_⟩:=h;rw[h2];rfl
theorem Ds.one {H:PH} {v:Value} {l:List Nat} (h:Ds H v l):v.cells.size=1/\o0 v.cells:=by
 rw[h.cells];obtain⟨⟨_,a,c,h2,_⟩,_⟩:=h;refine⟨rfl,fun c hc=> ?_⟩;simp at hc;rw[hc,h2];rfl
theorem I7 {l:List Nat} {i:Nat} (h:i<l.length):((l.map iv).drop (i*1)).take 1=[iv (l.getD i 0)]:=by
 rw[dN,<-List.map_drop,Ou h];rfl
theorem Ui:prog.cellsOf 3=1:=aB
theorem Uj:w9 prog 3=true:=aB
theorem I8:An prog 3=false:=aB
theorem Jf:prog.underlying 32=some (.slice 3):=aB
theorem Yh:∃i,prog.info? 3=some i/\i.zero=some (.int .i64 0)/\i.size=1/\i.bytes=8:=by
 refine⟨(prog.info? 3).getD default,aB,aB,aB,aB⟩
section
variable {G:Value->PH->Prop} {nx:List (List Value->PH->Prop)} {ρ:List Value} {H H0:PH} {o o1 o2:Oper} {x y x2 y2:Operand} {id i id2 i2:Nat} {args args2:List SV} {t:Tree} {v:Value} {l:List Nat}
theorem Ci (ho:o.op= .call ⟨.builtin .len,#[x],#[32]⟩) (hx:g8 [x] [v] x=v) (h:Ds H v l) (ha:args.map (D prog ρ)=[v]) (n:den prog G t nx (ρ++[iv l.length]) H):den prog G (.prim id i o args t) nx ρ H:=
 j7 ((uw ho hx Jf h.1).rds H) ha n
theorem Fo {k:IntKind} {j:Nat} (sR:o1.op= .indexAddr 32 x y) (sS:o2.op= .load 3 x2) (hx:g8 [x,y] [v,.int k (j:Nat)] x=v) (hy:g8 [x,y] [v,.int k (j:Nat)] y= .int k (j:Nat)) (rG:∀p,g8 [x2] [p] x2=p) (h:Ds H v l) (hj:j<l.length)
  (ha:args.map (D prog ρ)=[v,.int k (j:Nat)]) (rI:∀p,args2.map (D prog (ρ++[p]))=[p]) (n:∀p,den prog G t nx (ρ++[p]++[iv (l.getD j 0)]) H):den prog G (.prim id i o1 args (.prim id2 i2 o2 args2 t)) nx ρ H:=by
 obtain⟨b,q,cs,T',fz,h1,h2,h3,h4⟩:=ux (P:=prog) sR hx hy Jf Uj Ui Nat.zero_lt_one h.1 hj;rw[I7 hj]at h4;exact j7 (h1.rds H) ha (j7 (gf sS (rG _) h2 Uj I8 Ui h3 h4) (rI _) (n _))
theorem Yi {k:IntKind} {j d:Nat} {pf:Bool} (sR:o1.op= .indexAddr 32 x y) (sS:o2.op= .store 3 x2 y2) (hx:g8 [x,y] [v,.int k (j:Nat)] x=v) (hy:g8 [x,y] [v,.int k (j:Nat)] y= .int k (j:Nat)) (rG:∀p,g8 [x2,y2] [p,iv d] x2=p) (vL:∀p,g8 [x2,y2] [p,iv d] y2=iv d)
  (pY:Pl H0 H) (h:Od H0 H v l) (hj:j<l.length) (hd:d<4294967296) (ha:args.map (D prog ρ)=[v,.int k (j:Nat)]) (rI:∀p,args2.map (D prog (ρ++[p]))=[p,iv d]) (uT:pf=false)
  (n:∀p u H',Pl H0 H'->Od H0 H' v (l.set j d)->(∃g ob,H0 g=none/\H'=H.put g ob)->den prog G t nx (ρ++[p]++[u]) H'):den prog G (.prim id i o1 args (.eff pf id2 i2 o2 args2 t)) nx ρ H:=by
 obtain⟨⟨qD,hv⟩,hD⟩:=h;rcases hv with⟨_,h0⟩|⟨g,cap,cur,rfl,rZ,hg,hnc,uC,qM,vA⟩
 ·omega
 rw[dN]at qM vA;have xY:=Xz (P:=prog) (m:=(j:Int)) (n:=l.length) sR hx hy Jf Uj aA aA;rw[aV,Ui,bK,dN]at xY;refine j7 (xY.rds H) ha (t7 (Uf sS (rG _) (vL _) hg Uj (by rw[Ui];omega) (by rw[Ui];rfl) (vf _ _)) (rI _) ?_);rintro u H' ⟨rfl,rfl⟩;subst uT;have uH:(iv d).cells.toList=[iv d]:=rfl;rw[uH];refine⟨fun h=>(nomatch h),n _ _ _ ?_ ⟨⟨aD,.inr ⟨g,cap,_,by rw[cJ],rZ,PH.put_self _ _ _,by rw[cJ];exact hnc,uC,?_,?_⟩⟩,hD.set j hd⟩ ⟨g,_,rZ,rfl⟩⟩
 ·intro k ob hk;rw[PH.put_ne _ _ (fun e=>by rw[e,rZ]at hk;cases hk)];exact pY _ _ hk
 ·show(cur.setIfInBounds j (iv d)).size=_;rw[Array.size_setIfInBounds,qM,dN]
 ·show(cur.setIfInBounds j (iv d)).toList.take _=_;rw[Array.toList_setIfInBounds,dN,cJ,List.take_set,vA,List.map_set]
theorem gy {g n:Nat} {cs:Array Value} {l:List Nat} (hg:H g=none) (hl:l.length=n) (hn:n<=maxLen) (hc:cs.toList=l.map iv) (hD:Dg l):Od H (H.put g (.cells cs 3 (0,0))) (.slice (some ⟨g,0,none⟩) n n) l:=by
 have hs:cs.size=n:=by rw[<-dC,hc,aX,hl]
 refine⟨⟨aD,.inr ⟨g,n,cs,by rw[hl],hg,PH.put_self _ _ _,aA,hn,aA,?_⟩⟩,hD⟩;rw[hc,aF aD]
theorem gz {kl kc:IntKind} {pf:Bool} {m:Nat} (ho:o.op= .makeSlice 32 x y) (hx:g8 [x,y] [.int kl (m:Nat),.int kc (m:Nat)] x= .int kl (m:Nat)) (hy:g8 [x,y] [.int kl (m:Nat),.int kc (m:Nat)] y= .int kc (m:Nat)) (hm:m<=1000000) (ha:args.map (D prog ρ)=[.int kl (m:Nat),.int kc (m:Nat)])
  (n:∀v H',Pl H H'->Od H H' v (List.replicate m 0)->den prog G t nx (ρ++[v]) H'):den prog G (.eff pf id i o args t) nx ρ H:=by
 obtain⟨ti,h1,h2,h3,h4⟩:=Yh;refine t7 (gg ho hx hy Jf h1 h2 h3 (by rw[h4];omega) (by simp only[maxLen];omega)) ha ?_;rintro v H' ⟨g,hg,rfl,rfl⟩;refine⟨fun _=>PH.le_put hg _,n _ _ (PH.le_put hg _) (gy hg aD (by simp only[maxLen];omega) ?_ (Dg.zeros m))⟩;rw[dN];show(madeCells #[.int .i64 0] m).toList=_;apply bG;intro j;rw[bO,dX];simp only[madeCells,Array.toList_map,bO,Array.toList_range];by_cases hj:j<m
 ·simp[hj,Nat.mod_one,iv]
 ·simp[hj]
theorem I9 {d:Nat} {pf:Bool} (ho:o.op= .buildSlice 32 1 #[(0,x)]) (hx:g8 [x] [iv d] x=iv d) (hd:d<4294967296) (ha:args.map (D prog ρ)=[iv d])
  (n:∀v H',Pl H H'->Od H H' v [d]->den prog G t nx (ρ++[v]) H'):den prog G (.eff pf id i o args t) nx ρ H:=by
 obtain⟨ti,h1,h2,h3,h4⟩:=Yh;refine t7 (gh (cells:= #[iv d]) ho Jf h1 h2 (by rw[h3];decide) (by rw[h3];decide) (by rw[h3];simp only[aN,bJ,hx];exact I5 _ d)) ha ?_;rintro v H' ⟨g,hg,rfl,rfl⟩;exact⟨fun _=>PH.le_put hg _,n _ _ (PH.le_put hg _) (gy hg rfl (by simp only[maxLen];omega) rfl (Dg.one hd))⟩
theorem J0 {d e:Nat} {pf:Bool} (ho:o.op= .buildSlice 32 2 #[(0,x),(1,y)]) (hx:g8 [x,y] [iv d,iv e] x=iv d) (hy:g8 [x,y] [iv d,iv e] y=iv e) (hd:d<4294967296) (he:e<4294967296) (ha:args.map (D prog ρ)=[iv d,iv e])
  (n:∀v H',Pl H H'->Od H H' v [d,e]->den prog G t nx (ρ++[v]) H'):den prog G (.eff pf id i o args t) nx ρ H:=by
 obtain⟨ti,h1,h2,h3,h4⟩:=Yh;refine t7 (gh (cells:= #[iv d,iv e]) ho Jf h1 h2 (by rw[h3];decide) (by rw[h3];decide) (by rw[h3];simp only[aN,bJ,hx,hy];exact I6 _ d e)) ha ?_;rintro v H' ⟨g,hg,rfl,rfl⟩;exact⟨fun _=>PH.le_put hg _,n _ _ (PH.le_put hg _) (gy hg rfl (by simp only[maxLen];omega) rfl ((Dg.one hd).append (Dg.one he)))⟩
theorem IE {pf:Bool} (ho:o.op= .buildSlice 32 0 #[]) (ha:args.map (D prog ρ)=[])
  (n:∀v H',Pl H H'->Od H H' v []->den prog G t nx (ρ++[v]) H'):den prog G (.eff pf id i o args t) nx ρ H:=by
 obtain⟨ti,h1,h2,h3,h4⟩:=Yh;refine t7 (vc ho Jf h1) ha ?_;rintro v H' ⟨g,hg,rfl,rfl⟩;exact⟨fun _=>PH.le_put hg _,n _ _ (PH.le_put hg _) (gy hg rfl (by simp only[maxLen];omega) rfl Dg.nil)⟩
theorem vo {l2:List Nat} {u:Value} {pf:Bool} (ho:o.op= .call ⟨.builtin .append,#[x,y],#[32,32]⟩) (hx:g8 [x,y] [v,u] x=v) (hy:g8 [x,y] [v,u] y=u) (pY:Pl H0 H) (h:Od H0 H v l) (h2:Ds H u l2) (hb:l.length+l2.length<=1000000)
  (ha:args.map (D prog ρ)=[v,u]) (uT:pf=false) (n:∀v' H',Pl H0 H'->Od H0 H' v' (l++l2)->(H'=H\/∃g ob,H0 g=none/\H'=H.put g ob)->den prog G t nx (ρ++[v']) H'):den prog G (.eff pf id i o args t) nx ρ H:=by
 obtain⟨ti,h1,h3,h4,h5⟩:=Yh;subst uT;by_cases hm:0<l2.length
 ·refine t7 (C6 ho hx hy Jf h1 h3 h4 rfl pY h.1 h2.1 hm (fun c hc=> ?_) (by simp only[maxLen];omega) (by rw[h5];omega)) ha ?_
  ·obtain⟨d,_,rfl⟩:=aY.1 hc;rfl
  ·rintro v' H' ⟨h6,h7,g,ob,h8,h9⟩;refine⟨fun h=>(nomatch h),n v' H' h6 ⟨?_,h.2.append h2.2⟩ (.inr ⟨g,ob,h9,h8⟩)⟩;rw[aM,aT];exact h7
 ·have rN:l2=[]:=aI aA;subst rN;refine t7 (uz ho hx hy Jf h1 h.1.sl h2.1) ha ?_;rintro v' H' ⟨rfl,rfl⟩;exact⟨fun h=>(nomatch h),n _ _ pY (by rw[bQ];exact h) (.inl rfl)⟩
theorem ic {d:Nat} {pf pf2:Bool} (sR:o1.op= .buildSlice 32 1 #[(0,x)]) (sS:o2.op= .call ⟨.builtin .append,#[x2,y2],#[32,32]⟩) (hx:g8 [x] [iv d] x=iv d) (rG:∀p,g8 [x2,y2] [v,p] x2=v) (vL:∀p,g8 [x2,y2] [v,p] y2=p) (pY:Pl H0 H) (h:Od H0 H v l) (hd:d<4294967296) (hb:l.length+1<=1000000)
  (ha:args.map (D prog ρ)=[iv d]) (rI:∀p,args2.map (D prog (ρ++[p]))=[v,p]) (uT:pf2=false) (n:∀p v' H',Pl H0 H'->Od H0 H' v' (l++[d])->den prog G t nx (ρ++[p]++[v']) H'):den prog G (.eff pf id i o1 args (.eff pf2 id2 i2 o2 args2 t)) nx ρ H:=by
 refine I9 sR hx hd ha fun u H1 qR h1=> ?_;exact vo sS (rG _) (vL _) (pY.trans qR) (h.mono qR) h1.ds hb (rI _) uT fun v' H' rN h3 _=>n u v' H' rN h3
end
end Go.Z

/- Operations on pointers; bytes; strings of bytes. -/
import Derived.Test.YtmannekkmdockaaGreatDoorRxT
import Derived.Lib.Builder
import Derived.Lib.UnsafeStr
import Derived.LaidEqlPtr
import Derived.Laws.Concat
import Derived.Laws.IdiomStrings
import Derived.Laws.BytesArg
import Derived.Laws.Small
import Derived.Laws.CopyRow
import Derived.Laws.IdiomCopy
import Derived.Test.YtmannekkmdockaaGreatDoorRows
import Derived.Test.YtmannekkmdockaaGreatDoorRxH
import Derived.KernelRfl
namespace Go.RX
open Go.RowKit
def fieldsOf (P:Program) (t:TypeId):Array Field:=match P.underlying t with|some (.struct fs)=>fs|_=> #[]
def fieldAt (P:Program) (t:TypeId) (i:Nat):Field:=((fieldsOf P t)[i]?).getD default
theorem b3Q {P:Program} {t:TypeId} {i:Nat} (h:i<(fieldsOf P t).size):(fieldsOf P t)[i]? =some (fieldAt P t i):=by
 unfold fieldAt
 rw[Array.getElem?_eq_getElem h];rfl
theorem PH.put_same {H:PH} {b:Nat} {ob:Obj} (h:H b=some ob):H.put b ob=H:=by
 funext k
 unfold PH.put
 split
 ·rename_i e;rw[e,h]
 ·rfl
section
variable {P:Program} {H:PH} {o:Oper} {x y:Operand} {vs:List Value}
theorem b2m {a:Addr} (ho:o.op= .nilCheck x) (hx:a0f [x] vs x= .pointer (some a)):Yld P o vs (.pointer (some a)):=fun w=>by
 have hos:o.op.operands.toList=[x]:=by simp[ho,Op.operands]
 rw[hos]
 simp only[execOp,ho,hx]
 rfl
end
open Go.RowKit
section
variable {P:Program} {H:PH} {o:Oper} {x y:Operand} {vs:List Value} {l m:List UInt8}
theorem b7v {t e:TypeId} {i:TypeInfo} {z:Value} {sz m g:Nat} {u:Value} {news:List Value} (ho:o.op= .call ⟨.builtin .append,#[x,y],#[t,t]⟩) (hx:a0f [x,y] vs x= .slice (some ⟨g,0,none⟩) 0 0) (hy:a0f [x,y] vs y=u)
  (hu:P.underlying t=some (.slice e)) (hi:P.info? e=some i) (hz:i.zero=some z) (hsz:i.size=sz) (hzs:z.cells.size=sz) (hs:Sl H sz u m news) (hm:0<m) (h63:m<=maxLen) (hbytes:m*i.bytes<=140737488355328):
  Opn P o vs H fun v' H'=>PH.le H H'/\OwS H H' e sz v' m news:=fun w hw=>by
 have hos:o.op.operands.toList=[x,y]:=by simp[ho,Op.operands,Call.operands]
 obtain⟨hl,a,c,hu2,hmc,hcm,hs⟩:=hs
 obtain⟨b,q,cs,T,fz,ha,hb,hn⟩:=hs.resolve_left (by omega)
 subst ha
 have hnews:=a5U (hw _ _ hb) hn
 have hge:=grownCap_ge w m 0 e
 have hcm2:grownCap w m 0 e<=maxLen:=grownCap_le_maxLen w m 0 e h63
 have hr:=run_append_grow (P:=P) w t o.type e i z hu hi hz ⟨g,0,none⟩ 0 0 [] (by simp) (fun j u hj=>by simp at hj) ⟨b,q,none⟩ m c news (by rw[hsz];exact hl) hnews (by omega) (by simp only[maxLen]at h63;omega) (growslice_fits (by omega) (by rw[Nat.zero_add];exact hbytes))
 unfold Stp
 rw[hos]
 simp only[execOp,ho,resolve,invoke,Sem.run_bind,Sem.run_pure,Result.andThen_ok,List.map_toArray,List.map_cons,List.map_nil,hx,hy,hu2,builtin]
 simp only[Nat.zero_add,Array.empty_append]at hr
 rw[hr]
 have hd:Ext w w.drew:=⟨rfl,rfl,rfl,Nat.le_refl _,fun _ _=>rfl,Nat.le_succ _⟩
 refine⟨_,(Step.of_ext hw hd).trans (Step.newB (hw.ext hd) _),PH.le_put hw.fresh _,hl,.inr ⟨w.heap.size,_,_,rfl,hw.fresh,PH.put_self _ _ _,hge,hcm2,?_,?_⟩⟩
 ·simp only[Array.size_append,List.size_toArray,size_zeroCells,hzs,hl,<-Nat.add_mul]
  congr 1
  omega
 ·simp only[Array.toList_append]
  rw[<-hl]
  exact List.take_left
theorem a2R {S T:TypeId} {i b q off:Nat} (ho:o.op= .fieldAddr S x i) (hx:a0f [x] vs x= .pointer (some ⟨b,q,none⟩)) (hS:P.underlying S=some (.struct (fieldsOf P S))) (hi:i<(fieldsOf P S).size) (hT:(fieldAt P S i).type=T) (hof:(fieldAt P S i).offset=off) (hT':a2s P T=true) (hc:P.cellsOf T≠0):Yld P o vs (.pointer (some ⟨b,q+off,none⟩)):=fun w=>by
 have hos:o.op.operands.toList=[x]:=by simp[ho,Op.operands]
 rw[hos]
 simp only[execOp,ho,hx,Sem.run_bind]
 rw[a7A hS (b3Q hi) (by rw[hT];exact hT') (by rw[hT];exact hc),hof]
 rfl
theorem a3c {T e:TypeId} {n b q:Nat} (ho:o.op= .slice T x none none none) (hx:a0f [x] vs x= .pointer (some ⟨b,q,none⟩)) (hu:P.underlying T=some (.array n e)) (he:a2s P e=true):
  Yld P o vs (.slice (some ⟨b,q,none⟩) n n):=fun w=>by
 have hos:o.op.operands.toList=[x]:=by simp[ho,Op.operands]
 obtain⟨⟨i,hi⟩,_⟩:=a1e he
 rw[hos]
 simp only[execOp,ho,hx,Option.map_none,Instr.sliceAt,Sem.run_bind,run_underlying hu,Result.andThen_ok,Instr.sureAddr,Sem.run_pure,Instr.sliceBounds,a1h hi,a2Q]
 simp
theorem b5e {dT sT e T:TypeId} {i:TypeInfo} {g q dLen dCap m:Nat} {cur:Array Value} {u:Value} {news:List Value} (ho:o.op= .call ⟨.builtin .copy,#[x,y],#[dT,sT]⟩) (hx:a0f [x,y] vs x= .slice (some ⟨g,q,none⟩) dLen dCap) (hy:a0f [x,y] vs y=u)
  (hu:P.underlying dT=some (.slice e)) (hi:P.info? e=some i) (hsz:i.size=1) (hg:H g=some (.cells cur T (0,0))) (hs:Sl H 1 u m news) (h1:∀c∈news,c.oneCell'=true) (hm:m<=dLen) (hfit:q+m<=cur.size):
  Opn P o vs H fun _ H'=>H'=H.put g (.cells (cur.toList.take q++news++cur.toList.drop (q+m)).toArray T (0,0)):=fun w hw=>by
 have hos:o.op.operands.toList=[x,y]:=by simp[ho,Op.operands,Call.operands]
 have hgw:=hw _ _ hg
 obtain⟨hl,a,c,hu2,hmc,hcm,hs⟩:=hs
 rw[Nat.mul_one]at hl
 have hs1:(P.info? e).map (·.size)=some 1:=by rw[hi];simp[hsz]
 unfold Stp
 rw[hos]
 simp only[execOp,ho,resolve,invoke,Sem.run_bind,Sem.run_pure,Result.andThen_ok,List.map_toArray,List.map_cons,List.map_nil,hx,hy,hu2,builtin]
 rcases hs with h0|⟨b,q',cs,T',fz,ha,hb,hn⟩
 ·subst h0
  obtain rfl:news=[]:=List.eq_nil_of_length_eq_zero hl
  rw[run_copy_none w dT sT o.type e (some ⟨g,q,none⟩) a dLen dCap 0 c hu hs1 (by simp)]
  refine⟨_,Step.refl hw,?_⟩
  rw[List.append_nil,Nat.add_zero,List.take_append_drop,Array.toArray_toList,PH.put_same hg]
 ·subst ha
  rw[Nat.mul_one]at hn
  have hnews:=a5U (hw _ _ hb) hn
  have hr:=run_copy_row (P:=P) w dT sT o.type e g q dLen dCap ⟨b,q',none⟩ m c cur T news hu hs1 hgw (by rw[hl];exact(Nat.min_eq_left hm).symm) hnews (by rw[hl];exact hfit) h1
  rw[hr,hl]
  refine⟨_,⟨rfl,rfl,rfl,by simp,fun k hk hn=>setRow_other _ _ _ _ (fun e=>by rw[e,hg]at hn;cases hn),fun k ob hk=> ?_,fun k hk=> ?_,Nat.le_refl _⟩,rfl⟩
  ·unfold PH.put at hk
   split at hk
   ·rename_i e;subst e;cases hk;exact setRow_heap w k _ _ T (0,0) hgw
   ·rename_i e;rw[setRow_other _ _ _ _ e];exact hw k ob hk
  ·unfold PH.put at hk
   split at hk
   ·rename_i e;subst e;exact .inl (by simp[hg])
   ·exact .inl hk
end
end Go.RX
/- MADE BY rxgen.py: the trees of package wide. -/
namespace Go.Proofs.YtmannekkmdockaaGreatDoor
open Go.Proofs.Tryz
open Go.RowKit Go.RX
theorem mixed:prog.follows .mixedOrders=true:=by kernel_rfl
theorem c8Q:tree prog [] [] [] [] 262=some (.rq (.cells 8 V0)
(.pm f262 1 2 [(.ag V0),(.z 206)]
(.ret [V1]))):=by kernel_rfl
theorem c4o:tree prog [] [] [⟨0,3,[],[0]⟩] [⟨5,[0,0,2,6,0,16,48,0,254,510,1022,1022,2047,6143,16383],[0,0,1,1,0,1,1,0,2,0,0,0,1,4,0],[0,0,0,0,0,0,0,0,0,0,0,0,0,0,0],[0,1,2,3,4,5,6,7,8,9,10,11,12],[13,14]⟩] 196=some (.rq (.cells 8 V0)
(.rq (.cells 8 V1)
(.loop [(.k (.int .u64 (0))),(.ki 0),V0]
(.ri V3
(.br (.io .lss V3 (.ki 8))
(.rq (.num V3)
(.rq (.lt 8 V3)
(.ext 232 [(.cell V4 0 1 V3),(.cell V1 0 1 V3),V2]
(.rq (.tup 0 V5)
(.rq (.tup 1 V5)
(.rq (.cells 1 (.proj V5 0))
(.next 0 [(.proj V5 1),(.io .add V3 (.ki 1)),(.put V4 0 1 (.proj V5 0) 1 V3)])))))))
(.ret [(.ag V4),V2])))))):=by kernel_rfl
theorem c4p:tree prog [] [] [⟨0,2,[],[]⟩] [⟨4,[0,1,3,0,8,24,63],[0,1,1,0,1,1,0],[0,0,0,0,0,0,0],[0,1,2,3,4,5,6],[]⟩,⟨5,[0,1,3,0,8,24,63],[0,1,1,0,1,1,0],[0,0,0,0,0,0,0],[0,1,2,3,4,5,6],[]⟩] 195=some (.rq (.cells 8 V0)
(.rq (.cells 8 V1)
(.loop [(.ki 0),(.ki 7)]
(.ri V3
(.br (.io .geq V3 (.ki 0))
(.rq (.num V3)
(.rq (.lt 8 V3)
(.rq (.int .u64 (.cell V0 0 1 V3))
(.rq (.int .u64 (.cell V1 0 1 V3))
(.br (.uo .neq (.cell V0 0 1 V3) (.cell V1 0 1 V3))
(.br (.uo .lss (.cell V0 0 1 V3) (.cell V1 0 1 V3))
(.ret [(.k (.int .i64 (-1)))])
(.ret [(.ki 1)]))
(.next 0 [V2,(.io .sub V3 (.ki 1))]))))))
(.ret [(.ki 0)])))))):=by kernel_rfl
theorem c8R:tree prog [] [] [] [] 128=some (.rq (.cells 8 V0)
(.rq (.int .u64 (.cell V0 7 0 noI))
(.br (.uo .eql (.uo .shr (.cell V0 7 0 noI) (.k (.int .u64 (63)))) (.k (.int .u64 (1))))
(.call false 196 [(.z 206),(.ag V0)]
(.rq (.tup 0 V1)
(.rq (.tup 1 V1)
(.rq (.cells 8 (.proj V1 0))
(.ret [(.cat (.uo .eql (.uo .shr (.cell V0 7 0 noI) (.k (.int .u64 (63)))) (.k (.int .u64 (1)))) 1 (.proj V1 0))])))))
(.ret [(.cat (.uo .eql (.uo .shr (.cell V0 7 0 noI) (.k (.int .u64 (63)))) (.k (.int .u64 (1)))) 1 (.ag V0))])))):=by kernel_rfl
theorem c8S:tree prog [] [] [] [] 126=some (.rq (.cells 9 V0)
(.call false 195 [(.sub V0 1 8 0 noI),(.put (.z 206) 7 1 (.k (.int .u64 (9223372036854775808))) 0 noI)]
(.ri V1
(.br (.io .gtr V1 (.ki 0))
(.ret [(.z 56),(.ki 6)])
(.br (.io .eql V1 (.ki 0))
(.rq (.bool (.cell V0 0 0 noI))
(.br (.nt (.cell V0 0 0 noI))
(.ret [(.z 56),(.ki 6)])
(.call false 196 [(.z 206),(.sub V0 1 8 0 noI)]
(.rq (.tup 0 V2)
(.rq (.tup 1 V2)
(.rq (.cells 8 (.proj V2 0))
(.ret [(.ag (.proj V2 0)),(.ki 0)])))))))
(.rq (.bool (.cell V0 0 0 noI))
(.br (.cell V0 0 0 noI)
(.call false 196 [(.z 206),(.sub V0 1 8 0 noI)]
(.rq (.tup 0 V2)
(.rq (.tup 1 V2)
(.rq (.cells 8 (.proj V2 0))
(.ret [(.ag (.proj V2 0)),(.ki 0)])))))
(.ret [(.sub V0 1 8 0 noI),(.ki 0)])))))))):=by kernel_rfl
theorem d6x:tree prog [] [] [] [⟨1,[0,1,3,7,15,31,0,127,255],[0,0,5,2,0,0,5,0,6],[0,0,0,0,0,0,0,0,1],[0,1,2,6,3,4,5,7],[8]⟩] 234=some (.rq (.cells 8 V1)
(.rq (.bool V0)
(.br V0
(.call true 262 [(.ag V1)]
(.rq (.bool V2)
(.ret [(.cat (.nt V2) 1 (.ag V1))])))
(.ret [(.cat (.k (.bool false)) 1 (.ag V1))])))):=by kernel_rfl
theorem c8T:tree prog [] [] [] [] 199=some (.rq (.cells 9 V0)
(.rq (.cells 9 V1)
(.call false 236 [(.sub V0 1 8 0 noI),(.sub V1 1 8 0 noI)]
(.rq (.tup 0 V2)
(.rq (.tup 1 V2)
(.rq (.cells 8 (.proj V2 0))
(.rq (.bool (.cell V0 0 0 noI))
(.rq (.bool (.cell V1 0 0 noI))
(.call false 234 [(.eqb true (.cell V0 0 0 noI) (.cell V1 0 0 noI)),(.ag (.proj V2 0))]
(.rq (.int .u64 (.proj V2 1))
(.rq (.cells 9 V3)
(.ret [(.ag V3),(.uo .gtr (.proj V2 1) (.k (.int .u64 (0))))])))))))))))):=by kernel_rfl
theorem c8U:tree prog [] [] [] [] 127=some (.ef false f127 1 0 []
(.ef false f127 1 1 [V0,(.k (.int .u8 (43))),(.k (.func (.func 197) #[] #[]))]
(.ef false f127 1 2 [V0,(.k (.int .u8 (45))),(.k (.func (.func 198) #[] #[]))]
(.ef false f127 1 3 [V0,(.k (.int .u8 (42))),(.k (.func (.func 199) #[] #[]))]
(.ret [V0]))))):=by kernel_rfl
theorem c8V:tree prog [] [] [] [⟨1,[0,0,3,0,9,0,57,127,255,511,511,0,3071,8191],[2,0,1,5,2,5,2,2,0,0,0,3,4,0],[0,0,0,0,0,1,0,0,0,0,0,0,0,0],[1,3,5,0,2,4,6,7,8,9,10,11],[12,13]⟩] 73=some (.rq (.cells 8 V0)
(.rq (.cells 8 V1)
(.call true 127 []
(.pm f73 1 2 [V3,V2]
(.call true 128 [(.ag V0)]
(.call true 128 [(.ag V1)]
(.ef true f73 1 7 [V4,V5,V6]
(.rq (.tup 0 V7)
(.rq (.tup 1 V7)
(.rq (.cells 9 (.proj V7 0))
(.rq (.bool (.proj V7 1))
(.br (.proj V7 1)
(.ret [(.z 56),(.ki 6)])
(.call false 126 [(.ag (.proj V7 0))]
(.rq (.tup 0 V8)
(.rq (.tup 1 V8)
(.rq (.cells 8 (.proj V8 0))
(.ret [(.ag (.proj V8 0)),(.proj V8 1)]))))))))))))))))):=by kernel_rfl
theorem c4q:tree prog [6] [] [⟨0,4,[],[]⟩,⟨0,7,[],[]⟩,⟨0,15,[],[]⟩] [] 236=some (.rq (.cells 8 V0)
(.rq (.cells 8 V1)
(.pub 336 (.z 336)
(.ef false f236 2 0 [V2]
(.loop [(.ki 0)]
(.ri V4
(.br (.io .lss V4 (.ki 8))
(.rq (.num V4)
(.rq (.lt 8 V4)
(.loop [(.ki 0)]
(.ri V5
(.br (.io .lss V5 (.ki 8))
(.rq (.num V5)
(.rq (.lt 8 V5)
(.rq (.int .u64 (.cell (.ag V0) 0 1 V4))
(.br (.uo .neq (.cell (.ag V0) 0 1 V4) (.k (.int .u64 (0))))
(.rq (.int .u64 (.cell (.ag V1) 0 1 V5))
(.br (.uo .neq (.cell (.ag V1) 0 1 V5) (.k (.int .u64 (0))))
(.ef false f236 10 6 [V3,(.cell (.ag V0) 0 1 V4),(.cell (.ag V1) 0 1 V5),(.io .add V4 V5)]
(.next 1 [(.io .add V5 (.ki 1))]))
(.next 1 [(.io .add V5 (.ki 1))])))
(.next 1 [(.io .add V5 (.ki 1))])))))
(.next 0 [(.io .add V4 (.ki 1))]))))))
(.pm f236 14 0 [V2,(.ki 8)]
(.pm f236 14 1 [V5]
(.loop [(.k (.int .u64 (0))),(.ki 0)]
(.ri V8
(.ri V6
(.br (.io .lss V8 V6)
(.pm f236 16 0 [V5,V8]
(.pm f236 16 1 [V9]
(.ru V7
(.ru V10
(.next 1 [(.uo .or V7 V10),(.io .add V8 (.ki 1))])))))
(.pm f236 19 0 [V2,(.ki 8)]
(.pm f236 19 1 [V9]
(.pm f236 19 2 [V10]
(.rq (.cells 8 V11)
(.ret [(.ag V11),V7])))))))))))))))))):=by kernel_rfl
theorem b0B:(opr f236 19 2).op= .load 206 (.tmp 52):=by kernel_rfl
theorem b9t:tree prog [] [] [⟨0,5,[],[]⟩] [] 263=some (.call false 240 [V0,V1]
(.rq (.tup 0 V4)
(.rq (.tup 1 V4)
(.pm f263 1 1 [V3,V2]
(.pm f263 1 2 [V5]
(.ext 231 [V6,(.proj V4 1),(.k (.int .u64 (0)))]
(.rq (.tup 0 V7)
(.rq (.tup 1 V7)
(.pm f263 2 2 [V3,V2]
(.ef false f263 2 3 [V8,(.proj V7 0)]
(.ri V2
(.pm f263 3 4 [V3,(.io .add V2 (.ki 1))]
(.pm f263 3 5 [V10]
(.ext 231 [V11,(.proj V4 0),(.proj V7 1)]
(.rq (.tup 0 V12)
(.rq (.tup 1 V12)
(.pm f263 3 12 [V3,(.io .add V2 (.ki 1))]
(.ef false f263 3 13 [V13,(.proj V12 0)]
(.loop [(.proj V12 1),(.io .add V2 (.ki 2))]
(.ru V15
(.br (.uo .gtr V15 (.k (.int .u64 (0))))
(.ri V16
(.br (.io .eql V16 (.ki 16))
(.ret [])
(.pm f263 8 2 [V3,V16]
(.pm f263 8 3 [V17]
(.ext 231 [V18,(.k (.int .u64 (0))),V15]
(.rq (.tup 0 V19)
(.rq (.tup 1 V19)
(.pm f263 8 9 [V3,V16]
(.ef false f263 8 10 [V20,(.proj V19 0)]
(.next 0 [(.proj V19 1),(.io .add V16 (.ki 1))]))))))))))
(.ret [])))))))))))))))))))))):=by kernel_rfl
theorem d6y:tree prog [] [] [⟨0,4,[],[1]⟩] [] 29=some (.ri V0
(.br (.io .lss V0 (.ki 0))
(.loop [(.ki 1),(.put (.z 56) 0 1 (.cv .u64 V0) 0 noI)]
(.ri V1
(.br (.io .lss V1 (.ki 8))
(.rq (.num V1)
(.rq (.lt 8 V1)
(.next 0 [(.io .add V1 (.ki 1)),(.put V2 0 1 (.k (.int .u64 (18446744073709551615))) 1 V1)])))
(.ret [(.ag V2)]))))
(.ret [(.put (.z 56) 0 1 (.cv .u64 V0) 0 noI)]))):=by kernel_rfl
theorem d3q:tree prog [] [] [] [] 28=some (.rq (.cells 8 V0)
(.rq (.cells 8 V1)
(.call false 73 [(.ag V0),(.ag V1),(.k (.int .u8 (42)))]
(.rq (.tup 0 V2)
(.rq (.tup 1 V2)
(.rq (.cells 8 (.proj V2 0))
(.ret [(.ag (.proj V2 0)),(.proj V2 1)]))))))):=by kernel_rfl
theorem c4r:tree prog [] [] [] [] 240=some (.ru V0
(.ru V1
(.ret [(.uo .add (.uo .add (.uo .mul (.uo .shr V0 (.k (.int .u64 (32)))) (.uo .shr V1 (.k (.int .u64 (32))))) (.uo .shr (.uo .add (.uo .mul (.uo .shr V0 (.k (.int .u64 (32)))) (.uo .and V1 (.k (.int .u64 (4294967295))))) (.uo .shr (.uo .mul (.uo .and V0 (.k (.int .u64 (4294967295)))) (.uo .and V1 (.k (.int .u64 (4294967295))))) (.k (.int .u64 (32))))) (.k (.int .u64 (32))))) (.uo .shr (.uo .add (.uo .and (.uo .add (.uo .mul (.uo .shr V0 (.k (.int .u64 (32)))) (.uo .and V1 (.k (.int .u64 (4294967295))))) (.uo .shr (.uo .mul (.uo .and V0 (.k (.int .u64 (4294967295)))) (.uo .and V1 (.k (.int .u64 (4294967295))))) (.k (.int .u64 (32))))) (.k (.int .u64 (4294967295)))) (.uo .mul (.uo .and V0 (.k (.int .u64 (4294967295)))) (.uo .shr V1 (.k (.int .u64 (32)))))) (.k (.int .u64 (32))))),(.uo .mul V0 V1)]))):=by kernel_rfl
theorem c4s:tree prog [] [(20,false),(24,false)] [⟨3,16,[2,8,9,10,11,13,14,15,16],[]⟩,⟨1,0,[15],[]⟩,⟨3,23,[17,18,16],[]⟩,⟨1,2,[18],[]⟩,⟨0,17,[],[]⟩,⟨0,24,[],[]⟩] [⟨6,[0,0,3,0,0,24,7,127],[0,0,0,0,0,0,0,0],[0,0,0,0,0,0,0,0],[0,1,2,3,4,5,6,7],[]⟩] 237=some (.ru V2
(.rq (.isb false (.uo .eql V2 (.k (.int .u64 (0)))))
(.ru V0
(.rq (.isb false (.uo .leq V2 V0))
(.br (.uo .eql V0 (.k (.int .u64 (0))))
(.ru V1
(.rq (.nz V2)
(.ret [(.uo .quo V1 V2),(.uo .rem V1 V2)])))
(.call false 264 [V2]
(.ri V3
(.rq (.nn (.cv .u64 V3))
(.ru V1
(.rq (.nn (.uo .sub (.k (.int .u64 (64))) (.cv .u64 V3)))
(.rq (.nz (.uo .shr (.uo .shl V2 (.cv .u64 V3)) (.k (.int .u64 (32)))))
(.join 9
(.next 0 [(.uo .shl V2 (.cv .u64 V3)),(.cv .u64 V3),(.uo .shr (.uo .shl V2 (.cv .u64 V3)) (.k (.int .u64 (32)))),(.uo .and (.uo .shl V2 (.cv .u64 V3)) (.k (.int .u64 (4294967295)))),(.uo .or (.uo .shl V0 (.cv .u64 V3)) (.uo .shr V1 (.uo .sub (.k (.int .u64 (64))) (.cv .u64 V3)))),(.uo .shr (.uo .shl V1 (.cv .u64 V3)) (.k (.int .u64 (32)))),(.uo .and (.uo .shl V1 (.cv .u64 V3)) (.k (.int .u64 (4294967295)))),(.uo .quo (.uo .or (.uo .shl V0 (.cv .u64 V3)) (.uo .shr V1 (.uo .sub (.k (.int .u64 (64))) (.cv .u64 V3)))) (.uo .shr (.uo .shl V2 (.cv .u64 V3)) (.k (.int .u64 (32))))),(.uo .sub (.uo .or (.uo .shl V0 (.cv .u64 V3)) (.uo .shr V1 (.uo .sub (.k (.int .u64 (64))) (.cv .u64 V3)))) (.uo .mul (.uo .quo (.uo .or (.uo .shl V0 (.cv .u64 V3)) (.uo .shr V1 (.uo .sub (.k (.int .u64 (64))) (.cv .u64 V3)))) (.uo .shr (.uo .shl V2 (.cv .u64 V3)) (.k (.int .u64 (32))))) (.uo .shr (.uo .shl V2 (.cv .u64 V3)) (.k (.int .u64 (32))))))])
(.join 1
(.loop [V11,V12]
(.ru V13
(.br (.uo .geq V13 (.k (.int .u64 (4294967296))))
(.ru V14
(.ru V6
(.br (.uo .geq (.uo .add V14 V6) (.k (.int .u64 (4294967296))))
(.next 0 [(.uo .sub V13 (.k (.int .u64 (1))))])
(.next 1 [(.uo .sub V13 (.k (.int .u64 (1)))),(.uo .add V14 V6)]))))
(.ru V7
(.ru V14
(.ru V9
(.br (.uo .gtr (.uo .mul V13 V7) (.uo .add (.uo .mul (.k (.int .u64 (4294967296))) V14) V9))
(.ru V6
(.br (.uo .geq (.uo .add V14 V6) (.k (.int .u64 (4294967296))))
(.next 0 [(.uo .sub V13 (.k (.int .u64 (1))))])
(.next 1 [(.uo .sub V13 (.k (.int .u64 (1)))),(.uo .add V14 V6)])))
(.next 0 [V13]))))))))
(.ru V8
(.ru V9
(.ru V13
(.ru V4
(.ru V6
(.rq (.nz V6)
(.join 3
(.next 0 [(.uo .sub (.uo .add (.uo .mul V8 (.k (.int .u64 (4294967296)))) V9) (.uo .mul V13 V4)),(.uo .quo (.uo .sub (.uo .add (.uo .mul V8 (.k (.int .u64 (4294967296)))) V9) (.uo .mul V13 V4)) V6),(.uo .sub (.uo .sub (.uo .add (.uo .mul V8 (.k (.int .u64 (4294967296)))) V9) (.uo .mul V13 V4)) (.uo .mul (.uo .quo (.uo .sub (.uo .add (.uo .mul V8 (.k (.int .u64 (4294967296)))) V9) (.uo .mul V13 V4)) V6) V6))])
(.join 1
(.loop [V15,V16]
(.ru V17
(.br (.uo .geq V17 (.k (.int .u64 (4294967296))))
(.ru V18
(.br (.uo .geq (.uo .add V18 V6) (.k (.int .u64 (4294967296))))
(.next 0 [(.uo .sub V17 (.k (.int .u64 (1))))])
(.next 1 [(.uo .sub V17 (.k (.int .u64 (1)))),(.uo .add V18 V6)])))
(.ru V7
(.ru V18
(.ru V10
(.br (.uo .gtr (.uo .mul V17 V7) (.uo .add (.uo .mul (.k (.int .u64 (4294967296))) V18) V10))
(.br (.uo .geq (.uo .add V18 V6) (.k (.int .u64 (4294967296))))
(.next 0 [(.uo .sub V17 (.k (.int .u64 (1))))])
(.next 1 [(.uo .sub V17 (.k (.int .u64 (1)))),(.uo .add V18 V6)]))
(.next 0 [V17]))))))))
(.ru V17
(.ru V14
(.ru V10
(.rq (.num V5)
(.rq (.nn V5)
(.ret [(.uo .add (.uo .mul V13 (.k (.int .u64 (4294967296)))) V17),(.uo .shr (.uo .sub (.uo .add (.uo .mul V14 (.k (.int .u64 (4294967296)))) V10) (.uo .mul V17 V4)) V5)]))))))))))))))))))))))))))):=by kernel_rfl
theorem c4t:tree prog [] [] [⟨2,4,[0,2],[]⟩,⟨2,8,[0,2],[]⟩,⟨2,14,[0,2],[]⟩] [] 117=some (.ru V0
(.join 2
(.br (.uo .geq V0 (.k (.int .u64 (4294967296))))
(.next 0 [(.uo .shr V0 (.k (.int .u64 (32)))),(.ki 32)])
(.next 0 [V0,(.ki 0)]))
(.ru V1
(.join 2
(.br (.uo .geq V1 (.k (.int .u64 (65536))))
(.ri V2
(.next 0 [(.uo .shr V1 (.k (.int .u64 (16)))),(.io .add V2 (.ki 16))]))
(.next 0 [V1,V2]))
(.ru V3
(.join 2
(.br (.uo .geq V3 (.k (.int .u64 (256))))
(.ri V4
(.next 0 [(.uo .shr V3 (.k (.int .u64 (8)))),(.io .add V4 (.ki 8))]))
(.next 0 [V3,V4]))
(.ru V5
(.pm f117 10 3 [(.k (.string ⟨#[0,1,2,2,3,3,3,3,4,4,4,4,4,4,4,4,5,5,5,5,5,5,5,5,5,5,5,5,5,5,5,5,6,6,6,6,6,6,6,6,6,6,6,6,6,6,6,6,6,6,6,6,6,6,6,6,6,6,6,6,6,6,6,6,7,7,7,7,7,7,7,7,7,7,7,7,7,7,7,7,7,7,7,7,7,7,7,7,7,7,7,7,7,7,7,7,7,7,7,7,7,7,7,7,7,7,7,7,7,7,7,7,7,7,7,7,7,7,7,7,7,7,7,7,7,7,7,7,8,8,8,8,8,8,8,8,8,8,8,8,8,8,8,8,8,8,8,8,8,8,8,8,8,8,8,8,8,8,8,8,8,8,8,8,8,8,8,8,8,8,8,8,8,8,8,8,8,8,8,8,8,8,8,8,8,8,8,8,8,8,8,8,8,8,8,8,8,8,8,8,8,8,8,8,8,8,8,8,8,8,8,8,8,8,8,8,8,8,8,8,8,8,8,8,8,8,8,8,8,8,8,8,8,8,8,8,8,8,8,8,8,8,8,8,8,8,8,8,8,8,8,8,8,8,8,8]⟩)),(.cv .u8 V5)]
(.rq (.int .u8 V7)
(.ri V6
(.ret [(.io .add V6 (.cv .i64 V7))]))))))))))):=by kernel_rfl
theorem c8W:tree prog [] [] [] [] 264=some (.call false 117 [V0]
(.ri V1
(.ret [(.io .sub (.ki 64) V1)]))):=by kernel_rfl
end Go.Proofs.YtmannekkmdockaaGreatDoor

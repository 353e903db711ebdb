/- Operations on pointers; bytes; strings of bytes. -/
import Derived.Test.YtlmgkkjgdapnpaaGreatDoorRxT
import Derived.Lib.Builder
import Derived.Lib.UnsafeStr
import Derived.LaidEqlPtr
import Derived.Laws.Concat
import Derived.Laws.IdiomStrings
import Derived.Laws.BytesArg
import Derived.Laws.Small
import Derived.Laws.CopyRow
import Derived.Laws.IdiomCopy
import Derived.Test.YtlmgkkjgdapnpaaGreatDoorRows
import Derived.Test.YtlmgkkjgdapnpaaGreatDoorRxH
import Derived.KernelRfl
namespace Go.RX
open Go.RowKit
def fieldsOf (P:Program) (t:TypeId):Array Field:=match P.underlying t with|some (.struct fs)=>fs|_=> #[]
def fieldAt (P:Program) (t:TypeId) (i:Nat):Field:=((fieldsOf P t)[i]?).getD default
theorem b3i {P:Program} {t:TypeId} {i:Nat} (h:i<(fieldsOf P t).size):(fieldsOf P t)[i]? =some (fieldAt P t i):=by
 unfold fieldAt
 rw[Array.getElem?_eq_getElem h];rfl
theorem PH.put_same {H:PH} {b:Nat} {ob:Obj} (h:H b=some ob):H.put b ob=H:=by
 funext k
 unfold PH.put
 split
 ·rename_i e;rw[e,h]
 ·rfl
section
variable {P:Program} {H:PH} {o:Oper} {x y:Operand} {vs:List Value}
theorem b1j {a:Addr} (ho:o.op= .nilCheck x) (hx:a0k [x] vs x= .pointer (some a)):Yld P o vs (.pointer (some a)):=fun w=>by
 have hos:o.op.operands.toList=[x]:=by simp[ho,Op.operands]
 rw[hos]
 simp only[execOp,ho,hx]
 rfl
theorem b8c {t t' e:TypeId} {p:Option Addr} (ho:o.op= .binOp .eql t x y t') (hx:a0k [x,y] vs x= .pointer p) (hy:a0k [x,y] vs y= .pointer none) (hu:P.underlying t=some (.pointer e)):Yld P o vs (.bool p.isNone):=fun w=>by
 have hos:o.op.operands.toList=[x,y]:=by simp[ho,Op.operands]
 rw[hos]
 have h:∀d:Nat,(Op.equalIn (d+1) t (.pointer p) (.pointer none)).run P w= .ok p.isNone w:=fun d=>by
  cases p<;>simp[Op.equalIn,run_underlying hu]
 have hb:(binOp .eql t (.pointer p) (.pointer none)).run P w= .ok (.bool p.isNone) w:=by
  simp only[binOp]
  simp[Op.equal,Op.maxDepth,h 9999]
 simp only[execOp,ho,hx,hy,Sem.run_bind,eqGuard]
 simp[hb]
def bv (c:UInt8):Value:= .int .u8 (c.toNat:Nat)
end
open Go.RowKit
section
variable {P:Program} {H:PH} {o:Oper} {x y:Operand} {vs:List Value} {l m:List UInt8}
theorem b8d (l m:List UInt8):ba l++ba m=ba (l++m):=ByteArray.mk_append_mk l m
theorem c7B {t t':TypeId} (ho:o.op= .binOp .add t x y t') (hx:a0k [x,y] vs x=st l) (hy:a0k [x,y] vs y=st m) (hlen:l.length+m.length<=9223372036854775807):Yld P o vs (st (l++m)):=fun w=>by
 have hos:o.op.operands.toList=[x,y]:=by simp[ho,Op.operands]
 rw[hos]
 simp only[execOp,ho,hx,hy,st]
 simp only[Sem.run_bind,binOp_string_add]
 have h:=run_string_add_sum (P:=P) w (ba l) (ba m) (by rw[a3S,a3S];exact hlen)
 rw[b8d]at h
 simp[eqGuard,h]
theorem d3P {t t':TypeId} (ho:o.op= .binOp .neq t x y t') (hx:a0k [x,y] vs x=st l) (hy:a0k [x,y] vs y=st m):Yld P o vs (.bool (!(l==m))):=fun w=>by
 have hos:o.op.operands.toList=[x,y]:=by simp[ho,Op.operands]
 rw[hos]
 simp only[execOp,ho,hx,hy,st]
 simp only[Sem.run_bind,binOp_string_neq,a7s]
 simp[eqGuard]
theorem b3j {src dst e:TypeId} {v:Value} (ho:o.op= .convert src dst x) (hx:a0k [x] vs x=v) (hs:P.underlying src=some (.slice e)) (he:P.underlying e=some (.int .u8)) (hd:P.underlying dst=some .string) (h:Sl H 1 v l.length (l.map bv)):Rds P o vs H (st l):=fun w hw=>by
 have hos:o.op.operands.toList=[x]:=by simp[ho,Op.operands]
 rw[hos]
 obtain⟨_,a,c,rfl,_,_,h5⟩:=h
 simp only[execOp,ho,hx,Sem.run_bind]
 have hr:(convert src dst (.slice a l.length c)).run P w= .ok (st l) w:=by
  rcases h5 with h5|⟨b,q,cs,T,fz,rfl,hb,htk⟩
  ·have hl:l=[]:=List.eq_nil_of_length_eq_zero h5
   subst hl
   cases a with
   |none=>exact run_convert_bytes_nil w src e hs he 0 c dst hd
   |some a=>exact run_convert_bytes_back w src dst e a c [] hs he hd (fun j hj=>absurd hj (Nat.not_lt_zero _))
  ·refine run_convert_bytes_back w src dst e _ c l hs he hd fun j hj=> ?_
   have hb':=hw _ _ hb
   rw[a3u]
   unfold World.cell?
   rw[hb']
   rw[Nat.mul_one]at htk
   have h6:=congrArg (fun z=>z[j]?) htk
   simp only[List.getElem?_take,List.getElem?_drop,List.getElem?_map,if_pos hj,List.getElem?_eq_getElem hj,Option.map_some]at h6
   simp only[Array.getElem?_toList]at h6
   simpa[bv]using h6
 rw[hr]
 rfl
theorem a6I {t u:TypeId} {a b:Int} (ho:o.op= .call ⟨.builtin .min,#[x,y],#[t,u]⟩) (hx:a0k [x,y] vs x= .int .i64 a) (hy:a0k [x,y] vs y= .int .i64 b):Yld P o vs (.int .i64 (if b<a then b else a)):=fun w=>by
 have hos:o.op.operands.toList=[x,y]:=by simp[ho,Op.operands,Call.operands]
 rw[hos]
 simp only[execOp,ho,resolve,invoke,Sem.run_bind,Sem.run_pure,Result.andThen_ok,List.map_toArray,List.map_cons,List.map_nil,hx,hy]
 simp only[builtin,Sem.run_bind,run_min_int2,Result.andThen_ok]
 rfl
theorem b5Z {t e:TypeId} {i:TypeInfo} {z:Value} {sz m g:Nat} {u:Value} {news:List Value} (ho:o.op= .call ⟨.builtin .append,#[x,y],#[t,t]⟩) (hx:a0k [x,y] vs x= .slice (some ⟨g,0,none⟩) 0 0) (hy:a0k [x,y] vs y=u)
  (hu:P.underlying t=some (.slice e)) (hi:P.info? e=some i) (hz:i.zero=some z) (hsz:i.size=sz) (hzs:z.cells.size=sz) (hs:Sl H sz u m news) (hm:0<m) (h63:m<=maxLen) (hbytes:m*i.bytes<=140737488355328):
  Opn P o vs H fun v' H'=>PH.le H H'/\OwS H H' e sz v' m news:=fun w hw=>by
 have hos:o.op.operands.toList=[x,y]:=by simp[ho,Op.operands,Call.operands]
 obtain⟨hl,a,c,hu2,hmc,hcm,hs⟩:=hs
 obtain⟨b,q,cs,T,fz,ha,hb,hn⟩:=hs.resolve_left (by omega)
 subst ha
 have hnews:=a9R (hw _ _ hb) hn
 have hge:=grownCap_ge w m 0 e
 have hcm2:grownCap w m 0 e<=maxLen:=grownCap_le_maxLen w m 0 e h63
 have hr:=run_append_grow (P:=P) w t o.type e i z hu hi hz ⟨g,0,none⟩ 0 0 [] (by simp) (fun j u hj=>by simp at hj) ⟨b,q,none⟩ m c news (by rw[hsz];exact hl) hnews (by omega) (by simp only[maxLen]at h63;omega) (growslice_fits (by omega) (by rw[Nat.zero_add];exact hbytes))
 unfold Stp
 rw[hos]
 simp only[execOp,ho,resolve,invoke,Sem.run_bind,Sem.run_pure,Result.andThen_ok,List.map_toArray,List.map_cons,List.map_nil,hx,hy,hu2,builtin]
 simp only[Nat.zero_add,Array.empty_append]at hr
 rw[hr]
 have hd:Ext w w.drew:=⟨rfl,rfl,rfl,Nat.le_refl _,fun _ _=>rfl,Nat.le_succ _⟩
 refine⟨_,(Step.of_ext hw hd).trans (Step.newB (hw.ext hd) _),PH.le_put hw.fresh _,hl,.inr ⟨w.heap.size,_,_,rfl,hw.fresh,PH.put_self _ _ _,hge,hcm2,?_,?_⟩⟩
 ·simp only[Array.size_append,List.size_toArray,size_zeroCells,hzs,hl,<-Nat.add_mul]
  congr 1
  omega
 ·simp only[Array.toList_append]
  rw[<-hl]
  exact List.take_left
theorem a2W {S T:TypeId} {i b q off:Nat} (ho:o.op= .fieldAddr S x i) (hx:a0k [x] vs x= .pointer (some ⟨b,q,none⟩)) (hS:P.underlying S=some (.struct (fieldsOf P S))) (hi:i<(fieldsOf P S).size) (hT:(fieldAt P S i).type=T) (hof:(fieldAt P S i).offset=off) (hT':a2h P T=true) (hc:P.cellsOf T≠0):Yld P o vs (.pointer (some ⟨b,q+off,none⟩)):=fun w=>by
 have hos:o.op.operands.toList=[x]:=by simp[ho,Op.operands]
 rw[hos]
 simp only[execOp,ho,hx,Sem.run_bind]
 rw[a7h hS (b3i hi) (by rw[hT];exact hT') (by rw[hT];exact hc),hof]
 rfl
theorem a4m {T e:TypeId} {n b q:Nat} (ho:o.op= .slice T x none none none) (hx:a0k [x] vs x= .pointer (some ⟨b,q,none⟩)) (hu:P.underlying T=some (.array n e)) (he:a2h P e=true):
  Yld P o vs (.slice (some ⟨b,q,none⟩) n n):=fun w=>by
 have hos:o.op.operands.toList=[x]:=by simp[ho,Op.operands]
 obtain⟨⟨i,hi⟩,_⟩:=a1b he
 rw[hos]
 simp only[execOp,ho,hx,Option.map_none,Instr.sliceAt,Sem.run_bind,run_underlying hu,Result.andThen_ok,Instr.sureAddr,Sem.run_pure,Instr.sliceBounds,a1j hi,a3u]
 simp
theorem c4d {dT sT e T:TypeId} {i:TypeInfo} {g q dLen dCap m:Nat} {cur:Array Value} {u:Value} {news:List Value} (ho:o.op= .call ⟨.builtin .copy,#[x,y],#[dT,sT]⟩) (hx:a0k [x,y] vs x= .slice (some ⟨g,q,none⟩) dLen dCap) (hy:a0k [x,y] vs y=u)
  (hu:P.underlying dT=some (.slice e)) (hi:P.info? e=some i) (hsz:i.size=1) (hg:H g=some (.cells cur T (0,0))) (hs:Sl H 1 u m news) (h1:∀c∈news,c.oneCell'=true) (hm:m<=dLen) (hfit:q+m<=cur.size):
  Opn P o vs H fun _ H'=>H'=H.put g (.cells (cur.toList.take q++news++cur.toList.drop (q+m)).toArray T (0,0)):=fun w hw=>by
 have hos:o.op.operands.toList=[x,y]:=by simp[ho,Op.operands,Call.operands]
 have hgw:=hw _ _ hg
 obtain⟨hl,a,c,hu2,hmc,hcm,hs⟩:=hs
 rw[Nat.mul_one]at hl
 have hs1:(P.info? e).map (·.size)=some 1:=by rw[hi];simp[hsz]
 unfold Stp
 rw[hos]
 simp only[execOp,ho,resolve,invoke,Sem.run_bind,Sem.run_pure,Result.andThen_ok,List.map_toArray,List.map_cons,List.map_nil,hx,hy,hu2,builtin]
 rcases hs with h0|⟨b,q',cs,T',fz,ha,hb,hn⟩
 ·subst h0
  obtain rfl:news=[]:=List.eq_nil_of_length_eq_zero hl
  rw[run_copy_none w dT sT o.type e (some ⟨g,q,none⟩) a dLen dCap 0 c hu hs1 (by simp)]
  refine⟨_,Step.refl hw,?_⟩
  rw[List.append_nil,Nat.add_zero,List.take_append_drop,Array.toArray_toList,PH.put_same hg]
 ·subst ha
  rw[Nat.mul_one]at hn
  have hnews:=a9R (hw _ _ hb) hn
  have hr:=run_copy_row (P:=P) w dT sT o.type e g q dLen dCap ⟨b,q',none⟩ m c cur T news hu hs1 hgw (by rw[hl];exact(Nat.min_eq_left hm).symm) hnews (by rw[hl];exact hfit) h1
  rw[hr,hl]
  refine⟨_,⟨rfl,rfl,rfl,by simp,fun k hk hn=>setRow_other _ _ _ _ (fun e=>by rw[e,hg]at hn;cases hn),fun k ob hk=> ?_,fun k hk=> ?_,Nat.le_refl _⟩,rfl⟩
  ·unfold PH.put at hk
   split at hk
   ·rename_i e;subst e;cases hk;exact setRow_heap w k _ _ T (0,0) hgw
   ·rename_i e;rw[setRow_other _ _ _ _ e];exact hw k ob hk
  ·unfold PH.put at hk
   split at hk
   ·rename_i e;subst e;exact .inl (by simp[hg])
   ·exact .inl hk
end
end Go.RX
/- MADE BY rxgen.py: the trees of package wide. -/
namespace Go.Proofs.YtlmgkkjgdapnpaaGreatDoor
open Go.Proofs.Tryz
open Go.RowKit Go.RX
theorem mixed:prog.follows .mixedOrders=true:=by kernel_rfl
theorem c9e:a0w prog [] [] [] [] 253=some (.rq (.cells 8 V0)
(.pm f253 1 2 [(.ag V0),(.z 218)]
(.ret [V1]))):=by kernel_rfl
theorem c9f:a0w prog [] [] [⟨0,3,[],[0]⟩] [⟨5,[0,0,2,6,0,16,48,0,254,510,1022,1022,2047,6143,16383],[0,0,1,1,0,1,1,0,2,0,0,0,1,4,0],[0,0,0,0,0,0,0,0,0,0,0,0,0,0,0],[0,1,2,3,4,5,6,7,8,9,10,11,12],[13,14]⟩] 218=some (.rq (.cells 8 V0)
(.rq (.cells 8 V1)
(.loop [(.k (.int .u64 (0))),(.ki 0),V0]
(.ri V3
(.br (.io .lss V3 (.ki 8))
(.rq (.num V3)
(.rq (.lt 8 V3)
(.ext 209 [(.cell V4 0 1 V3),(.cell V1 0 1 V3),V2]
(.rq (.tup 0 V5)
(.rq (.tup 1 V5)
(.rq (.cells 1 (.proj V5 0))
(.next 0 [(.proj V5 1),(.io .add V3 (.ki 1)),(.put V4 0 1 (.proj V5 0) 1 V3)])))))))
(.ret [(.ag V4),V2])))))):=by kernel_rfl
theorem c4e:a0w prog [] [] [⟨0,3,[],[0]⟩] [⟨5,[0,0,2,6,0,16,48,0,254,510,1022,1022,2047,6143,16383],[0,0,1,1,0,1,1,0,2,0,0,0,1,4,0],[0,0,0,0,0,0,0,0,0,0,0,0,0,0,0],[0,1,2,3,4,5,6,7,8,9,10,11,12],[13,14]⟩] 166=some (.rq (.cells 8 V0)
(.rq (.cells 8 V1)
(.loop [(.k (.int .u64 (0))),(.ki 0),V0]
(.ri V3
(.br (.io .lss V3 (.ki 8))
(.rq (.num V3)
(.rq (.lt 8 V3)
(.ext 210 [(.cell V4 0 1 V3),(.cell V1 0 1 V3),V2]
(.rq (.tup 0 V5)
(.rq (.tup 1 V5)
(.rq (.cells 1 (.proj V5 0))
(.next 0 [(.proj V5 1),(.io .add V3 (.ki 1)),(.put V4 0 1 (.proj V5 0) 1 V3)])))))))
(.ret [(.ag V4),V2])))))):=by kernel_rfl
theorem c4f:a0w prog [] [] [⟨0,2,[],[]⟩] [⟨4,[0,1,3,0,8,24,63],[0,1,1,0,1,1,0],[0,0,0,0,0,0,0],[0,1,2,3,4,5,6],[]⟩,⟨5,[0,1,3,0,8,24,63],[0,1,1,0,1,1,0],[0,0,0,0,0,0,0],[0,1,2,3,4,5,6],[]⟩] 167=some (.rq (.cells 8 V0)
(.rq (.cells 8 V1)
(.loop [(.ki 0),(.ki 7)]
(.ri V3
(.br (.io .geq V3 (.ki 0))
(.rq (.num V3)
(.rq (.lt 8 V3)
(.rq (.int .u64 (.cell V0 0 1 V3))
(.rq (.int .u64 (.cell V1 0 1 V3))
(.br (.uo .neq (.cell V0 0 1 V3) (.cell V1 0 1 V3))
(.br (.uo .lss (.cell V0 0 1 V3) (.cell V1 0 1 V3))
(.ret [(.k (.int .i64 (-1)))])
(.ret [(.ki 1)]))
(.next 0 [V2,(.io .sub V3 (.ki 1))]))))))
(.ret [(.ki 0)])))))):=by kernel_rfl
theorem c9g:a0w prog [] [] [] [] 119=some (.rq (.cells 8 V0)
(.rq (.int .u64 (.cell V0 7 0 noI))
(.br (.uo .eql (.uo .shr (.cell V0 7 0 noI) (.k (.int .u64 (63)))) (.k (.int .u64 (1))))
(.call false 166 [(.z 218),(.ag V0)]
(.rq (.tup 0 V1)
(.rq (.tup 1 V1)
(.rq (.cells 8 (.proj V1 0))
(.ret [(.cat (.uo .eql (.uo .shr (.cell V0 7 0 noI) (.k (.int .u64 (63)))) (.k (.int .u64 (1)))) 1 (.proj V1 0))])))))
(.ret [(.cat (.uo .eql (.uo .shr (.cell V0 7 0 noI) (.k (.int .u64 (63)))) (.k (.int .u64 (1)))) 1 (.ag V0))])))):=by kernel_rfl
theorem c9h:a0w prog [] [] [] [] 120=some (.rq (.cells 9 V0)
(.call false 167 [(.sub V0 1 8 0 noI),(.put (.z 218) 7 1 (.k (.int .u64 (9223372036854775808))) 0 noI)]
(.ri V1
(.br (.io .gtr V1 (.ki 0))
(.ret [(.z 59),(.ki 6)])
(.br (.io .eql V1 (.ki 0))
(.rq (.bool (.cell V0 0 0 noI))
(.br (.nt (.cell V0 0 0 noI))
(.ret [(.z 59),(.ki 6)])
(.call false 166 [(.z 218),(.sub V0 1 8 0 noI)]
(.rq (.tup 0 V2)
(.rq (.tup 1 V2)
(.rq (.cells 8 (.proj V2 0))
(.ret [(.ag (.proj V2 0)),(.ki 0)])))))))
(.rq (.bool (.cell V0 0 0 noI))
(.br (.cell V0 0 0 noI)
(.call false 166 [(.z 218),(.sub V0 1 8 0 noI)]
(.rq (.tup 0 V2)
(.rq (.tup 1 V2)
(.rq (.cells 8 (.proj V2 0))
(.ret [(.ag (.proj V2 0)),(.ki 0)])))))
(.ret [(.sub V0 1 8 0 noI),(.ki 0)])))))))):=by kernel_rfl
theorem d6y:a0w prog [] [] [] [⟨1,[0,1,3,7,15,31,0,127,255],[0,0,5,2,0,0,5,0,6],[0,0,0,0,0,0,0,0,1],[0,1,2,6,3,4,5,7],[8]⟩] 219=some (.rq (.cells 8 V1)
(.rq (.bool V0)
(.br V0
(.call true 253 [(.ag V1)]
(.rq (.bool V2)
(.ret [(.cat (.nt V2) 1 (.ag V1))])))
(.ret [(.cat (.k (.bool false)) 1 (.ag V1))])))):=by kernel_rfl
theorem c7C:a0w prog [] [] [] [] 163=some (.rq (.cells 9 V0)
(.rq (.cells 9 V1)
(.rq (.bool (.cell V0 0 0 noI))
(.rq (.bool (.cell V1 0 0 noI))
(.br (.eqb false (.cell V0 0 0 noI) (.cell V1 0 0 noI))
(.call false 218 [(.sub V0 1 8 0 noI),(.sub V1 1 8 0 noI)]
(.rq (.tup 0 V2)
(.rq (.tup 1 V2)
(.rq (.cells 8 (.proj V2 0))
(.call false 219 [(.cell V0 0 0 noI),(.ag (.proj V2 0))]
(.rq (.int .u64 (.proj V2 1))
(.rq (.cells 9 V3)
(.ret [(.ag V3),(.uo .gtr (.proj V2 1) (.k (.int .u64 (0))))]))))))))
(.call false 167 [(.sub V0 1 8 0 noI),(.sub V1 1 8 0 noI)]
(.ri V2
(.br (.io .geq V2 (.ki 0))
(.call false 166 [(.sub V0 1 8 0 noI),(.sub V1 1 8 0 noI)]
(.rq (.tup 0 V3)
(.rq (.tup 1 V3)
(.rq (.cells 8 (.proj V3 0))
(.call false 219 [(.cell V0 0 0 noI),(.ag (.proj V3 0))]
(.rq (.cells 9 V4)
(.ret [(.ag V4),(.k (.bool false))])))))))
(.call false 166 [(.sub V1 1 8 0 noI),(.sub V0 1 8 0 noI)]
(.rq (.tup 0 V3)
(.rq (.tup 1 V3)
(.rq (.cells 8 (.proj V3 0))
(.call false 219 [(.cell V1 0 0 noI),(.ag (.proj V3 0))]
(.rq (.cells 9 V4)
(.ret [(.ag V4),(.k (.bool false))]))))))))))))))):=by kernel_rfl
theorem c9i:a0w prog [] [] [] [] 118=some (.ef false f118 1 0 []
(.ef false f118 1 1 [V0,(.k (.int .u8 (43))),(.k (.func (.func 163) #[] #[]))]
(.ef false f118 1 2 [V0,(.k (.int .u8 (45))),(.k (.func (.func 164) #[] #[]))]
(.ef false f118 1 3 [V0,(.k (.int .u8 (42))),(.k (.func (.func 165) #[] #[]))]
(.ret [V0]))))):=by kernel_rfl
theorem c9j:a0w prog [] [] [] [⟨1,[0,0,3,0,9,0,57,127,255,511,511,0,3071,8191],[2,0,1,5,2,5,2,2,0,0,0,3,4,0],[0,0,0,0,0,1,0,0,0,0,0,0,0,0],[1,3,5,0,2,4,6,7,8,9,10,11],[12,13]⟩] 70=some (.rq (.cells 8 V0)
(.rq (.cells 8 V1)
(.call true 118 []
(.pm f70 1 2 [V3,V2]
(.call true 119 [(.ag V0)]
(.call true 119 [(.ag V1)]
(.ef true f70 1 7 [V4,V5,V6]
(.rq (.tup 0 V7)
(.rq (.tup 1 V7)
(.rq (.cells 9 (.proj V7 0))
(.rq (.bool (.proj V7 1))
(.br (.proj V7 1)
(.ret [(.z 59),(.ki 6)])
(.call false 120 [(.ag (.proj V7 0))]
(.rq (.tup 0 V8)
(.rq (.tup 1 V8)
(.rq (.cells 8 (.proj V8 0))
(.ret [(.ag (.proj V8 0)),(.proj V8 1)]))))))))))))))))):=by kernel_rfl
theorem d6z:a0w prog [] [] [⟨0,4,[],[1]⟩] [] 24=some (.ri V0
(.br (.io .lss V0 (.ki 0))
(.loop [(.ki 1),(.put (.z 59) 0 1 (.cv .u64 V0) 0 noI)]
(.ri V1
(.br (.io .lss V1 (.ki 8))
(.rq (.num V1)
(.rq (.lt 8 V1)
(.next 0 [(.io .add V1 (.ki 1)),(.put V2 0 1 (.k (.int .u64 (18446744073709551615))) 1 V1)])))
(.ret [(.ag V2)]))))
(.ret [(.put (.z 59) 0 1 (.cv .u64 V0) 0 noI)]))):=by kernel_rfl
theorem d3Q:a0w prog [] [] [] [] 23=some (.rq (.cells 8 V0)
(.rq (.cells 8 V1)
(.call false 70 [(.ag V0),(.ag V1),(.k (.int .u8 (43)))]
(.rq (.tup 0 V2)
(.rq (.tup 1 V2)
(.rq (.cells 8 (.proj V2 0))
(.ret [(.ag (.proj V2 0)),(.proj V2 1)]))))))):=by kernel_rfl
theorem c4g:a0w prog [] [] [] [] 208=some (.ru V0
(.ru V1
(.ret [(.uo .add (.uo .add (.uo .mul (.uo .shr V0 (.k (.int .u64 (32)))) (.uo .shr V1 (.k (.int .u64 (32))))) (.uo .shr (.uo .add (.uo .mul (.uo .shr V0 (.k (.int .u64 (32)))) (.uo .and V1 (.k (.int .u64 (4294967295))))) (.uo .shr (.uo .mul (.uo .and V0 (.k (.int .u64 (4294967295)))) (.uo .and V1 (.k (.int .u64 (4294967295))))) (.k (.int .u64 (32))))) (.k (.int .u64 (32))))) (.uo .shr (.uo .add (.uo .and (.uo .add (.uo .mul (.uo .shr V0 (.k (.int .u64 (32)))) (.uo .and V1 (.k (.int .u64 (4294967295))))) (.uo .shr (.uo .mul (.uo .and V0 (.k (.int .u64 (4294967295)))) (.uo .and V1 (.k (.int .u64 (4294967295))))) (.k (.int .u64 (32))))) (.k (.int .u64 (4294967295)))) (.uo .mul (.uo .and V0 (.k (.int .u64 (4294967295)))) (.uo .shr V1 (.k (.int .u64 (32)))))) (.k (.int .u64 (32))))),(.uo .mul V0 V1)]))):=by kernel_rfl
theorem c4h:a0w prog [] [(20,false),(24,false)] [⟨3,16,[2,8,9,10,11,13,14,15,16],[]⟩,⟨1,0,[15],[]⟩,⟨3,23,[17,18,16],[]⟩,⟨1,2,[18],[]⟩,⟨0,17,[],[]⟩,⟨0,24,[],[]⟩] [⟨6,[0,0,3,0,0,24,7,127],[0,0,0,0,0,0,0,0],[0,0,0,0,0,0,0,0],[0,1,2,3,4,5,6,7],[]⟩] 248=some (.ru V2
(.rq (.isb false (.uo .eql V2 (.k (.int .u64 (0)))))
(.ru V0
(.rq (.isb false (.uo .leq V2 V0))
(.br (.uo .eql V0 (.k (.int .u64 (0))))
(.ru V1
(.rq (.nz V2)
(.ret [(.uo .quo V1 V2),(.uo .rem V1 V2)])))
(.call false 266 [V2]
(.ri V3
(.rq (.nn (.cv .u64 V3))
(.ru V1
(.rq (.nn (.uo .sub (.k (.int .u64 (64))) (.cv .u64 V3)))
(.rq (.nz (.uo .shr (.uo .shl V2 (.cv .u64 V3)) (.k (.int .u64 (32)))))
(.join 9
(.next 0 [(.uo .shl V2 (.cv .u64 V3)),(.cv .u64 V3),(.uo .shr (.uo .shl V2 (.cv .u64 V3)) (.k (.int .u64 (32)))),(.uo .and (.uo .shl V2 (.cv .u64 V3)) (.k (.int .u64 (4294967295)))),(.uo .or (.uo .shl V0 (.cv .u64 V3)) (.uo .shr V1 (.uo .sub (.k (.int .u64 (64))) (.cv .u64 V3)))),(.uo .shr (.uo .shl V1 (.cv .u64 V3)) (.k (.int .u64 (32)))),(.uo .and (.uo .shl V1 (.cv .u64 V3)) (.k (.int .u64 (4294967295)))),(.uo .quo (.uo .or (.uo .shl V0 (.cv .u64 V3)) (.uo .shr V1 (.uo .sub (.k (.int .u64 (64))) (.cv .u64 V3)))) (.uo .shr (.uo .shl V2 (.cv .u64 V3)) (.k (.int .u64 (32))))),(.uo .sub (.uo .or (.uo .shl V0 (.cv .u64 V3)) (.uo .shr V1 (.uo .sub (.k (.int .u64 (64))) (.cv .u64 V3)))) (.uo .mul (.uo .quo (.uo .or (.uo .shl V0 (.cv .u64 V3)) (.uo .shr V1 (.uo .sub (.k (.int .u64 (64))) (.cv .u64 V3)))) (.uo .shr (.uo .shl V2 (.cv .u64 V3)) (.k (.int .u64 (32))))) (.uo .shr (.uo .shl V2 (.cv .u64 V3)) (.k (.int .u64 (32))))))])
(.join 1
(.loop [V11,V12]
(.ru V13
(.br (.uo .geq V13 (.k (.int .u64 (4294967296))))
(.ru V14
(.ru V6
(.br (.uo .geq (.uo .add V14 V6) (.k (.int .u64 (4294967296))))
(.next 0 [(.uo .sub V13 (.k (.int .u64 (1))))])
(.next 1 [(.uo .sub V13 (.k (.int .u64 (1)))),(.uo .add V14 V6)]))))
(.ru V7
(.ru V14
(.ru V9
(.br (.uo .gtr (.uo .mul V13 V7) (.uo .add (.uo .mul (.k (.int .u64 (4294967296))) V14) V9))
(.ru V6
(.br (.uo .geq (.uo .add V14 V6) (.k (.int .u64 (4294967296))))
(.next 0 [(.uo .sub V13 (.k (.int .u64 (1))))])
(.next 1 [(.uo .sub V13 (.k (.int .u64 (1)))),(.uo .add V14 V6)])))
(.next 0 [V13]))))))))
(.ru V8
(.ru V9
(.ru V13
(.ru V4
(.ru V6
(.rq (.nz V6)
(.join 3
(.next 0 [(.uo .sub (.uo .add (.uo .mul V8 (.k (.int .u64 (4294967296)))) V9) (.uo .mul V13 V4)),(.uo .quo (.uo .sub (.uo .add (.uo .mul V8 (.k (.int .u64 (4294967296)))) V9) (.uo .mul V13 V4)) V6),(.uo .sub (.uo .sub (.uo .add (.uo .mul V8 (.k (.int .u64 (4294967296)))) V9) (.uo .mul V13 V4)) (.uo .mul (.uo .quo (.uo .sub (.uo .add (.uo .mul V8 (.k (.int .u64 (4294967296)))) V9) (.uo .mul V13 V4)) V6) V6))])
(.join 1
(.loop [V15,V16]
(.ru V17
(.br (.uo .geq V17 (.k (.int .u64 (4294967296))))
(.ru V18
(.br (.uo .geq (.uo .add V18 V6) (.k (.int .u64 (4294967296))))
(.next 0 [(.uo .sub V17 (.k (.int .u64 (1))))])
(.next 1 [(.uo .sub V17 (.k (.int .u64 (1)))),(.uo .add V18 V6)])))
(.ru V7
(.ru V18
(.ru V10
(.br (.uo .gtr (.uo .mul V17 V7) (.uo .add (.uo .mul (.k (.int .u64 (4294967296))) V18) V10))
(.br (.uo .geq (.uo .add V18 V6) (.k (.int .u64 (4294967296))))
(.next 0 [(.uo .sub V17 (.k (.int .u64 (1))))])
(.next 1 [(.uo .sub V17 (.k (.int .u64 (1)))),(.uo .add V18 V6)]))
(.next 0 [V17]))))))))
(.ru V17
(.ru V14
(.ru V10
(.rq (.num V5)
(.rq (.nn V5)
(.ret [(.uo .add (.uo .mul V13 (.k (.int .u64 (4294967296)))) V17),(.uo .shr (.uo .sub (.uo .add (.uo .mul V14 (.k (.int .u64 (4294967296)))) V10) (.uo .mul V17 V4)) V5)]))))))))))))))))))))))))))):=by kernel_rfl
theorem c4i:a0w prog [] [] [⟨2,4,[0,2],[]⟩,⟨2,8,[0,2],[]⟩,⟨2,14,[0,2],[]⟩] [] 177=some (.ru V0
(.join 2
(.br (.uo .geq V0 (.k (.int .u64 (4294967296))))
(.next 0 [(.uo .shr V0 (.k (.int .u64 (32)))),(.ki 32)])
(.next 0 [V0,(.ki 0)]))
(.ru V1
(.join 2
(.br (.uo .geq V1 (.k (.int .u64 (65536))))
(.ri V2
(.next 0 [(.uo .shr V1 (.k (.int .u64 (16)))),(.io .add V2 (.ki 16))]))
(.next 0 [V1,V2]))
(.ru V3
(.join 2
(.br (.uo .geq V3 (.k (.int .u64 (256))))
(.ri V4
(.next 0 [(.uo .shr V3 (.k (.int .u64 (8)))),(.io .add V4 (.ki 8))]))
(.next 0 [V3,V4]))
(.ru V5
(.pm f177 10 3 [(.k (.string ⟨#[0,1,2,2,3,3,3,3,4,4,4,4,4,4,4,4,5,5,5,5,5,5,5,5,5,5,5,5,5,5,5,5,6,6,6,6,6,6,6,6,6,6,6,6,6,6,6,6,6,6,6,6,6,6,6,6,6,6,6,6,6,6,6,6,7,7,7,7,7,7,7,7,7,7,7,7,7,7,7,7,7,7,7,7,7,7,7,7,7,7,7,7,7,7,7,7,7,7,7,7,7,7,7,7,7,7,7,7,7,7,7,7,7,7,7,7,7,7,7,7,7,7,7,7,7,7,7,7,8,8,8,8,8,8,8,8,8,8,8,8,8,8,8,8,8,8,8,8,8,8,8,8,8,8,8,8,8,8,8,8,8,8,8,8,8,8,8,8,8,8,8,8,8,8,8,8,8,8,8,8,8,8,8,8,8,8,8,8,8,8,8,8,8,8,8,8,8,8,8,8,8,8,8,8,8,8,8,8,8,8,8,8,8,8,8,8,8,8,8,8,8,8,8,8,8,8,8,8,8,8,8,8,8,8,8,8,8,8,8,8,8,8,8,8,8,8,8,8,8,8,8,8,8,8,8,8]⟩)),(.cv .u8 V5)]
(.rq (.int .u8 V7)
(.ri V6
(.ret [(.io .add V6 (.cv .i64 V7))]))))))))))):=by kernel_rfl
theorem c9k:a0w prog [] [] [] [] 266=some (.call false 177 [V0]
(.ri V1
(.ret [(.io .sub (.ki 64) V1)]))):=by kernel_rfl
end Go.Proofs.YtlmgkkjgdapnpaaGreatDoor

/- Digits to the base 2^32: plain. -/
import Derived.Test.YtkcjbfoejpfbbaaGreatDoorWdG
import Derived.Test.YtkcjbfoejpfbbaaGreatDoorWdT
import Derived.Test.YtkcjbfoejpfbbaaGreatDoorRxT
namespace Go.WD
open Go.RX
@[irreducible] def BP (k:Nat):Nat:=2^(32*k)
theorem a7i:BP 0=1:=by unfold BP;rfl
theorem a2W (k:Nat):BP (k+1)=BP k*4294967296:=by unfold BP;rw[Nat.mul_succ,Nat.pow_add]
theorem c9c (k:Nat):0<BP k:=by unfold BP;exact Nat.pow_pos (by omega)
theorem d4l (i j:Nat):BP (i+j)=BP i*BP j:=by unfold BP;rw[Nat.mul_add,Nat.pow_add]
theorem d1s {i j:Nat} (h:i<=j):BP i<=BP j:=by unfold BP;exact Nat.pow_le_pow_right (by omega) (by omega)
theorem BP_lt_iff {i j:Nat}:BP i<BP j↔i<j:=by
 constructor
 ·intro h;rcases Nat.lt_or_ge i j with h1|h1
  ·exact h1
  ·have:=d1s h1;omega
 ·intro h
  have h1:=d1s (show i+1<=j from h)
  have h2:=c9c i
  rw[a2W]at h1;omega
theorem d4m (k:Nat):BP (2*k)=PW k:=by unfold BP PW;rw[<-Nat.mul_assoc]
theorem d8x:BP 16=M:=by rw[b6k,<-d4m]
def vl:List Nat->Nat
 |[]=>0
 |d::l=>d+4294967296*vl l
def Dg (l:List Nat):Prop:=∀d∈l,d<4294967296
theorem Dg.nil:Dg []:=fun _ h=>by cases h
theorem Dg.append {a b:List Nat} (ha:Dg a) (hb:Dg b):Dg (a++b):=fun d hd=>by
 rcases List.mem_append.1 hd with h|h
 ·exact ha d h
 ·exact hb d h
theorem Dg.one {d:Nat} (h:d<4294967296):Dg [d]:=fun e he=>by rw[List.mem_singleton]at he;omega
theorem Dg.take {l:List Nat} (h:Dg l) (k:Nat):Dg (l.take k):=fun d hd=>h d (List.mem_of_mem_take hd)
theorem Dg.drop {l:List Nat} (h:Dg l) (k:Nat):Dg (l.drop k):=fun d hd=>h d (List.mem_of_mem_drop hd)
theorem Dg.set {l:List Nat} (h:Dg l) (k:Nat) {x:Nat} (hx:x<4294967296):Dg (l.set k x):=fun d hd=>by
 rcases List.mem_or_eq_of_mem_set hd with h1|h1
 ·exact h d h1
 ·omega
theorem Dg.zeros (n:Nat):Dg (List.replicate n 0):=fun d hd=>by rw[List.mem_replicate]at hd;omega
theorem Dg.at {l:List Nat} (h:Dg l) (k:Nat):l.getD k 0<4294967296:=by
 rw[List.getD_eq_getElem?_getD]
 cases e:l[k]? with
 |none=>simp
 |some d=>exact h d (List.mem_of_getElem? e)
theorem a3C:∀(a b:List Nat),vl (a++b)=vl a+BP a.length*vl b
 |[],b=>by simp[vl,a7i]
 |d::a,b=>by
  rw[List.cons_append,vl,vl,a3C a b,List.length_cons,a2W,Nat.mul_add,<-Nat.add_assoc,<-Nat.mul_assoc,Nat.mul_comm (BP a.length)]
theorem c9d (d:Nat):vl [d]=d:=by simp[vl]
theorem b1I:∀{l:List Nat},Dg l->vl l<BP l.length
 |[],_=>by simp[vl,a7i]
 |d::l,h=>by
  have h1:=b1I (l:=l) fun e he=>h e (by simp[he])
  have h2:=h d (by simp)
  rw[vl,List.length_cons,a2W]
  omega
theorem a9P:∀n,vl (List.replicate n 0)=0
 |0=>rfl
 |n+1=>by rw[List.replicate_succ,vl,a9P n]
theorem d1t {l:List Nat} {k:Nat} (h:k<l.length):l[k]? =some (l.getD k 0):=by
 rw[List.getD_eq_getElem?_getD,List.getElem?_eq_getElem h];rfl
theorem b6x {l:List Nat} {k:Nat} (h:k<l.length):l.take (k+1)=l.take k++[l.getD k 0]:=by
 rw[List.take_add_one,d1t h];rfl
theorem a9Q {l:List Nat} {k:Nat} (h:k<l.length):l.drop k=l.getD k 0::l.drop (k+1):=by
 have:=List.drop_eq_getElem_cons h
 rw[this]
 congr 1
 rw[List.getD_eq_getElem?_getD,List.getElem?_eq_getElem h];rfl
theorem a1P {l:List Nat} {k:Nat} (h:k<l.length):vl (l.take (k+1))=vl (l.take k)+BP k*l.getD k 0:=by
 rw[b6x h,a3C,c9d,List.length_take,Nat.min_eq_left (by omega)]
theorem a8u {l:List Nat} {k:Nat} (h:k<l.length):vl (l.drop k)=l.getD k 0+4294967296*vl (l.drop (k+1)):=by
 rw[a9Q h];rfl
theorem b4P (l:List Nat) {k:Nat} (h:k<=l.length):vl l=vl (l.take k)+BP k*vl (l.drop k):=by
 have:=a3C (l.take k) (l.drop k)
 rwa[List.take_append_drop,List.length_take,Nat.min_eq_left h]at this
theorem b4Q:∀{l:List Nat} {k:Nat} (x:Nat),k<l.length->vl (l.set k x)+BP k*l.getD k 0=vl l+BP k*x
 |[],k,x,h=>by simp at h
 |d::l,0,x,_=>by simp[vl,a7i];omega
 |d::l,k+1,x,h=>by
  have ih:=b4Q (l:=l) (k:=k) x (by simpa using h)
  have e:(d::l).getD (k+1) 0=l.getD k 0:=rfl
  rw[List.set_cons_succ,vl,vl,e,a2W,Nat.mul_comm (BP k),Nat.mul_assoc,Nat.mul_assoc]
  have h1:4294967296*vl (l.set k x)+4294967296*(BP k*l.getD k 0)=4294967296*vl l+4294967296*(BP k*x):=by rw[<-Nat.mul_add,ih,Nat.mul_add]
  omega
theorem a7j {l:List Nat} {k x:Nat} (h:k<l.length):(l.set k x).getD k 0=x:=by
 rw[List.getD_eq_getElem?_getD,List.getElem?_set,if_pos rfl,if_pos h];rfl
theorem a7k {l:List Nat} {k j x:Nat} (h:j≠k):(l.set k x).getD j 0=l.getD j 0:=by
 rw[List.getD_eq_getElem?_getD,List.getD_eq_getElem?_getD,List.getElem?_set,if_neg (fun e=>h e.symm)]
theorem c6U {l:List Nat} {k j x:Nat} (h:k<j):(l.set k x).drop j=l.drop j:=by
 apply List.ext_getElem?
 intro i
 rw[List.getElem?_drop,List.getElem?_drop,List.getElem?_set,if_neg (by omega)]
theorem a9R (n k:Nat):(List.replicate n 0).getD k 0=0:=by
 rw[List.getD_eq_getElem?_getD,List.getElem?_replicate];split<;>rfl
theorem a7l {l:List Nat} {k:Nat} (h:l.length<=k):l.getD k 0=0:=by
 rw[List.getD_eq_getElem?_getD,List.getElem?_eq_none h];rfl
def Tm (l:List Nat):Prop:=∀k,vl l<BP k->l.length<=k
theorem Tm.nil:Tm []:=fun _ _=>Nat.zero_le _
theorem d7c {l:List Nat} {n:Nat} (hl:l.length=n+1) (h:l.getD n 0≠0):BP n<=vl l:=by
 have h1:=a1P (l:=l) (k:=n) (by omega)
 rw[List.take_of_length_le (by omega)]at h1
 have:=Nat.mul_le_mul_left (BP n) (show 1<=l.getD n 0 by omega)
 omega
theorem Tm.of {l:List Nat} {n:Nat} (hl:l.length=n+1) (h:l.getD n 0≠0):Tm l:=fun k hk=>by
 have:=BP_lt_iff.1 (Nat.lt_of_le_of_lt (d7c hl h) hk)
 omega
theorem Tm.ge {l:List Nat} (h:Tm l) {n:Nat} (hl:l.length=n+1):BP n<=vl l:=by
 rcases Nat.lt_or_ge (vl l) (BP n)with h1|h1
 ·have:=h n h1;omega
 ·exact h1
theorem Tm.len_le {a b:List Nat} (ha:Tm a) (hb:Dg b) (h:vl a<=vl b):a.length<=b.length:=ha _ (Nat.lt_of_le_of_lt h (b1I hb))
theorem Tm.lt_of_len {a b:List Nat} (ha:Dg a) (hb:Tm b) (h:a.length<b.length):vl a<vl b:=by
 obtain⟨n,hn⟩:∃n,b.length=n+1:=⟨b.length-1,by omega⟩
 exact Nat.lt_of_lt_of_le (b1I ha) (Nat.le_trans (d1s (by omega)) (hb.ge hn))
theorem Tm.pos {l:List Nat} (h:Tm l):0<l.length↔0<vl l:=by
 constructor
 ·intro hl
  obtain⟨n,hn⟩:∃n,l.length=n+1:=⟨l.length-1,by omega⟩
  exact Nat.lt_of_lt_of_le (c9c n) (h.ge hn)
 ·intro hv
  cases l with
  |nil=>simp[vl]at hv
  |cons d l=>simp
theorem b4R {a b:List Nat} {i:Nat} (ha:Dg a) (hb:Dg b) (hia:i<a.length) (hib:i<b.length) (hd:a.drop (i+1)=b.drop (i+1)) (h:a.getD i 0<b.getD i 0):vl a<vl b:=by
 have e1:=b4P a (show i+1<=a.length by omega)
 have e2:=b4P b (show i+1<=b.length by omega)
 have f1:=a1P hia
 have f2:=a1P hib
 have g1:=b1I (ha.take i)
 rw[List.length_take,Nat.min_eq_left (by omega)]at g1
 have h2:=Nat.mul_le_mul_left (BP i) (show a.getD i 0+1<=b.getD i 0 from h)
 rw[Nat.mul_add]at h2
 rw[hd]at e1
 omega
end Go.WD
/- MADE BY rxgen.py: the trees of the reference of chapter 01. -/
namespace Go.Proofs.YtkcjbfoejpfbbaaGreatDoor
open Go.Proofs.Tryz
open Go.RowKit Go.RX
theorem d1u:tree prog [] [] [⟨3,2,[15],[]⟩,⟨0,2,[],[]⟩] [] 123=some (.pm f123 1 1 [V0]
(.loop [V1]
(.join 1
(.ri V2
(.br (.io .gtr V2 (.ki 0))
(.pm f123 2 6 [V0,(.io .sub V2 (.ki 1))]
(.pm f123 2 7 [V3]
(.ri V4
(.next 1 [(.io .eql V4 (.ki 0))]))))
(.next 1 [(.k (.bool false))])))
(.rq (.bool V3)
(.br V3
(.ri V2
(.next 0 [(.io .sub V2 (.ki 1))]))
(.pm f123 4 2 [V0,V2]
(.ret [V4]))))))):=by kernel_rfl
theorem b3e:(opr f123 4 2).op= .slice 32 (.tmp 18) none (some (.tmp 19)) none:=by kernel_rfl
theorem c6V:tree prog [] [] [] [] 121=some (.call false 123 [V1]
(.rq (.bool V0)
(.br V0
(.pm f121 2 3 [V2]
(.ri V3
(.rq (.cells 1 V2)
(.ret [(.cat (.io .gtr V3 (.ki 0)) 1 V2)]))))
(.rq (.cells 1 V2)
(.ret [(.cat (.k (.bool false)) 1 V2)]))))):=by kernel_rfl
theorem b6y:tree prog [] [] [⟨0,3,[],[]⟩] [⟨5,[0,0,2,6,14,30,0,64,192,448,960,2046,4095,8191],[0,0,1,1,0,0,0,1,1,0,0,2,4,0],[0,0,0,0,0,0,0,0,0,0,0,0,0,0],[0,1,2,3,4,5,6,7,8,9,10,11],[12,13]⟩] 120=some (.rq (.cells 8 V0)
(.loop [(.k (.slice none 0 0)),(.ki 0)]
(.ri V2
(.br (.io .lss V2 (.ki 8))
(.rq (.num V2)
(.rq (.lt 8 V2)
(.rq (.int .u64 (.cell V0 0 1 V2))
(.ef true f120 5 11 [(.cv .i64 (.uo .rem (.cell V0 0 1 V2) (kU 4294967296))),(.cv .i64 (.uo .quo (.cell V0 0 1 V2) (kU 4294967296)))]
(.ef false f120 5 12 [V1,V3]
(.next 0 [V4,(.io .add V2 (.ki 1))]))))))
(.ret [V1]))))):=by kernel_rfl
theorem d4n:tree prog [] [] [] [] 61=some (.rq (.cells 8 V0)
(.call false 120 [(.ag V0)]
(.rq (.int .u64 (.cell V0 7 0 noI))
(.br (.uo .lss (.cell V0 7 0 noI) (kU 9223372036854775808))
(.call false 121 [(.k (.bool false)),V1]
(.rq (.cells 2 V2)
(.ret [(.ag V2)])))
(.ef false f61 4 0 [(.ki 17),(.ki 17)]
(.pm f61 5 1 [V2,(.ki 16)]
(.ef false f61 5 2 [V3,(.ki 1)]
(.call false 123 [V1]
(.call false 122 [V2,V5]
(.call false 121 [(.k (.bool true)),V6]
(.rq (.cells 2 V7)
(.ret [(.ag V7)])))))))))))):=by kernel_rfl
theorem c1P:tree prog [] [] [⟨2,9,[4],[]⟩] [] 63=some (.ri V0
(.join 1
(.br (.io .lss V0 (.ki 0))
(.next 0 [(.op1 .neg .u64 (.cv .u64 V0))])
(.next 0 [(.cv .u64 V0)]))
(.ru V1
(.ef false f63 5 7 [(.cv .i64 (.uo .rem V1 (kU 4294967296))),(.cv .i64 (.uo .quo V1 (kU 4294967296)))]
(.call false 121 [(.io .lss V0 (.ki 0)),V2]
(.rq (.cells 2 V3)
(.ret [(.ag V3)]))))))):=by kernel_rfl
theorem c1Q:tree prog [] [] [⟨0,4,[],[]⟩] [⟨6,[0,0,3,7,0,0,48,112,255],[0,0,1,1,0,0,1,1,0],[0,0,0,0,0,0,0,0,0],[0,1,2,3,4,5,6,7,8],[]⟩,⟨7,[0,0,3,7,0,0,48,112,255,511],[0,0,1,1,0,0,1,1,0,0],[0,0,0,0,0,0,0,0,0,0],[0,1,2,3,4,5,6,7,8,9],[]⟩] 124=some (.pm f124 1 1 [V0]
(.pm f124 1 3 [V1]
(.ri V2
(.ri V3
(.br (.io .neq V2 V3)
(.pm f124 2 1 [V0]
(.pm f124 2 3 [V1]
(.ri V4
(.ri V5
(.ret [(.io .sub V4 V5)])))))
(.pm f124 3 1 [V0]
(.ri V4
(.loop [(.ki 0),(.io .sub V4 (.ki 1))]
(.ri V6
(.br (.io .geq V6 (.ki 0))
(.pm f124 6 2 [V0,V6]
(.pm f124 6 3 [V7]
(.pm f124 6 6 [V1,V6]
(.pm f124 6 7 [V9]
(.ri V8
(.ri V10
(.br (.io .neq V8 V10)
(.pm f124 7 2 [V0,V6]
(.pm f124 7 3 [V11]
(.pm f124 7 6 [V1,V6]
(.pm f124 7 7 [V13]
(.ri V12
(.ri V14
(.ret [(.io .sub V12 V14)])))))))
(.next 0 [V5,(.io .sub V6 (.ki 1))]))))))))
(.ret [(.ki 0)]))))))))))):=by kernel_rfl
theorem c6W:tree prog [] [] [⟨3,4,[21],[]⟩,⟨2,27,[6],[]⟩,⟨2,37,[6],[]⟩,⟨0,4,[],[]⟩] [] 231=some (.loop [(.k (.slice none 0 0)),(.ki 0),(.ki 0)]
(.join 1
(.pm f231 4 2 [V0]
(.ri V4
(.ri V5
(.br (.io .lss V4 V5)
(.next 1 [(.k (.bool true))])
(.pm f231 4 7 [V1]
(.ri V6
(.br (.io .lss V4 V6)
(.next 1 [(.k (.bool true))])
(.ri V3
(.next 1 [(.io .gtr V3 (.ki 0))])))))))))
(.rq (.bool V5)
(.br V5
(.pm f231 6 2 [V0]
(.ri V4
(.ri V6
(.join 1
(.br (.io .lss V4 V6)
(.pm f231 7 3 [V0,V4]
(.pm f231 7 4 [V7]
(.ri V3
(.ri V8
(.next 1 [(.io .add V3 V8)])))))
(.next 1 [V3]))
(.pm f231 8 2 [V1]
(.ri V8
(.join 1
(.br (.io .lss V4 V8)
(.pm f231 9 3 [V1,V4]
(.pm f231 9 4 [V9]
(.ri V7
(.ri V10
(.next 1 [(.io .add V7 V10)])))))
(.next 1 [V7]))
(.ri V9
(.ef false f231 10 3 [(.io .rem V9 (.ki 4294967296))]
(.ef false f231 10 4 [V2,V10]
(.next 0 [V11,(.io .quo V9 (.ki 4294967296)),(.io .add V4 (.ki 1))])))))))))))
(.ret [V2]))))):=by kernel_rfl
theorem c6X:tree prog [] [] [⟨2,24,[8],[]⟩,⟨2,32,[8,6],[]⟩,⟨0,4,[],[]⟩] [] 122=some (.loop [(.ki 0),(.k (.slice none 0 0)),(.ki 0)]
(.pm f122 4 2 [V0]
(.ri V4
(.ri V5
(.br (.io .lss V4 V5)
(.pm f122 6 2 [V0,V4]
(.pm f122 6 3 [V6]
(.ri V7
(.ri V2
(.pm f122 7 2 [V1]
(.ri V8
(.join 1
(.br (.io .lss V4 V8)
(.pm f122 8 3 [V1,V4]
(.pm f122 8 4 [V9]
(.ri V10
(.next 1 [(.io .sub (.io .sub V7 V2) V10)]))))
(.next 1 [(.io .sub V7 V2)]))
(.ri V9
(.join 2
(.br (.io .lss V9 (.ki 0))
(.next 1 [(.io .add V9 (.ki 4294967296)),(.ki 1)])
(.next 1 [V9,(.ki 0)]))
(.ef false f122 13 2 [V10]
(.ef false f122 13 3 [V3,V12]
(.next 0 [V11,V13,(.io .add V4 (.ki 1))]))))))))))))
(.call false 123 [V3]
(.ret [V6]))))))):=by kernel_rfl
theorem b3f:tree prog [] [] [⟨0,3,[],[]⟩,⟨0,7,[],[]⟩] [⟨9,[0,0,0,0,12,30,62,126,255,0,0,1536,3584,7680,0,0,49152,114688,245760,523776,1048575,2097151],[0,0,0,0,0,1,1,0,0,0,0,1,1,0,0,0,1,1,0,0,0,0],[0,0,0,0,0,0,0,0,0,0,0,0,0,0,0,0,0,0,0,0,0,0],[0,1,2,3,4,5,6,7,8,9,10,11,12,13,14,15,16,17,18,19,20,21],[]⟩] 191=some (.pm f191 1 1 [V0]
(.pm f191 1 3 [V1]
(.ri V2
(.ri V3
(.ef false f191 1 5 [(.io .add V2 V3),(.io .add V2 V3)]
(.loop [(.ki 0)]
(.pm f191 3 2 [V0]
(.ri V5
(.ri V6
(.br (.io .lss V5 V6)
(.loop [(kU 0),(.ki 0)]
(.pm f191 7 2 [V1]
(.ri V8
(.ri V9
(.br (.io .lss V8 V9)
(.pm f191 9 5 [V4,(.io .add V5 V8)]
(.pm f191 9 6 [V10]
(.ri V11
(.ru V7
(.pm f191 9 11 [V0,V5]
(.pm f191 9 12 [V12]
(.ri V13
(.pm f191 9 16 [V1,V8]
(.pm f191 9 17 [V14]
(.ri V15
(.pm f191 10 7 [V4,(.io .add V5 V8)]
(.ef false f191 10 8 [V16,(.cv .i64 (.uo .rem (.uo .add (.uo .add V7 (.cv .u64 V11)) (.uo .mul (.cv .u64 V13) (.cv .u64 V15))) (kU 4294967296)))]
(.next 1 [(.uo .quo (.uo .add (.uo .add V7 (.cv .u64 V11)) (.uo .mul (.cv .u64 V13) (.cv .u64 V15))) (kU 4294967296)),(.io .add V8 (.ki 1))])))))))))))))
(.pm f191 12 3 [V1]
(.ri V10
(.ru V7
(.pm f191 12 7 [V4,(.io .add V5 V10)]
(.ef false f191 12 8 [V11,(.cv .i64 V7)]
(.next 0 [(.io .add V5 (.ki 1))])))))))))))
(.call false 123 [V4]
(.ret [V7])))))))))))):=by kernel_rfl
theorem c1R:tree prog [] [] [⟨0,3,[],[]⟩] [] 230=some (.loop [(.k (.slice none 0 0)),V1,(.ki 0)]
(.pm f230 3 2 [V0]
(.ri V4
(.ri V5
(.br (.io .lss V4 V5)
(.pm f230 5 2 [V0,V4]
(.pm f230 5 3 [V6]
(.ri V7
(.ri V3
(.ef false f230 6 3 [(.io .rem (.io .add (.io .mul (.ki 2) V7) V3) (.ki 4294967296))]
(.ef false f230 6 4 [V2,V8]
(.next 0 [V9,(.io .quo (.io .add (.io .mul (.ki 2) V7) V3) (.ki 4294967296)),(.io .add V4 (.ki 1))])))))))
(.ef false f230 8 2 [V3]
(.ef false f230 8 3 [V2,V6]
(.call false 123 [V7]
(.ret [V8]))))))))):=by kernel_rfl
theorem c1S:tree prog [] [] [⟨0,7,[],[]⟩,⟨0,10,[],[]⟩] [⟨15,[0,0,0,0,12,28,0,64,252,511,1023],[0,0,0,0,1,1,0,0,0,1,4],[0,0,0,0,0,0,0,0,0,0,0],[0,1,2,3,4,5,6,7,8,9],[10]⟩] 189=some (.pm f189 1 1 [V1]
(.ri V2
(.pm f189 2 1 [V0]
(.ri V3
(.br (.io .leq V3 (.io .sub V2 (.ki 1)))
(.ef false f189 3 0 []
(.ef false f189 3 2 [V4,V0]
(.ret [(.k (.slice none 0 0)),V5])))
(.pm f189 4 1 [V0]
(.ri V4
(.ef false f189 4 4 [(.io .sub V4 (.io .sub V2 (.ki 1))),(.io .sub V4 (.io .sub V2 (.ki 1)))]
(.ef false f189 5 0 []
(.pm f189 5 3 [V0]
(.ri V7
(.pm f189 5 6 [V0,(.io .sub V7 (.io .sub V2 (.ki 1)))]
(.ef false f189 5 7 [V6,V8]
(.pm f189 6 1 [V5]
(.ri V10
(.loop [V9,(.io .sub V10 (.ki 1))]
(.ri V12
(.br (.io .geq V12 (.ki 0))
(.loop [V11,(.ki 31)]
(.ri V14
(.br (.io .geq V14 (.ki 0))
(.pm f189 12 3 [V0,V12]
(.pm f189 12 4 [V15]
(.ri V16
(.rq (.num V14)
(.rq (.nn V14)
(.call false 230 [V13,(.io .rem (.io .shr V16 V14) (.ki 2))]
(.call false 124 [V17,V1]
(.ri V18
(.br (.io .geq V18 (.ki 0))
(.call false 122 [V17,V1]
(.pm f189 15 4 [V5,V12]
(.pm f189 15 5 [V20]
(.ri V21
(.pm f189 15 9 [V5,V12]
(.ef false f189 15 10 [V22,(.io .add V21 (.io .shl (.ki 1) V14))]
(.next 1 [V19,(.io .sub V14 (.ki 1))])))))))
(.next 1 [V17,(.io .sub V14 (.ki 1))]))))))))))
(.next 0 [V13,(.io .sub V12 (.ki 1))]))))
(.call false 123 [V5]
(.ret [V13,V11])))))))))))))))))))):=by kernel_rfl
theorem a9S:(opr f189 5 6).op= .slice 32 (.tmp 27) (some (.tmp 31)) none none:=by kernel_rfl
theorem c6Y:tree prog [] [] [] [] 222=some (.rq (.cells 2 V0)
(.rq (.bool (.cell V0 0 0 noI))
(.call false 121 [(.nt (.cell V0 0 0 noI)),(.cell V0 1 0 noI)]
(.rq (.cells 2 V1)
(.ret [(.ag V1)]))))):=by kernel_rfl
theorem c6Z:tree prog [] [] [] [⟨2,[0,1,0,4,0,16,60,127,255],[1,1,1,1,1,1,2,2,6],[0,0,0,0,0,0,0,0,2],[0,1,2,3,4,5,6,7],[8]⟩,⟨4,[0,1,0,4,0,16,60,127,255],[1,1,1,1,1,1,2,2,6],[0,0,0,0,0,0,0,0,2],[0,1,2,3,4,5,6,7],[8]⟩,⟨5,[0,1,0,4,0,16,60,127,255],[1,1,1,1,1,1,2,2,6],[0,0,0,0,0,0,0,0,2],[0,1,2,3,4,5,6,7],[8]⟩] 190=some (.rq (.cells 2 V0)
(.rq (.cells 2 V1)
(.rq (.bool (.cell V0 0 0 noI))
(.rq (.bool (.cell V1 0 0 noI))
(.br (.eqb false (.cell V0 0 0 noI) (.cell V1 0 0 noI))
(.call true 231 [(.cell V0 1 0 noI),(.cell V1 1 0 noI)]
(.call true 121 [(.cell V0 0 0 noI),V2]
(.rq (.cells 2 V3)
(.ret [(.ag V3)]))))
(.call false 124 [(.cell V0 1 0 noI),(.cell V1 1 0 noI)]
(.ri V2
(.br (.io .geq V2 (.ki 0))
(.call true 122 [(.cell V0 1 0 noI),(.cell V1 1 0 noI)]
(.call true 121 [(.cell V0 0 0 noI),V3]
(.rq (.cells 2 V4)
(.ret [(.ag V4)]))))
(.call true 122 [(.cell V1 1 0 noI),(.cell V0 1 0 noI)]
(.call true 121 [(.cell V1 0 0 noI),V3]
(.rq (.cells 2 V4)
(.ret [(.ag V4)])))))))))))):=by kernel_rfl
theorem c1T:tree prog [] [] [] [⟨1,[0,0,2,7,15],[5,5,2,2,6],[0,1,0,0,2],[0,1,2,3],[4]⟩] 182=some (.rq (.cells 2 V0)
(.rq (.cells 2 V1)
(.call true 222 [(.ag V1)]
(.call true 190 [(.ag V0),V2]
(.rq (.cells 2 V3)
(.ret [(.ag V3)])))))):=by kernel_rfl
theorem c1U:tree prog [] [] [] [⟨1,[0,1,0,4,15,0,32,0,128,480,1023,2047],[1,1,1,1,0,1,1,1,1,2,2,6],[0,0,0,0,0,0,0,0,0,0,0,2],[0,1,2,3,4,5,6,7,8,9,10],[11]⟩] 139=some (.rq (.cells 2 V0)
(.rq (.cells 2 V1)
(.rq (.bool (.cell V0 0 0 noI))
(.rq (.bool (.cell V1 0 0 noI))
(.call true 191 [(.cell V0 1 0 noI),(.cell V1 1 0 noI)]
(.call true 121 [(.eqb true (.cell V0 0 0 noI) (.cell V1 0 0 noI)),V2]
(.rq (.cells 2 V3)
(.ret [(.ag V3)])))))))):=by kernel_rfl
theorem c1V:tree prog [] [] [] [⟨2,[0,1,0,4,15,0,63,0,128,0,1023,0,0,8191,16383],[1,1,1,1,0,0,2,1,1,0,2,3,3,4,4],[0,0,0,0,0,0,0,0,0,0,0,0,0,0,0],[0,1,2,3,4,5,7,8,9,6,10,11,12],[13,14]⟩,⟨6,[0,0,3,7],[5,2,2,6],[4,0,0,4],[0,1,2],[3]⟩,⟨7,[0,0,3,7],[5,2,2,6],[4,0,0,4],[0,1,2],[3]⟩,⟨8,[0,0,1,7],[5,5,6,6],[4,5,2,3],[0,1],[2,3]⟩] 137=some (.rq (.cells 2 V0)
(.rq (.cells 2 V1)
(.call false 189 [(.cell V0 1 0 noI),(.cell V1 1 0 noI)]
(.rq (.tup 0 V2)
(.rq (.tup 1 V2)
(.rq (.bool (.cell V0 0 0 noI))
(.rq (.bool (.cell V1 0 0 noI))
(.call true 121 [(.eqb true (.cell V0 0 0 noI) (.cell V1 0 0 noI)),(.proj V2 0)]
(.call true 121 [(.cell V0 0 0 noI),(.proj V2 1)]
(.rq (.cells 2 V3)
(.rq (.cells 2 V4)
(.rq (.bool (.cell V4 0 0 noI))
(.br (.cell V4 0 0 noI)
(.rq (.cells 1 (.cell V1 1 0 noI))
(.call false 190 [(.ag V4),(.cat (.z 4) 1 (.cell V1 1 0 noI))]
(.rq (.cells 2 V5)
(.br (.cell V1 0 0 noI)
(.call true 63 [(.ki 1)]
(.call true 190 [(.ag V3),V6]
(.rq (.cells 2 V7)
(.ret [(.ag V7),(.ag V5)]))))
(.call true 63 [(.ki 1)]
(.call true 182 [(.ag V3),V6]
(.rq (.cells 2 V7)
(.ret [(.ag V7),(.ag V5)]))))))))
(.ret [(.ag V3),(.ag V4)])))))))))))))):=by kernel_rfl
theorem c1W:tree prog [] [] [] [] 119=some (.rq (.cells 2 V0)
(.rq (.cells 2 V1)
(.call false 182 [(.ag V0),(.ag V1)]
(.rq (.cells 2 V2)
(.rq (.bool (.cell V2 0 0 noI))
(.br (.cell V2 0 0 noI)
(.ret [(kI (-1))])
(.pm f119 4 2 [(.cell V2 1 0 noI)]
(.ri V3
(.br (.io .gtr V3 (.ki 0))
(.ret [(.ki 1)])
(.ret [(.ki 0)])))))))))):=by kernel_rfl
theorem b6z:tree prog [] [] [⟨0,3,[],[2]⟩] [] 138=some (.rq (.cells 2 V0)
(.call false 63 [(.ki 1)]
(.rq (.cells 2 V2)
(.loop [(.ki 0),V2]
(.ri V3
(.ri V1
(.br (.io .lss V3 V1)
(.call false 139 [(.ag V4),(.ag V0)]
(.rq (.cells 2 V5)
(.next 0 [(.io .add V3 (.ki 1)),V5])))
(.ret [(.ag V4)])))))))):=by kernel_rfl
end Go.Proofs.YtkcjbfoejpfbbaaGreatDoor
/- Slices of digits in memory. -/
namespace Go.RX
open Go.RowKit
theorem Con.frame {P:Program} {f:FuncId} {args:List Value} {Hr H:PH} {V:Value->PH->Prop} (h:Con P f args Hr V) (hle:PH.le Hr H):
  Con P f args H fun u H'=>∃Hr',V u Hr'/\PH.le Hr' H'/\∀k ob,H k=some ob->Hr k=none->Hr' k=none/\H' k=some ob:=fun w hw=>by
 refine(h w (hle.In hw)).mono ?_
 rintro e w' ⟨v,Hr',he,hs,hV⟩
 have none_of:∀k ob,H k=some ob->Hr k=none->Hr' k=none:=fun k ob hk hr=>by
  cases e2:Hr' k with
  |none=>rfl
  |some o2=>
   have h2:=a0L (hw _ _ hk)
   rcases hs.dom k (by simp[e2])with h3|h3
   ·exact absurd hr h3
   ·omega
 refine⟨v,fun k=>match Hr' k with|some o=>some o|none=>if Hr k=none then H k else none,he,⟨hs.os,hs.tape,hs.output,hs.size,fun k hk hn=> ?_,fun k ob hk=> ?_,fun k hk=> ?_⟩,Hr',hV,fun k ob hk=> ?_,fun k ob hk hr=>⟨none_of k ob hk hr,?_⟩⟩
 ·refine hs.block k hk ?_
  cases e2:Hr k with
  |none=>rfl
  |some o2=>rw[hle _ _ e2]at hn;cases hn
 ·cases e2:Hr' k with
  |some o2=>simp only[e2]at hk;cases hk;exact hs.holds _ _ e2
  |none=>
   simp only[e2]at hk
   split at hk
   ·rename_i hr
    rw[hs.block k (a0L (hw _ _ hk)) hr]
    exact hw _ _ hk
   ·cases hk
 ·cases e2:Hr' k with
  |some o2=>
   rcases hs.dom k (by simp[e2])with h3|h3
   ·refine .inl fun hn=>h3 ?_
    cases e3:Hr k with
    |none=>rfl
    |some o3=>rw[hle _ _ e3]at hn;cases hn
   ·exact .inr h3
  |none=>
   simp only[e2]at hk
   split at hk
   ·exact .inl hk
   ·exact absurd rfl hk
 ·simp only[hk]
 ·simp only[none_of k ob hk hr,hr,if_true,hk]
theorem OwS.frame {Hr H Hr' H':PH} {e:TypeId} {sz n:Nat} {v:Value} {xs:List Value} (h:OwS Hr H e sz v n xs) (hk:∀k ob,H k=some ob->Hr k=none->Hr' k=none/\H' k=some ob):OwS Hr' H' e sz v n xs:=by
 obtain⟨h1,h2|⟨g,cap,cur,h2,h3,h4,h5⟩⟩:=h
 ·exact⟨h1,.inl h2⟩
 ·exact⟨h1,.inr ⟨g,cap,cur,h2,(hk _ _ h4 h3).1,(hk _ _ h4 h3).2,h5⟩⟩
end Go.RX
namespace Go.Proofs.YtkcjbfoejpfbbaaGreatDoor
open Go.Proofs.Tryz
open Go.RowKit Go.RX Go.WD
def iv (d:Nat):Value:= .int .i64 (d:Nat)
theorem d4o (f:Nat->Value):(Array.range (1*1)).map f= #[f 0]:=by
 apply Array.ext';simp
theorem d4p (f:Nat->Value):(Array.range (2*1)).map f= #[f 0,f 1]:=by
 apply Array.ext';simp[List.range_succ]
theorem d7d (f:Nat->Value) (d:Nat):Instr.fill (fun j=>some (j*1,1)) ((Array.range (1*1)).map f) [(0,iv d)]=some #[iv d]:=by
 rw[d4o]
 simp[Instr.fill,iv,a6F]
theorem d7e (f:Nat->Value) (d e:Nat):Instr.fill (fun j=>some (j*1,1)) ((Array.range (2*1)).map f) [(0,iv d),(1,iv e)]=some #[iv d,iv e]:=by
 rw[d4p]
 simp[Instr.fill,iv,a6F]
def Ds (H:PH) (v:Value) (l:List Nat):Prop:=Sl H 1 v l.length (l.map iv)/\Dg l
def Od (H0 H:PH) (v:Value) (l:List Nat):Prop:=OwS H0 H 3 1 v l.length (l.map iv)/\Dg l
theorem Ds.mono {H H':PH} {v:Value} {l:List Nat} (h:Ds H v l) (hl:PH.le H H'):Ds H' v l:=⟨h.1.mono hl,h.2⟩
theorem Od.mono {H0 H H':PH} {v:Value} {l:List Nat} (h:Od H0 H v l) (hl:PH.le H H'):Od H0 H' v l:=⟨h.1.mono hl,h.2⟩
theorem Od.ds {H0 H:PH} {v:Value} {l:List Nat} (h:Od H0 H v l):Ds H v l:=⟨h.1.sl,h.2⟩
theorem Od.nil (H0 H:PH):Od H0 H (.slice none 0 0) []:=⟨OwS.nil H0 H _ 1,Dg.nil⟩
theorem Ds.nil (H:PH):Ds H (.slice none 0 0) []:=(Od.nil H H).ds
def Nu (H:PH) (v:Value) (n:Nat):Prop:=∃l,Ds H v l/\Tm l/\vl l=n
theorem Nu.mono {H H':PH} {v:Value} {n:Nat} (h:Nu H v n) (hl:PH.le H H'):Nu H' v n:=by
 obtain⟨l,h1,h2⟩:=h;exact⟨l,h1.mono hl,h2⟩
theorem Nu.zero (H:PH):Nu H (.slice none 0 0) 0:=⟨[],Ds.nil H,Tm.nil,rfl⟩
theorem Ds.cells {H:PH} {v:Value} {l:List Nat} (h:Ds H v l):v.cells= #[v]:=by
 obtain⟨⟨_,a,c,h2,_⟩,_⟩:=h;rw[h2];rfl
theorem Ds.one {H:PH} {v:Value} {l:List Nat} (h:Ds H v l):v.cells.size=1/\a0J v.cells:=by
 rw[h.cells]
 obtain⟨⟨_,a,c,h2,_⟩,_⟩:=h
 refine⟨rfl,fun c hc=> ?_⟩
 simp at hc;rw[hc,h2];rfl
theorem d4q {l:List Nat} {i:Nat} (h:i<l.length):((l.map iv).drop (i*1)).take 1=[iv (l.getD i 0)]:=by
 rw[Nat.mul_one,<-List.map_drop,a9Q h];rfl
theorem a2o:prog.cellsOf 3=1:=by kernel_rfl
theorem a3R:a2g prog 3=true:=by kernel_rfl
theorem d1v:a1n prog 3=false:=by kernel_rfl
theorem a1U:prog.underlying 32=some (.slice 3):=by kernel_rfl
theorem a4S:∃i,prog.info? 3=some i/\i.zero=some (.int .i64 0)/\i.size=1/\i.bytes=8:=by
 refine⟨(prog.info? 3).getD default,by kernel_rfl,by kernel_rfl,by kernel_rfl,by kernel_rfl⟩
section
variable {G:Value->PH->Prop} {nx:List (List Value->PH->Prop)} {ρ:List Value} {H H0:PH} {o o1 o2:Oper} {x y x2 y2:Operand} {id i id2 i2:Nat} {args args2:List SV} {t:Tree} {v:Value} {l:List Nat}
theorem a1f (ho:o.op= .call ⟨.builtin .len,#[x],#[32]⟩) (hx:a0h [x] [v] x=v) (h:Ds H v l) (ha:args.map (D prog ρ)=[v]) (n:den prog G t nx (ρ++[iv l.length]) H):den prog G (.prim id i o args t) nx ρ H:=
 a0u ((c8y ho hx a1U h.1).rds H) ha n
theorem a2r {k:IntKind} {j:Nat} (ho1:o1.op= .indexAddr 32 x y) (ho2:o2.op= .load 3 x2) (hx:a0h [x,y] [v,.int k (j:Nat)] x=v) (hy:a0h [x,y] [v,.int k (j:Nat)] y= .int k (j:Nat)) (hx2:∀p,a0h [x2] [p] x2=p) (h:Ds H v l) (hj:j<l.length)
  (ha:args.map (D prog ρ)=[v,.int k (j:Nat)]) (ha2:∀p,args2.map (D prog (ρ++[p]))=[p]) (n:∀p,den prog G t nx (ρ++[p]++[iv (l.getD j 0)]) H):den prog G (.prim id i o1 args (.prim id2 i2 o2 args2 t)) nx ρ H:=by
 obtain⟨b,q,cs,T',fz,h1,h2,h3,h4⟩:=d2T (P:=prog) ho1 hx hy a1U a3R a2o Nat.zero_lt_one h.1 hj
 rw[d4q hj]at h4
 exact a0u (h1.rds H) ha (a0u (b3G ho2 (hx2 _) h2 a3R d1v a2o h3 h4) (ha2 _) (n _))
theorem a9T {k:IntKind} {j d:Nat} {pf:Bool} (ho1:o1.op= .indexAddr 32 x y) (ho2:o2.op= .store 3 x2 y2) (hx:a0h [x,y] [v,.int k (j:Nat)] x=v) (hy:a0h [x,y] [v,.int k (j:Nat)] y= .int k (j:Nat)) (hx2:∀p,a0h [x2,y2] [p,iv d] x2=p) (hy2:∀p,a0h [x2,y2] [p,iv d] y2=iv d)
  (hle:PH.le H0 H) (h:Od H0 H v l) (hj:j<l.length) (hd:d<4294967296) (ha:args.map (D prog ρ)=[v,.int k (j:Nat)]) (ha2:∀p,args2.map (D prog (ρ++[p]))=[p,iv d]) (hpf:pf=false)
  (n:∀p u H',PH.le H0 H'->Od H0 H' v (l.set j d)->(∃g ob,H0 g=none/\H'=H.put g ob)->den prog G t nx (ρ++[p]++[u]) H'):den prog G (.prim id i o1 args (.eff pf id2 i2 o2 args2 t)) nx ρ H:=by
 obtain⟨⟨hlen,hv⟩,hD⟩:=h
 rcases hv with⟨_,h0⟩|⟨g,cap,cur,rfl,hg0,hg,hnc,hcm,hcs,htk⟩
 ·omega
 rw[Nat.mul_one]at hcs htk
 have hix:=a3K (P:=prog) (m:=(j:Int)) (n:=l.length) ho1 hx hy a1U a3R (by omega) (by omega)
 rw[Int.toNat_natCast,a2o,Nat.zero_add,Nat.mul_one]at hix
 refine a0u (hix.rds H) ha (a0H (a3j ho2 (hx2 _) (hy2 _) hg a3R (by rw[a2o];omega) (by rw[a2o];rfl) (d0i _ _)) (ha2 _) ?_)
 rintro u H' ⟨rfl,rfl⟩
 subst hpf
 have hcl:(iv d).cells.toList=[iv d]:=rfl
 rw[hcl]
 refine⟨fun h=>(nomatch h),n _ _ _ ?_ ⟨⟨by simp,.inr ⟨g,cap,_,by rw[List.length_set],hg0,PH.put_self _ _ _,by rw[List.length_set];exact hnc,hcm,?_,?_⟩⟩,hD.set j hd⟩ ⟨g,_,hg0,rfl⟩⟩
 ·intro k ob hk
  rw[PH.put_ne _ _ (fun e=>by rw[e,hg0]at hk;cases hk)]
  exact hle _ _ hk
 ·show(cur.setIfInBounds j (iv d)).size=_
  rw[Array.size_setIfInBounds,hcs,Nat.mul_one]
 ·show(cur.setIfInBounds j (iv d)).toList.take _=_
  rw[Array.toList_setIfInBounds,Nat.mul_one,List.length_set,List.take_set,htk,List.map_set]
theorem b4S {g n:Nat} {cs:Array Value} {l:List Nat} (hg:H g=none) (hl:l.length=n) (hn:n<=maxLen) (hc:cs.toList=l.map iv) (hD:Dg l):Od H (H.put g (.cells cs 3 (0,0))) (.slice (some ⟨g,0,none⟩) n n) l:=by
 have hs:cs.size=n:=by rw[<-Array.length_toList,hc,List.length_map,hl]
 refine⟨⟨by simp,.inr ⟨g,n,cs,by rw[hl],hg,PH.put_self _ _ _,by omega,hn,by omega,?_⟩⟩,hD⟩
 rw[hc,List.take_of_length_le (by simp)]
theorem a9U {kl kc:IntKind} {pf:Bool} {m:Nat} (ho:o.op= .makeSlice 32 x y) (hx:a0h [x,y] [.int kl (m:Nat),.int kc (m:Nat)] x= .int kl (m:Nat)) (hy:a0h [x,y] [.int kl (m:Nat),.int kc (m:Nat)] y= .int kc (m:Nat)) (hm:m<=1000000) (ha:args.map (D prog ρ)=[.int kl (m:Nat),.int kc (m:Nat)])
  (n:∀v H',PH.le H H'->Od H H' v (List.replicate m 0)->den prog G t nx (ρ++[v]) H'):den prog G (.eff pf id i o args t) nx ρ H:=by
 obtain⟨ti,h1,h2,h3,h4⟩:=a4S
 refine a0H (b8i ho hx hy a1U h1 h2 h3 (by rw[h4];omega) (by simp only[maxLen];omega)) ha ?_
 rintro v H' ⟨g,hg,rfl,rfl⟩
 refine⟨fun _=>PH.le_put hg _,n _ _ (PH.le_put hg _) (b4S hg (by simp) (by simp only[maxLen];omega) ?_ (Dg.zeros m))⟩
 rw[Nat.mul_one]
 show(madeCells #[.int .i64 0] m).toList=_
 apply List.ext_getElem?
 intro j
 rw[List.getElem?_map,List.getElem?_replicate]
 simp only[madeCells,Array.toList_map,List.getElem?_map,Array.toList_range]
 by_cases hj:j<m
 ·simp[hj,Nat.mod_one,iv]
 ·simp[hj]
theorem b6A {d:Nat} {pf:Bool} (ho:o.op= .buildSlice 32 1 #[(0,x)]) (hx:a0h [x] [iv d] x=iv d) (hd:d<4294967296) (ha:args.map (D prog ρ)=[iv d])
  (n:∀v H',PH.le H H'->Od H H' v [d]->den prog G t nx (ρ++[v]) H'):den prog G (.eff pf id i o args t) nx ρ H:=by
 obtain⟨ti,h1,h2,h3,h4⟩:=a4S
 refine a0H (a9n (cells:= #[iv d]) ho a1U h1 h2 (by rw[h3];decide) (by rw[h3];decide) (by rw[h3];simp only[List.map_cons,List.map_nil,hx];exact d7d _ d)) ha ?_
 rintro v H' ⟨g,hg,rfl,rfl⟩
 exact⟨fun _=>PH.le_put hg _,n _ _ (PH.le_put hg _) (b4S hg rfl (by simp only[maxLen];omega) rfl (Dg.one hd))⟩
theorem a8v {d e:Nat} {pf:Bool} (ho:o.op= .buildSlice 32 2 #[(0,x),(1,y)]) (hx:a0h [x,y] [iv d,iv e] x=iv d) (hy:a0h [x,y] [iv d,iv e] y=iv e) (hd:d<4294967296) (he:e<4294967296) (ha:args.map (D prog ρ)=[iv d,iv e])
  (n:∀v H',PH.le H H'->Od H H' v [d,e]->den prog G t nx (ρ++[v]) H'):den prog G (.eff pf id i o args t) nx ρ H:=by
 obtain⟨ti,h1,h2,h3,h4⟩:=a4S
 refine a0H (a9n (cells:= #[iv d,iv e]) ho a1U h1 h2 (by rw[h3];decide) (by rw[h3];decide) (by rw[h3];simp only[List.map_cons,List.map_nil,hx,hy];exact d7e _ d e)) ha ?_
 rintro v H' ⟨g,hg,rfl,rfl⟩
 exact⟨fun _=>PH.le_put hg _,n _ _ (PH.le_put hg _) (b4S hg rfl (by simp only[maxLen];omega) rfl ((Dg.one hd).append (Dg.one he)))⟩
theorem a8w {pf:Bool} (ho:o.op= .buildSlice 32 0 #[]) (ha:args.map (D prog ρ)=[])
  (n:∀v H',PH.le H H'->Od H H' v []->den prog G t nx (ρ++[v]) H'):den prog G (.eff pf id i o args t) nx ρ H:=by
 obtain⟨ti,h1,h2,h3,h4⟩:=a4S
 refine a0H (b0N ho a1U h1) ha ?_
 rintro v H' ⟨g,hg,rfl,rfl⟩
 exact⟨fun _=>PH.le_put hg _,n _ _ (PH.le_put hg _) (b4S hg rfl (by simp only[maxLen];omega) rfl Dg.nil)⟩
theorem a3S {l2:List Nat} {u:Value} {pf:Bool} (ho:o.op= .call ⟨.builtin .append,#[x,y],#[32,32]⟩) (hx:a0h [x,y] [v,u] x=v) (hy:a0h [x,y] [v,u] y=u) (hle:PH.le H0 H) (h:Od H0 H v l) (h2:Ds H u l2) (hb:l.length+l2.length<=1000000)
  (ha:args.map (D prog ρ)=[v,u]) (hpf:pf=false) (n:∀v' H',PH.le H0 H'->Od H0 H' v' (l++l2)->(H'=H\/∃g ob,H0 g=none/\H'=H.put g ob)->den prog G t nx (ρ++[v']) H'):den prog G (.eff pf id i o args t) nx ρ H:=by
 obtain⟨ti,h1,h3,h4,h5⟩:=a4S
 subst hpf
 by_cases hm:0<l2.length
 ·refine a0H (b6d ho hx hy a1U h1 h3 h4 rfl hle h.1 h2.1 hm (fun c hc=> ?_) (by simp only[maxLen];omega) (by rw[h5];omega)) ha ?_
  ·obtain⟨d,_,rfl⟩:=List.mem_map.1 hc;rfl
  ·rintro v' H' ⟨h6,h7,g,ob,h8,h9⟩
   refine⟨fun h=>(nomatch h),n v' H' h6 ⟨?_,h.2.append h2.2⟩ (.inr ⟨g,ob,h9,h8⟩)⟩
   rw[List.length_append,List.map_append];exact h7
 ·have hl2:l2=[]:=List.eq_nil_of_length_eq_zero (by omega)
  subst hl2
  refine a0H (a4o ho hx hy a1U h1 h.1.sl h2.1) ha ?_
  rintro v' H' ⟨rfl,rfl⟩
  exact⟨fun h=>(nomatch h),n _ _ hle (by rw[List.append_nil];exact h) (.inl rfl)⟩
theorem a6g {d:Nat} {pf pf2:Bool} (ho1:o1.op= .buildSlice 32 1 #[(0,x)]) (ho2:o2.op= .call ⟨.builtin .append,#[x2,y2],#[32,32]⟩) (hx:a0h [x] [iv d] x=iv d) (hx2:∀p,a0h [x2,y2] [v,p] x2=v) (hy2:∀p,a0h [x2,y2] [v,p] y2=p) (hle:PH.le H0 H) (h:Od H0 H v l) (hd:d<4294967296) (hb:l.length+1<=1000000)
  (ha:args.map (D prog ρ)=[iv d]) (ha2:∀p,args2.map (D prog (ρ++[p]))=[v,p]) (hpf:pf2=false) (n:∀p v' H',PH.le H0 H'->Od H0 H' v' (l++[d])->den prog G t nx (ρ++[p]++[v']) H'):den prog G (.eff pf id i o1 args (.eff pf2 id2 i2 o2 args2 t)) nx ρ H:=by
 refine b6A ho1 hx hd ha fun u H1 hl1 h1=> ?_
 exact a3S ho2 (hx2 _) (hy2 _) (hle.trans hl1) (h.mono hl1) h1.ds hb (ha2 _) hpf fun v' H' hl2 h3 _=>n u v' H' hl2 h3
end
end Go.Proofs.YtkcjbfoejpfbbaaGreatDoor

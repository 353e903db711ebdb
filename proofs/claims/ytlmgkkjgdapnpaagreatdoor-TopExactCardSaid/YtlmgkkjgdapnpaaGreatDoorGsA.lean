/- MADE BY rxgen.py (mkGT.py): trees of chapter 32. -/
import Derived.Test.YtlmgkkjgdapnpaaGreatDoorProg
import Derived.Test.YtlmgkkjgdapnpaaGreatDoorRxW
namespace Go.Proofs.YtlmgkkjgdapnpaaGreatDoor
open Go.Proofs.Tryz
open Go.RowKit Go.RX
set_option maxRecDepth 100000
theorem d6P:a0w prog [] [] [] [] 80=some (.ru V0
(.br (.uo .eql V0 (.k (.int .u64 (0))))
(.ret [(.ki 64)])
(.pm f80 3 6 [(.k (.pointer (some ⟨0,0,none⟩))),(.uo .shr (.uo .mul (.uo .and V0 (.op1 .neg .u64 V0)) (.k (.int .u64 (285870213051353865)))) (.k (.int .u64 (58))))]
(.pm f80 3 7 [V1]
(.rq (.int .u8 V2)
(.ret [(.cv .i64 V2)])))))):=by kernel_rfl
theorem b9d:(opr f80 3 7).op= .load 5 (.tmp 11):=by kernel_rfl
theorem d0c:a0w prog [] [] [⟨0,2,[],[]⟩] [] 114=some (.pm f114 1 1 [V0]
(.loop [(.ki 0),(.ki 0)]
(.ri V4
(.ri V2
(.br (.io .lss V4 V2)
(.pm f114 3 1 [V0,V4]
(.pm f114 3 2 [V5]
(.pm f114 4 2 [V1]
(.ri V7
(.br (.io .geq V4 V7)
(.ret [(.ki 1)])
(.pm f114 6 2 [V1,V4]
(.pm f114 6 3 [V8]
(.call false 161 [V6,V9]
(.ri V10
(.br (.io .neq V10 (.ki 0))
(.ret [V10])
(.next 0 [V3,(.io .add V4 (.ki 1))])))))))))))
(.pm f114 11 1 [V0]
(.pm f114 11 3 [V1]
(.ri V5
(.ri V6
(.br (.io .lss V5 V6)
(.ret [(.k (.int .i64 (-1)))])
(.ret [(.ki 0)]))))))))))):=by kernel_rfl
theorem d0d:a0w prog [] [] [] [] 161=some (.call false 217 [V0]
(.call false 217 [V1]
(.rq (.bool V2)
(.br V2
(.rq (.bool V3)
(.br V3
(.ret [(.ki 0)])
(.ret [(.k (.int .i64 (-1)))])))
(.rq (.bool V3)
(.br V3
(.ret [(.ki 1)])
(.ri V0
(.ri V1
(.br (.io .lss V0 V1)
(.ret [(.k (.int .i64 (-1)))])
(.br (.io .gtr V0 V1)
(.ret [(.ki 1)])
(.ret [(.ki 0)]))))))))))):=by kernel_rfl
theorem d0e:a0w prog [] [] [] [] 217=some (.ri V0
(.ret [(.io .neq V0 V0)])):=by kernel_rfl
theorem d0f:a0w prog [] [] [] [] 115=some (.call false 162 [V0,V1]
(.ri V2
(.ret [(.io .geq V2 (.ki 0))]))):=by kernel_rfl
theorem d0g:a0w prog [] [] [] [] 157=some (.call false 211 [V0,V1]
(.ri V2
(.ret [(.io .geq V2 (.ki 0))]))):=by kernel_rfl
theorem d0h:a0w prog [] [] [⟨0,2,[],[]⟩] [] 162=some (.pm f162 1 1 [V0]
(.loop [(.ki 0),(.ki 0)]
(.ri V4
(.ri V2
(.br (.io .lss V4 V2)
(.pm f162 4 3 [V0,V4]
(.pm f162 4 4 [V5]
(.ef false f162 4 5 [V1,V6]
(.rq (.bool V7)
(.br V7
(.ret [V4])
(.next 0 [V3,(.io .add V4 (.ki 1))]))))))
(.ret [(.k (.int .i64 (-1)))])))))):=by kernel_rfl
theorem d0i:a0w prog [] [] [⟨0,2,[],[]⟩] [] 211=some (.pm f211 1 1 [V0]
(.loop [(.ki 0),(.ki 0)]
(.ri V4
(.ri V2
(.br (.io .lss V4 V2)
(.pm f211 4 3 [V0,V4]
(.pm f211 4 4 [V5]
(.ef false f211 4 5 [V1,V6]
(.rq (.bool V7)
(.br V7
(.ret [V4])
(.next 0 [V3,(.io .add V4 (.ki 1))]))))))
(.ret [(.k (.int .i64 (-1)))])))))):=by kernel_rfl
theorem d0j:a0w prog [3,5] [] [⟨0,5,[],[]⟩] [⟨7,[0,1,3,7,15,31,15,79,255,511,1023,2047,4095,2047,10239,32767,65535,131071,262143,262143,1048575,2097151,4194303],[1,1,0,0,1,1,1,1,0,0,0,1,1,0,5,0,0,0,1,1,2,0,0],[0,0,0,0,0,0,0,0,0,0,0,0,0,0,0,0,0,0,0,0,0,0,0],[0,1,2,3,4,5,6,7,8,9,10,11,12,13,14,15,16,17,18,19,20,21,22],[]⟩] 65=some (.rq (.cells 2 V0)
(.rq (.int .i64 (.cell V0 0 0 noI))
(.br (.io .lss (.cell V0 0 0 noI) (.ki 1))
(.ret [(.ki 180)])
(.br (.io .gtr (.cell V0 0 0 noI) (.ki 64))
(.ret [(.ki 180)])
(.pm f65 1 11 [(.cell V0 1 0 noI)]
(.ri V1
(.br (.io .gtr V1 (.ki 200))
(.ret [(.ki 180)])
(.pub 150 (.z 150)
(.ef false f65 3 2 [V2,(.put (.put (.z 150) 0 1 (.k (.int .i64 (-1))) 0 noI) 1 1 (.k (.int .i64 (-1))) 0 noI)]
(.pm f65 4 2 [(.cell V0 1 0 noI)]
(.loop [(.ki 0),(.ki 0)]
(.ri V6
(.ri V4
(.br (.io .lss V6 V4)
(.pm f65 6 0 [(.cell V0 1 0 noI),V6]
(.pm f65 6 1 [V7]
(.pub 150 (.z 150)
(.ef false f65 6 3 [V9,V8]
(.pm f65 7 0 [V9,(.ki 0)]
(.pm f65 7 1 [V11]
(.ri V12
(.br (.io .lss V12 (.ki 0))
(.ret [(.ki 180)])
(.pm f65 7 4 [V9,(.ki 0)]
(.pm f65 7 5 [V13]
(.pm f65 7 6 [V9,(.ki 1)]
(.pm f65 7 7 [V15]
(.ri V14
(.ri V16
(.br (.io .geq V14 V16)
(.ret [(.ki 180)])
(.pm f65 7 11 [V9,(.ki 1)]
(.pm f65 7 12 [V17]
(.ri V18
(.br (.io .geq V18 (.cell V0 0 0 noI))
(.ret [(.ki 180)])
(.pm f65 7 18 [V2]
(.pm f65 7 19 [V9]
(.call true 114 [V19,V20]
(.ri V21
(.br (.io .geq V21 (.ki 0))
(.ret [(.ki 180)])
(.pm f65 9 0 [V9]
(.ef false f65 9 1 [V2,V22]
(.next 0 [V5,(.io .add V6 (.ki 1))])))))))))))))))))))))))))))
(.ret [(.ki 0)]))))))))))))))):=by kernel_rfl
theorem d4B:a0w prog [] [] [] [⟨4,[0,1,0,4,15],[0,2,0,5,0],[0,0,0,0,0],[0,2,3,1,4],[]⟩] 251=some (.rq (.cells 2 V0)
(.call false 65 [(.ag V0)]
(.ri V2
(.br (.io .neq V2 (.ki 0))
(.ret [V2])
(.call true 177 [V1]
(.ri V3
(.rq (.int .i64 (.cell V0 0 0 noI))
(.br (.io .gtr V3 (.cell V0 0 0 noI))
(.ret [(.ki 2)])
(.ret [(.ki 0)]))))))))):=by kernel_rfl
theorem d0k:a0w prog [] [] [] [] 214=some (.rq (.cells 2 V0)
(.call false 251 [(.ag V0),V1]
(.ri V2
(.br (.io .neq V2 (.ki 0))
(.ret [(.k (.bool false)),V2])
(.call false 252 [(.ag V0),V1]
(.pm f214 4 3 [V3]
(.ri V4
(.ret [(.io .eql V4 (.ki 1)),(.ki 0)])))))))):=by kernel_rfl
theorem d4C:a0w prog [] [] [⟨0,3,[],[]⟩] [⟨5,[0,0,2,7,15,0,32,96,255,511,1023],[0,0,5,1,1,0,5,0,0,1,8],[0,0,1,0,0,0,1,0,0,0,0],[0,1,2,3,4,5,6,7,8,9],[10]⟩,⟨6,[0,0,2,7,15,0,32,96,255,511,1023],[0,0,5,1,1,0,5,0,0,1,8],[0,0,1,0,0,0,1,0,0,0,0],[0,1,2,3,4,5,6,7,8,9],[10]⟩] 267=some (.rq (.cells 2 V0)
(.ef false f267 1 2 [(.cell V0 0 0 noI),(.cell V0 0 0 noI)]
(.pm f267 2 2 [(.cell V0 1 0 noI)]
(.loop [(.ki 0)]
(.ri V3
(.ri V2
(.br (.io .lss V3 V2)
(.pm f267 4 0 [(.cell V0 1 0 noI),V3]
(.pm f267 4 1 [V4]
(.rq (.cells 2 V5)
(.pm f267 5 3 [V1,(.cell V5 0 0 noI)]
(.pm f267 5 4 [V6]
(.rq (.num (.cell V5 1 0 noI))
(.rq (.nn (.cell V5 1 0 noI))
(.ru V7
(.pm f267 5 9 [V1,(.cell V5 0 0 noI)]
(.ef false f267 5 10 [V8,(.uo .or V7 (.uo .shl (.k (.int .u64 (1))) (.cell V5 1 0 noI)))]
(.pm f267 6 3 [V1,(.cell V5 1 0 noI)]
(.pm f267 6 4 [V10]
(.rq (.num (.cell V5 0 0 noI))
(.rq (.nn (.cell V5 0 0 noI))
(.ru V11
(.pm f267 6 9 [V1,(.cell V5 1 0 noI)]
(.ef false f267 6 10 [V12,(.uo .or V11 (.uo .shl (.k (.int .u64 (1))) (.cell V5 0 0 noI)))]
(.next 0 [(.io .add V3 (.ki 1))]))))))))))))))))))
(.ret [V1])))))))):=by kernel_rfl
theorem c5a:a0w prog [] [] [⟨0,4,[],[0,1,2]⟩,⟨0,6,[],[0,1,2]⟩,⟨4,9,[],[3]⟩] [⟨9,[0,0,0,6,14,0,62,127,255],[5,5,0,1,1,5,0,0,6],[3,2,0,0,0,1,0,0,3],[0,1,2,3,4,5,6,7],[8]⟩] 252=some (.rq (.cells 2 V0)
(.rq (.cells 1 V1)
(.call false 267 [(.ag V0)]
(.rq (.cells 1 V2)
(.loop [(.k (.slice none 0 0)),(.cell V1 0 0 noI),V0,V1,V2]
(.ru V4
(.br (.uo .neq V4 (.k (.int .u64 (0))))
(.loop [(.uo .and V4 (.op1 .neg .u64 V4)),V5,V6,V7]
(.rq (.cells 1 V8)
(.call false 268 [V8]
(.rf V12 1 [V8]
(.pm f252 9 3 [(.cell V11 0 0 noI),V13]
(.pm f252 9 4 [V15]
(.ru V16
(.rq (.int .u64 (.cell V10 0 0 noI))
(.rq (.int .u64 (.cell V14 0 0 noI))
(.next 2 [(.uo .or (.cell V14 0 0 noI) (.uo .and V16 (.cell V10 0 0 noI)))]))))))
(.rq (.int .u64 (.cell V13 0 0 noI))
(.ru V8
(.br (.uo .eql (.cell V13 0 0 noI) V8)
(.ef false f252 12 2 [V8]
(.ef false f252 12 3 [V3,V14]
(.next 0 [V15,(.uo .andNot V4 V8),V9,V10,V11])))
(.next 1 [(.cell V13 0 0 noI),V9,V10,V11]))))
(.dead 818)))))
(.ret [V3])))))))):=by kernel_rfl
theorem d0l:a0w prog [1] [] [] [] 268=some (.rq (.cells 1 V0)
(.pub 57 V0
(.ef false f268 1 0 [V1]
(.ret [V2])))):=by kernel_rfl
theorem c5b:a0w prog [] [] [⟨0,0,[],[]⟩] [] 279=some (.loop []
(.pm f279 0 0 [V1]
(.ru V2
(.br (.uo .neq V2 (.k (.int .u64 (0))))
(.pm f279 2 1 [V1]
(.call false 80 [V3]
(.ef false f279 2 3 [V0,V4]
(.rq (.bool V5)
(.br (.nt V5)
(.ret [])
(.pm f279 1 0 [V1]
(.pm f279 1 1 [V1]
(.ru V7
(.ru V6
(.ef false f279 1 4 [V1,(.uo .and V6 (.uo .sub V7 (.k (.int .u64 (1)))))]
(.next 0 [])))))))))))
(.ret []))))):=by kernel_rfl
theorem d0m:a0w prog [] [] [⟨0,2,[],[]⟩] [] 187=some (.pm f187 1 1 [V0]
(.loop [(.k (.bool false)),(.ki 0)]
(.ri V4
(.ri V2
(.br (.io .lss V4 V2)
(.pm f187 3 0 [V0,V4]
(.pm f187 3 1 [V5]
(.ri V6
(.br (.io .lss V6 (.ki 0))
(.ret [(.k (.bool false))])
(.ri V1
(.br (.io .geq V6 V1)
(.ret [(.k (.bool false))])
(.next 0 [V3,(.io .add V4 (.ki 1))])))))))
(.pm f187 7 1 [V0]
(.ri V5
(.br (.io .gtr V5 (.ki 0))
(.pm f187 7 5 [V0]
(.ri V6
(.ret [(.io .leq V6 (.ki 64))])))
(.ret [(.k (.bool false))]))))))))):=by kernel_rfl
theorem d0n:a0w prog [] [] [⟨0,3,[],[]⟩,⟨0,8,[],[]⟩] [⟨5,[0,0,3,7,0,16,63,127,255],[0,0,1,1,0,0,0,1,8],[0,0,0,0,0,0,0,0,0],[0,1,2,3,4,5,6,7],[8]⟩] 188=some (.ef false f188 1 1 [V1,V1]
(.pm f188 2 1 [V0]
(.loop [(.ki 0)]
(.ri V4
(.ri V3
(.br (.io .lss V4 V3)
(.pm f188 4 1 [V0,V4]
(.pm f188 4 2 [V5]
(.pm f188 5 2 [V2,V6]
(.pm f188 5 3 [V7]
(.rq (.num V4)
(.rq (.nn V4)
(.ru V8
(.pm f188 5 7 [V2,V6]
(.ef false f188 5 8 [V9,(.uo .or V8 (.uo .shl (.k (.int .u64 (1))) V4))]
(.next 0 [(.io .add V4 (.ki 1))]))))))))))
(.loop [(.k (.slice none 0 0)),(.k (.bool false)),(.ki 0)]
(.ri V7
(.ri V1
(.br (.io .lss V7 V1)
(.pm f188 10 2 [V2,V7]
(.pm f188 10 3 [V8]
(.ru V9
(.br (.uo .eql V9 (.k (.int .u64 (0))))
(.ret [(.k (.slice none 0 0)),(.k (.bool false))])
(.next 1 [V5,V6,(.io .add V7 (.ki 1))])))))
(.ret [V2,(.k (.bool true))]))))))))))):=by kernel_rfl
theorem b9e:a0w prog [45] [] [] [] 129=some (.rq (.cells 2 V0)
(.call false 65 [(.ag V0)]
(.ri V3
(.br (.io .neq V3 (.ki 0))
(.ret [(.k (.pointer none)),V3])
(.ri V2
(.br (.io .lss V2 (.ki 1))
(.ret [(.k (.pointer none)),(.ki 2)])
(.br (.io .gtr V2 (.ki 8))
(.ret [(.k (.pointer none)),(.ki 2)])
(.pm f129 6 1 [V1]
(.ri V4
(.rq (.int .i64 (.cell V0 0 0 noI))
(.br (.io .neq V4 (.cell V0 0 0 noI))
(.ret [(.k (.pointer none)),(.ki 210)])
(.call false 187 [V1,V2]
(.rq (.bool V5)
(.br (.nt V5)
(.ret [(.k (.pointer none)),(.ki 210)])
(.call false 188 [V1,V2]
(.rq (.tup 0 V6)
(.rq (.tup 1 V6)
(.rq (.bool (.proj V6 1))
(.br (.nt (.proj V6 1))
(.ret [(.k (.pointer none)),(.ki 210)])
(.rq (.cells 1 V1)
(.rq (.cells 1 (.proj V6 0))
(.pub 283 (.cat (.ag V0) 2 (.put (.cat V1 1 (.z 111)) 1 1 (.proj V6 0) 0 noI))
(.ret [V7,(.ki 0)]))))))))))))))))))))))):=by kernel_rfl
theorem d0o:a0w prog [] [] [] [] 88=some (.rq (.cells 2 V0)
(.call false 129 [(.ag V0),V1,V2]
(.rq (.tup 0 V3)
(.rq (.tup 1 V3)
(.ret [(.proj V3 1)]))))):=by kernel_rfl
theorem d0p:a0w prog [] [] [] [] 156=some (.ri V1
(.br (.io .lss V1 (.ki 1))
(.ret [(.k (.slice none 0 0)),(.ki 2)])
(.br (.io .gtr V1 (.ki 8))
(.ret [(.k (.slice none 0 0)),(.ki 2)])
(.call false 187 [V0,V1]
(.rq (.bool V2)
(.br (.nt V2)
(.ret [(.k (.slice none 0 0)),(.ki 210)])
(.call false 188 [V0,V1]
(.rq (.tup 0 V3)
(.rq (.tup 1 V3)
(.rq (.bool (.proj V3 1))
(.br (.nt (.proj V3 1))
(.ret [(.k (.slice none 0 0)),(.ki 210)])
(.ret [(.proj V3 0),(.ki 0)])))))))))))):=by kernel_rfl
end Go.Proofs.YtlmgkkjgdapnpaaGreatDoor
/- Sets of nodes as words: plain laws. -/
namespace Go.GS
open Go.RX
def uv (s:Nat):Value:= .int .u64 (s:Nat)
def ii (z:Int):Value:= .int .i64 z
abbrev M64:Nat:=18446744073709551616
theorem b1C {a:Nat} (h:a<M64):(BitVec.ofInt 64 (a:Int)).toNat=a:=by
 have h:a<18446744073709551616:=h
 rw[BitVec.toNat_ofInt];simp;omega
theorem u64_and {a b:Nat} (ha:a<M64) (hb:b<M64):IntKind.u64.wrap ((BitVec.ofInt (IntKind.bits .u64) (a:Int)&&&BitVec.ofInt (IntKind.bits .u64) (b:Int)).toNat:Int)=((a&&&b:Nat):Int):=by
 have e:(BitVec.ofInt 64 (a:Int)&&&BitVec.ofInt 64 (b:Int)).toNat=a&&&b:=by rw[BitVec.toNat_and,b1C ha,b1C hb]
 show IntKind.u64.wrap ((BitVec.ofInt 64 (a:Int)&&&BitVec.ofInt 64 (b:Int)).toNat:Int)=_
 rw[e,IntKind.wrap_u64]
 have:=Nat.and_lt_two_pow a (n:=64) (y:=b) (by simpa using hb)
 exact Int.emod_eq_of_lt (by omega) (by omega)
theorem u64_or {a b:Nat} (ha:a<M64) (hb:b<M64):IntKind.u64.wrap ((BitVec.ofInt (IntKind.bits .u64) (a:Int)|||BitVec.ofInt (IntKind.bits .u64) (b:Int)).toNat:Int)=((a|||b:Nat):Int):=by
 have e:(BitVec.ofInt 64 (a:Int)|||BitVec.ofInt 64 (b:Int)).toNat=a|||b:=by rw[BitVec.toNat_or,b1C ha,b1C hb]
 show IntKind.u64.wrap ((BitVec.ofInt 64 (a:Int)|||BitVec.ofInt 64 (b:Int)).toNat:Int)=_
 rw[e,IntKind.wrap_u64]
 have:=Nat.or_lt_two_pow (n:=64) (x:=a) (y:=b) (by simpa using ha) (by simpa using hb)
 exact Int.emod_eq_of_lt (by omega) (by omega)
def sdf (a b:Nat):Nat:=a^^^(a&&&b)
theorem a3x (a b i:Nat):(sdf a b).testBit i=(a.testBit i&& !b.testBit i):=by
 unfold sdf;rw[Nat.testBit_xor,Nat.testBit_and];cases a.testBit i<;>cases b.testBit i<;>rfl
theorem a7N {a b:Nat} (ha:a<M64):sdf a b<M64:=by
 have h1:a&&&b<2^64:=Nat.lt_of_le_of_lt Nat.and_le_left (by simpa using ha)
 exact Nat.xor_lt_two_pow (n:=64) (by simpa using ha) h1
theorem u64_andn {a b:Nat} (ha:a<M64) (hb:b<M64):IntKind.u64.wrap ((BitVec.ofInt (IntKind.bits .u64) (a:Int)&&& ~~~BitVec.ofInt (IntKind.bits .u64) (b:Int)).toNat:Int)=((sdf a b:Nat):Int):=by
 have e:(BitVec.ofInt 64 (a:Int)&&& ~~~BitVec.ofInt 64 (b:Int)).toNat=sdf a b:=by
  apply Nat.eq_of_testBit_eq
  intro i
  rw[BitVec.toNat_and,a3x,Nat.testBit_and,b1C ha,<-BitVec.getLsbD,BitVec.getLsbD_not,BitVec.getLsbD,b1C hb]
  by_cases hi:i<64
  ·simp[hi]
  ·have:a.testBit i=false:=Nat.testBit_lt_two_pow (Nat.lt_of_lt_of_le (by simpa using ha:a<2^64) (Nat.pow_le_pow_right (by omega) (by omega)))
   simp[this]
 show IntKind.u64.wrap ((BitVec.ofInt 64 (a:Int)&&& ~~~BitVec.ofInt 64 (b:Int)).toNat:Int)=_
 rw[e,IntKind.wrap_u64]
 have:=a7N (b:=b) ha
 exact Int.emod_eq_of_lt (by omega) (by simp only[M64]at this;omega)
theorem u64_shl {a k:Nat} (hk:k<64):IntKind.u64.wrap ((a:Int)*2^(min ((k:Nat):Int).toNat (IntKind.bits .u64)))=((a*2^k%M64:Nat):Int):=by
 have e:min ((k:Nat):Int).toNat (IntKind.bits .u64)=k:=by show min ((k:Nat):Int).toNat 64=k;rw[Int.toNat_natCast];omega
 rw[e,IntKind.wrap_u64];simp[M64]
theorem u64_neg {a:Nat} (ha:a<M64):IntKind.u64.wrap (0-(a:Int))=(((M64-a)%M64:Nat):Int):=by
 rw[IntKind.wrap_u64];simp only[M64]at*;omega
theorem u64_sub {a b:Nat} (ha:a<M64) (hb:b<=a):IntKind.u64.wrap ((a:Int)-(b:Int))=((a-b:Nat):Int):=by
 rw[IntKind.wrap_u64];simp only[M64]at*;omega
def bit (s x:Nat):Bool:=s.testBit x
theorem b3z {s x:Nat} (hs:s<M64) (hx:64<=x):bit s x=false:=
 Nat.testBit_lt_two_pow (Nat.lt_of_lt_of_le (by simpa using hs:s<2^64) (Nat.pow_le_pow_right (by omega) hx))
theorem b9f {s x:Nat} (hs:s<M64) (h:bit s x=true):x<64:=by
 rcases Nat.lt_or_ge x 64 with h1|h1
 ·exact h1
 ·rw[b3z hs h1]at h;cases h
theorem a2y (a b x:Nat):bit (a&&&b) x=(bit a x&&bit b x):=Nat.testBit_and ..
theorem a2d (a b x:Nat):bit (a|||b) x=(bit a x||bit b x):=Nat.testBit_or ..
theorem a3y (a b x:Nat):bit (sdf a b) x=(bit a x&& !bit b x):=a3x ..
theorem a2i (k x:Nat):bit (2^k) x=decide (k=x):=Nat.testBit_two_pow ..
theorem a1N (x:Nat):bit 0 x=false:=Nat.zero_testBit x
theorem a3Y {a b:Nat} (h:∀x,bit a x=bit b x):a=b:=Nat.eq_of_testBit_eq h
theorem b9g {a b:Nat} (ha:a<M64) (hb:b<M64) (h:∀x,x<64->bit a x=bit b x):a=b:=a3Y fun x=>by
 rcases Nat.lt_or_ge x 64 with h1|h1
 ·exact h x h1
 ·rw[b3z ha h1,b3z hb h1]
theorem a2z {k:Nat} (h:k<64):2^k<M64:=by
 have:=Nat.pow_lt_pow_right (a:=2) (by omega) h
 exact this
theorem d0q {k:Nat} (h:k<64):1*2^k%M64=2^k:=by rw[Nat.one_mul,Nat.mod_eq_of_lt (a2z h)]
theorem b9h {a b:Nat} (ha:a<M64) (hb:b<M64):a|||b<M64:=Nat.or_lt_two_pow (n:=64) (by simpa using ha) (by simpa using hb)
theorem a7O {a b:Nat} (ha:a<M64):a&&&b<M64:=Nat.lt_of_le_of_lt Nat.and_le_left ha
theorem a5W {a b:Nat} (hb:b<M64):a&&&b<M64:=Nat.lt_of_le_of_lt Nat.and_le_right hb
def els (s:Nat):List Nat:=(List.range 64).filter (bit s)
theorem a2Y {s x:Nat} (hs:s<M64):x∈els s↔bit s x=true:=by
 unfold els
 rw[List.mem_filter,List.mem_range]
 exact⟨fun h=>h.2,fun h=>⟨b9f hs h,h⟩⟩
theorem c5c {s x:Nat} (h:x∈els s):x<64/\bit s x=true:=by
 unfold els at h
 rw[List.mem_filter,List.mem_range]at h;exact h
theorem a6L:els 0=[]:=by
 unfold els
 rw[List.filter_eq_nil_iff]
 intro x _;simp[a1N]
theorem a4U {s:Nat} (hs:s<M64) (h:els s=[]):s=0:=b9g hs (by decide) fun x hx=>by
 rw[a1N]
 cases e:bit s x with
 |false=>rfl
 |true=>have:=(a2Y hs).2 e;rw[h]at this;cases this
theorem a7P {s k:Nat} (hk:bit s k=true) (hl:∀j,j<k->bit s j=false):s=2^(k+1)*(s/2^(k+1))+2^k:=by
 have h:=Nat.div_add_mod s (2^(k+1))
 have e:s%2^(k+1)=2^k:=by
  apply Nat.eq_of_testBit_eq
  intro i
  rw[Nat.testBit_mod_two_pow,Nat.testBit_two_pow]
  by_cases h1:i<k
  ·have:=hl i h1
   unfold bit at this
   simp[this,show ¬k=i from by omega]
  ·by_cases h2:i=k
   ·subst h2
    unfold bit at hk
    simp[hk]
   ·simp[show ¬i<k+1 from by omega,show ¬k=i from fun e=>h2 e.symm]
 rw[e]at h;exact h.symm
theorem a5r {s k:Nat} (hk:bit s k=true) (hl:∀j,j<k->bit s j=false) (i:Nat):bit (s-1) i=if i<k then true else if i=k then false else bit s i:=by
 have h:=a7P hk hl
 have h2:=Nat.two_pow_pos k
 generalize s/2^(k+1)=q at h
 have e1:s-1=2^(k+1)*q+(2^k-1):=by omega
 have hlt:2^k-1<2^(k+1):=by rw[Nat.pow_succ];omega
 have hlt2:2^k<2^(k+1):=by rw[Nat.pow_succ];omega
 unfold bit
 rw[e1,Nat.testBit_two_pow_mul_add _ hlt]
 rw[h,Nat.testBit_two_pow_mul_add _ hlt2,Nat.testBit_two_pow_sub_one,Nat.testBit_two_pow]
 by_cases c1:i<k
 ·simp[c1,show i<k+1 from by omega]
 ·by_cases c2:i=k
  ·subst c2;simp
  ·simp[c1,c2,show ¬i<k+1 from by omega]
theorem a1Y {s x:Nat} {r:List Nat} (h:els s=x::r):bit s x=true/\x<64/\∀j,j<x->bit s j=false:=by
 have hm:=c5c (s:=s) (x:=x) (by rw[h];simp)
 refine⟨hm.2,hm.1,fun j hj=> ?_⟩
 cases e:bit s j with
 |false=>rfl
 |true=>
  have hp:(els s).Pairwise (· < ·):=List.pairwise_lt_range.filter _
  have hj':j∈els s:=by unfold els;rw[List.mem_filter,List.mem_range];exact⟨by omega,e⟩
  rw[h]at hj' hp
  rcases List.mem_cons.1 hj' with rfl|hj'
  ·omega
  ·have:=(List.pairwise_cons.1 hp).1 j hj';omega
theorem a3Z (s:Nat):(els s).Pairwise (· < ·):=List.pairwise_lt_range.filter _
theorem a9d:∀{a b:List Nat},a.Pairwise (· < ·)->b.Pairwise (· < ·)->(∀x,x∈a↔x∈b)->a=b:=by
 intro a
 induction a with
 |nil=>intro b _ _ h;cases b with
  |nil=>rfl
  |cons y b=>exact absurd ((h y).2 (by simp)) (by simp)
 |cons x a ih=>
  intro b ha hb h
  cases b with
  |nil=>exact absurd ((h x).1 (by simp)) (by simp)
  |cons y b=>
   rw[List.pairwise_cons]at ha hb
   have e:x=y:=by
    rcases List.mem_cons.1 ((h x).1 (by simp))with h1|h1
    ·exact h1
    ·rcases List.mem_cons.1 ((h y).2 (by simp))with h2|h2
     ·exact h2.symm
     ·have:=ha.1 y h2;have:=hb.1 x h1;omega
   subst e
   rw[ih ha.2 hb.2 fun z=> ?_]
   constructor
   ·intro hz
    rcases List.mem_cons.1 ((h z).1 (by simp[hz]))with h1|h1
    ·have:=ha.1 z hz;omega
    ·exact h1
   ·intro hz
    rcases List.mem_cons.1 ((h z).2 (by simp[hz]))with h1|h1
    ·have:=hb.1 z hz;omega
    ·exact h1
theorem b0f {s x:Nat} {r:List Nat} (hs:s<M64) (h:els s=x::r):els (s&&&(s-1))=r:=by
 obtain⟨h1,h2,h3⟩:=a1Y h
 have hp:=a3Z s
 rw[h,List.pairwise_cons]at hp
 refine a9d (a3Z _) hp.2 fun y=> ?_
 rw[a2Y (a7O hs),a2y,a5r h1 h3]
 have hy:=a2Y (x:=y) hs
 rw[h]at hy
 constructor
 ·intro hh
  rw[Bool.and_eq_true]at hh
  rcases List.mem_cons.1 (hy.2 hh.1)with rfl|h4
  ·simp at hh
  ·exact h4
 ·intro hh
  have h4:=hp.1 y hh
  rw[hy.1 (by simp[hh])]
  simp[show ¬y<x from by omega,show ¬y=x from by omega]
theorem a5s {s x:Nat} {r:List Nat} (hs:s<M64) (h:els s=x::r):s&&&((M64-s)%M64)=2^x:=by
 obtain⟨h1,h2,h3⟩:=a1Y h
 have h0:s≠0:=fun e=>by rw[e,a1N]at h1;cases h1
 apply a3Y
 intro i
 have e1:(M64-s)%M64=2^64-((s-1)+1):=by
  rw[Nat.mod_eq_of_lt (by omega)]
  show 2^64-s=_
  congr 1;omega
 have e2:bit (2^64-((s-1)+1)) i=(decide (i<64)&& !bit (s-1) i):=Nat.testBit_two_pow_sub_succ (by simp only[M64]at hs;omega) i
 rw[a2y,e1,e2,a5r h1 h3,a2i]
 by_cases c1:i<x
 ·simp[c1,show ¬x=i from by omega]
 ·by_cases c2:i=x
  ·subst c2;simp[h1,h2]
  ·simp[c1,c2,show ¬x=i from fun e=>c2 e.symm]
   intro h5 _;exact h5
def card (s:Nat):Nat:=(els s).length
end Go.GS

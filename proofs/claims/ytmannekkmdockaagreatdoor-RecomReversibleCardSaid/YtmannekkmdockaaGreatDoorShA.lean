/- MADE BY rxgen.py: the trees of package share. -/
import Derived.Test.YtmannekkmdockaaGreatDoorRfC
import Derived.WalkKit
import Derived.ProofKit
import Derived.OpenShut
import Derived.ShutString
import Derived.ChangeOld
import Derived.Below
import Derived.Test.YtmannekkmdockaaGreatDoorRfI
import Derived.Test.YtmannekkmdockaaGreatDoorWdT
import Derived.Deep.Slices
import Derived.Deep.Strs
import Derived.Test.YtmannekkmdockaaGreatDoorLgC
namespace Go.Proofs.YtmannekkmdockaaGreatDoor
open Go.Proofs.Tryz
open Go.RowKit Go.RX
theorem b7K:tree prog [] [] [] [⟨5,[0,1,0,7,15,31],[5,2,5,2,6,6],[4,0,6,0,4,6],[0,2,1,3],[4,5]⟩] 74=some (.rq (.cells 2 V0)
(.rq (.cells 2 V1)
(.call false 129 [(.ag V0),(.ag V1)]
(.rq (.cells 2 V2)
(.call false 130 [(.ag V0),(.ag V2)]
(.rq (.tup 0 V3)
(.rq (.tup 1 V3)
(.rq (.cells 2 (.proj V3 0))
(.rq (.cells 2 (.proj V3 1))
(.call false 130 [(.ag V1),(.ag V2)]
(.rq (.tup 0 V4)
(.rq (.tup 1 V4)
(.rq (.cells 2 (.proj V4 0))
(.rq (.cells 2 (.proj V4 1))
(.rq (.bool (.cell (.proj V4 0) 0 0 noI))
(.br (.cell (.proj V4 0) 0 0 noI)
(.call true 131 [(.ag (.proj V3 0))]
(.call true 131 [(.ag (.proj V4 0))]
(.rq (.cells 2 V5)
(.rq (.cells 2 V6)
(.ret [(.cat (.ag V5) 2 (.ag V6))])))))
(.ret [(.cat (.ag (.proj V3 0)) 2 (.ag (.proj V4 0)))]))))))))))))))))):=by kernel_rfl
theorem c4Z:tree prog [] [] [] [⟨1,[0,1,3,0,8,31,63,127],[1,1,2,1,1,2,0,6],[0,0,0,0,0,0,0,1],[0,1,3,4,2,5,6],[7]⟩] 78=some (.rq (.cells 16 V0)
(.call true 75 [(.sub V0 0 8 0 noI)]
(.call true 75 [(.sub V0 8 8 0 noI)]
(.rq (.cells 2 V1)
(.rq (.cells 2 V2)
(.ret [(.put (.cat V1 2 (.z 116)) 2 2 V2 0 noI)])))))):=by kernel_rfl
theorem b9Z:tree prog [] [] [] [⟨1,[0,0,3,7],[5,2,0,6],[0,0,0,1],[0,1,2],[3]⟩] 101=some (.rq (.cells 2 V0)
(.call true 102 [(.ki 1)]
(.rq (.cells 2 V1)
(.ret [(.cat (.ag V0) 2 V1)])))):=by kernel_rfl
theorem c0a:tree prog [] [] [⟨3,3,[25],[]⟩] [] 52=some (.rq (.cells 4 V0)
(.call false 72 [(.sub V0 0 2 0 noI)]
(.rq (.tup 0 V1)
(.rq (.tup 1 V1)
(.rq (.cells 8 (.proj V1 0))
(.call false 72 [(.sub V0 2 2 0 noI)]
(.rq (.tup 0 V2)
(.rq (.tup 1 V2)
(.rq (.cells 8 (.proj V2 0))
(.join 1
(.rq (.int .i64 (.proj V1 1))
(.br (.io .neq (.proj V1 1) (.ki 0))
(.next 0 [(.k (.bool true))])
(.rq (.int .i64 (.proj V2 1))
(.next 0 [(.io .neq (.proj V2 1) (.ki 0))]))))
(.rq (.bool V3)
(.br V3
(.ret [(.cat (.z 56) 8 (.z 56)),(.ki 6)])
(.ret [(.cat (.ag (.proj V1 0)) 8 (.ag (.proj V2 0))),(.ki 0)]))))))))))))):=by kernel_rfl
theorem c0b:tree prog [] [] [] [⟨1,[0,1,0,4,15,0,32,0,128,511,1023,0,2048,0,8192,32767,65535,131071],[1,1,1,1,2,1,1,1,1,2,2,1,1,1,1,2,2,6],[0,0,0,0,0,0,0,0,0,0,0,0,0,0,0,0,0,2],[0,1,2,3,5,6,7,8,11,12,13,14,4,9,10,15,16],[17]⟩] 77=some (.rq (.cells 4 V0)
(.rq (.cells 4 V1)
(.call true 136 [(.sub V0 0 2 0 noI),(.sub V1 2 2 0 noI)]
(.call true 136 [(.sub V1 0 2 0 noI),(.sub V0 2 2 0 noI)]
(.call true 124 [V2,V3]
(.call true 136 [(.sub V0 2 2 0 noI),(.sub V1 2 2 0 noI)]
(.call true 74 [V4,V5]
(.rq (.cells 4 V6)
(.ret [(.ag V6)]))))))))):=by kernel_rfl
theorem b3Z:tree prog [] [] [] [⟨1,[0,1,3,0,8,31,63],[1,1,2,1,1,0,6],[0,0,0,0,0,0,1],[0,1,3,4,2,5],[6]⟩] 148=some (.rq (.cells 4 V0)
(.call true 131 [(.sub V0 0 2 0 noI)]
(.rq (.cells 2 V1)
(.ret [(.put (.cat V1 2 (.z 116)) 2 2 (.sub V0 2 2 0 noI) 0 noI)])))):=by kernel_rfl
theorem b7L:tree prog [] [] [] [⟨1,[0,0,2,7,15],[5,5,2,2,6],[0,1,0,0,2],[0,1,2,3],[4]⟩] 90=some (.rq (.cells 4 V0)
(.rq (.cells 4 V1)
(.call true 148 [(.ag V1)]
(.call true 77 [(.ag V0),V2]
(.rq (.cells 4 V3)
(.ret [(.ag V3)])))))):=by kernel_rfl
theorem b7M:tree prog [] [] [] [⟨1,[0,1,0,4,15,0,32,0,128,511,1023,2047],[1,1,1,1,2,1,1,1,1,2,2,6],[0,0,0,0,0,0,0,0,0,0,0,2],[0,1,2,3,5,6,7,8,4,9,10],[11]⟩] 82=some (.rq (.cells 4 V0)
(.rq (.cells 4 V1)
(.call true 136 [(.sub V0 0 2 0 noI),(.sub V1 0 2 0 noI)]
(.call true 136 [(.sub V0 2 2 0 noI),(.sub V1 2 2 0 noI)]
(.call true 74 [V2,V3]
(.rq (.cells 4 V4)
(.ret [(.ag V4)]))))))):=by kernel_rfl
theorem c0c:tree prog [] [] [] [⟨1,[0,1,0,4,15,0,32,0,128,511,1023,2047],[1,1,1,1,2,1,1,1,1,2,2,6],[0,0,0,0,0,0,0,0,0,0,0,2],[0,1,2,3,5,6,7,8,4,9,10],[11]⟩] 147=some (.rq (.cells 4 V0)
(.rq (.cells 4 V1)
(.call true 136 [(.sub V0 0 2 0 noI),(.sub V1 2 2 0 noI)]
(.call true 136 [(.sub V0 2 2 0 noI),(.sub V1 0 2 0 noI)]
(.call true 74 [V2,V3]
(.rq (.cells 4 V4)
(.ret [(.ag V4)]))))))):=by kernel_rfl
theorem c0d:tree prog [] [] [⟨3,3,[21],[]⟩] [⟨3,[0,1,3,7,15,31,63,31,159,511,31,2047,4095,8191],[1,1,2,0,0,1,1,1,1,2,5,2,0,0],[0,0,0,0,0,0,0,0,0,0,1,0,0,0],[0,1,2,3,4,5,6,7,8,10,9,11,12,13],[]⟩] 134=some (.rq (.cells 16 V0)
(.call false 102 [(.ki 1)]
(.rq (.cells 2 V1)
(.call false 78 [(.ag V0)]
(.rq (.cells 4 V2)
(.join 1
(.call true 67 [(.sub V2 2 2 0 noI)]
(.ri V3
(.br (.io .leq V3 (.ki 0))
(.next 0 [(.k (.bool true))])
(.call true 129 [(.sub V2 0 2 0 noI),(.sub V2 2 2 0 noI)]
(.call true 201 [V4,(.ag V1)]
(.ri V5
(.next 0 [(.io .neq V5 (.ki 0))])))))))
(.rq (.bool V3)
(.br V3
(.ret [(.ki 20)])
(.ret [(.ki 0)]))))))))):=by kernel_rfl
theorem c9A:tree prog [] [] [⟨0,2,[],[]⟩] [] 135=some (.pm f135 1 1 [V1]
(.loop [(.k (.bool false)),(.ki 0)]
(.ri V4
(.ri V2
(.br (.io .lss V4 V2)
(.pm f135 3 0 [V1,V4]
(.pm f135 3 1 [V5]
(.rq (.cells 16 V6)
(.ef false f135 4 2 [V0,(.ag V6)]
(.rq (.bool V7)
(.br (.nt V7)
(.ret [(.k (.bool false))])
(.next 0 [V3,(.io .add V4 (.ki 1))])))))))
(.ret [(.k (.bool true))])))))):=by kernel_rfl
theorem c0e:tree prog [] [] [] [] 76=some (.call false 135 [(.k (.func (.func 133) #[] #[])),V0]
(.ret [V1])):=by kernel_rfl
theorem b7N:tree prog [] [] [] [] 133=some (.rq (.cells 16 V0)
(.call false 134 [(.ag V0)]
(.ri V1
(.ret [(.io .eql V1 (.ki 0))])))):=by kernel_rfl
theorem c5a:tree prog [] [] [] [⟨4,[0,0,2,0,14,31,63,127],[0,5,2,5,2,2,0,0],[0,0,0,1,0,0,0,0],[0,1,3,2,4,5,6,7],[]⟩] 65=some (.rq (.cells 16 V0)
(.rq (.cells 16 V1)
(.ef false f65 1 2 [(.ag V0),(.ag V1)]
(.call false 76 [V3]
(.rq (.bool V4)
(.br (.nt V4)
(.ret [(.ki 0),(.ki 20)])
(.call true 78 [(.ag V0)]
(.call true 78 [(.ag V1)]
(.ef true f65 4 5 [V2,V5,V6]
(.ret [V7,(.ki 0)])))))))))):=by kernel_rfl
theorem c5b:tree prog [] [] [] [⟨4,[0,0,2,0,14,31,63,127],[0,5,2,5,2,2,6,0],[0,0,0,1,0,0,2,0],[0,1,3,2,4,5],[6,7]⟩] 81=some (.rq (.cells 16 V0)
(.rq (.cells 16 V1)
(.ef false f81 1 2 [(.ag V0),(.ag V1)]
(.call false 76 [V3]
(.rq (.bool V4)
(.br (.nt V4)
(.ret [(.z 118),(.ki 20)])
(.call true 78 [(.ag V0)]
(.call true 78 [(.ag V1)]
(.ef true f81 4 5 [V2,V5,V6]
(.rq (.cells 4 V7)
(.ret [(.ag V7),(.ki 0)]))))))))))):=by kernel_rfl
theorem b5A:tree prog [] [] [] [] 80=some (.rq (.cells 4 V0)
(.ri V1
(.br (.io .neq V1 (.ki 0))
(.ret [(.cat (.z 56) 8 (.z 56)),V1])
(.call false 52 [(.ag V0)]
(.rq (.tup 0 V2)
(.rq (.tup 1 V2)
(.rq (.cells 16 (.proj V2 0))
(.ret [(.ag (.proj V2 0)),(.proj V2 1)])))))))):=by kernel_rfl
theorem c5c:tree prog [] [] [] [⟨3,[0,1,0,7,15,31,63,63,255,511],[5,2,5,2,2,2,0,0,6,0],[0,0,1,0,0,0,0,0,2,0],[0,2,1,3,4,5,6,7],[8,9]⟩] 30=some (.rq (.cells 8 V0)
(.rq (.cells 8 V1)
(.pm f30 1 2 [(.ag V1),(.z 56)]
(.rq (.bool V2)
(.br V2
(.ret [(.cat (.z 56) 8 (.z 56)),(.ki 7)])
(.call true 75 [(.ag V0)]
(.call true 75 [(.ag V1)]
(.call true 74 [V3,V4]
(.call true 52 [V5]
(.rq (.tup 0 V6)
(.rq (.tup 1 V6)
(.rq (.cells 16 (.proj V6 0))
(.ret [(.ag (.proj V6 0)),(.proj V6 1)]))))))))))))):=by kernel_rfl
theorem d3Z:tree prog [] [] [] [] 79=some (.call false 29 [V0]
(.call false 29 [V1]
(.call false 30 [V2,V3]
(.rq (.tup 0 V4)
(.rq (.tup 1 V4)
(.rq (.cells 16 (.proj V4 0))
(.ret [(.ag (.proj V4 0)),(.proj V4 1)]))))))):=by kernel_rfl
theorem c9B:tree prog [] [] [] [] 34=some (.rq (.cells 16 V0)
(.rq (.cells 16 V1)
(.call false 81 [(.ag V0),(.ag V1),(.k (.func (.func 82) #[] #[]))]
(.rq (.tup 0 V2)
(.rq (.tup 1 V2)
(.call false 80 [(.proj V2 0),(.proj V2 1)]
(.rq (.tup 0 V3)
(.rq (.tup 1 V3)
(.rq (.cells 16 (.proj V3 0))
(.ret [(.ag (.proj V3 0)),(.proj V3 1)])))))))))):=by kernel_rfl
theorem c5d:tree prog [] [] [] [] 23=some (.rq (.cells 16 V0)
(.call false 65 [(.ag V0),(.ag V0),(.k (.func (.func 66) #[] #[]))]
(.rq (.tup 0 V1)
(.rq (.tup 1 V1)
(.ret [(.proj V1 0),(.proj V1 1)]))))):=by kernel_rfl
theorem c0f:tree prog [] [] [] [] 66=some (.rq (.cells 4 V0)
(.rq (.cells 4 V1)
(.call false 67 [(.sub V0 0 2 0 noI)]
(.ret [V2])))):=by kernel_rfl
theorem b5B:tree prog [] [] [] [] 58=some (.call false 102 [V0]
(.call false 101 [V1]
(.rq (.cells 4 V2)
(.ret [(.ag V2)])))):=by kernel_rfl
theorem c9C:tree prog [] [] [⟨0,7,[],[1]⟩] [⟨9,[0,0,2,7,15],[5,5,2,2,6],[1,2,0,0,1],[0,1,2,3],[4]⟩] 31=some (.pm f31 1 1 [V0]
(.ri V1
(.br (.io .gtr V1 (.ki 400))
(.ret [(.cat (.z 56) 8 (.z 56)),(.ki 3)])
(.call false 76 [V0]
(.rq (.bool V2)
(.br (.nt V2)
(.ret [(.cat (.z 56) 8 (.z 56)),(.ki 20)])
(.call false 58 [(.ki 0)]
(.rq (.cells 4 V3)
(.pm f31 6 1 [V0]
(.loop [(.ki 0),V3]
(.ri V5
(.ri V4
(.br (.io .lss V5 V4)
(.pm f31 8 0 [V0,V5]
(.pm f31 8 1 [V7]
(.rq (.cells 16 V8)
(.call true 78 [(.ag V8)]
(.call true 77 [(.ag V6),V9]
(.rq (.cells 4 V10)
(.next 0 [(.io .add V5 (.ki 1)),V10])))))))
(.call false 52 [(.ag V6)]
(.rq (.tup 0 V7)
(.rq (.tup 1 V7)
(.rq (.cells 16 (.proj V7 0))
(.ret [(.ag (.proj V7 0)),(.proj V7 1)])))))))))))))))))):=by kernel_rfl
end Go.Proofs.YtmannekkmdockaaGreatDoor
/- Fractions: plain; package share: fractions of integers of any length. -/
namespace Go.WD
open Go.RX
def Rb (k:Nat) (r:Rat):Prop:=r.num.natAbs<2^k/\r.den<2^k
theorem a4s {a b i j:Nat} (ha:a<2^i) (hb:b<2^j):a*b<2^(i+j):=by
 rw[Nat.pow_add];exact Nat.mul_lt_mul'' ha hb
theorem b0N (n:Int) {d:Int} (hd:d≠0):(Rat.divInt n d).num=if d/(Nat.gcd n.natAbs d.natAbs:Nat)<0 then -(n/(Nat.gcd n.natAbs d.natAbs:Nat))else n/(Nat.gcd n.natAbs d.natAbs:Nat):=by
 have hg:0<Nat.gcd n.natAbs d.natAbs:=Nat.gcd_pos_of_pos_right _ (by omega)
 have hgn:((Nat.gcd n.natAbs d.natAbs:Nat):Int) ∣ n:=Int.ofNat_dvd_left.2 (Nat.gcd_dvd_left _ _)
 rw[Rat.num_divInt]
 have e:(d.gcd n:Nat)=Nat.gcd n.natAbs d.natAbs:=by unfold Int.gcd;exact Nat.gcd_comm _ _
 rw[e]
 obtain⟨m,hm⟩:=hgn
 have hdv:((Nat.gcd n.natAbs d.natAbs:Nat):Int) ∣ d:=Int.ofNat_dvd_left.2 (Nat.gcd_dvd_right _ _)
 obtain⟨c,hc⟩:=hdv
 generalize Nat.gcd n.natAbs d.natAbs=g at hg hm hc
 have hg':(g:Int)≠0:=by omega
 have e1:n/(g:Int)=m:=by rw[hm];exact Int.mul_ediv_cancel_left _ hg'
 have e2:d/(g:Int)=c:=by rw[hc];exact Int.mul_ediv_cancel_left _ hg'
 rw[e1,e2]
 rcases Int.lt_or_gt_of_ne hd with h|h
 ·have hcn:c<0:=by
   rcases Int.lt_or_le c 0 with h1|h1
   ·exact h1
   ·have:=Int.mul_nonneg (show(0:Int)<=g by omega) h1;omega
  rw[if_pos hcn,Int.sign_eq_neg_one_of_neg h,hm,Int.neg_one_mul,<-Int.mul_neg]
  exact Int.mul_ediv_cancel_left _ hg'
 ·have hcn:¬c<0:=fun h1=>by
   have:=Int.mul_neg_of_pos_of_neg (show(0:Int)<g by omega) h1;omega
  rw[if_neg hcn,Int.sign_eq_one_of_pos h,Int.one_mul,hm]
  exact Int.mul_ediv_cancel_left _ hg'
theorem b0O (n:Int) {d:Int} (hd:d≠0):((Rat.divInt n d).den:Int)=if d/(Nat.gcd n.natAbs d.natAbs:Nat)<0 then -(d/(Nat.gcd n.natAbs d.natAbs:Nat))else d/(Nat.gcd n.natAbs d.natAbs:Nat):=by
 have hg:0<Nat.gcd n.natAbs d.natAbs:=Nat.gcd_pos_of_pos_right _ (by omega)
 rw[Rat.den_divInt,if_neg hd]
 have e:(d.gcd n:Nat)=Nat.gcd n.natAbs d.natAbs:=by unfold Int.gcd;exact Nat.gcd_comm _ _
 rw[e]
 have hdv:((Nat.gcd n.natAbs d.natAbs:Nat):Int) ∣ d:=Int.ofNat_dvd_left.2 (Nat.gcd_dvd_right _ _)
 obtain⟨c,hc⟩:=hdv
 generalize Nat.gcd n.natAbs d.natAbs=g at hg hc
 have e2:d/(g:Int)=c:=by rw[hc];exact Int.mul_ediv_cancel_left _ (by omega)
 have e3:d.natAbs/g=c.natAbs:=by rw[hc,Int.natAbs_mul,Int.natAbs_natCast];exact Nat.mul_div_cancel_left _ hg
 rw[e2,e3]
 split<;>omega
theorem c0g (r s:Rat):Rat.divInt (r.num*s.den+s.num*r.den) ((r.den:Int)*s.den)=r+s:=by
 rw[Rat.add_def',<-Int.natCast_mul,Rat.divInt_ofNat]
theorem c0h (r s:Rat):Rat.divInt (r.num*s.num) ((r.den:Int)*s.den)=r*s:=by
 rw[Rat.mul_def',<-Int.natCast_mul,Rat.divInt_ofNat]
theorem c9D (r s:Rat):Rat.divInt (r.num*s.den) ((r.den:Int)*s.num)=r/s:=by
 have h1:=Rat.num_divInt_den r
 rw[Rat.div_def,Rat.inv_def]
 conv=>rhs;rw[<-h1]
 rw[Rat.divInt_mul_divInt]
theorem low_bound {n d:Int} {k:Nat} (hd:d≠0) (hn:n.natAbs<2^k) (hdk:d.natAbs<2^k):Rb k (Rat.divInt n d):=by
 have hg:0<Nat.gcd n.natAbs d.natAbs:=Nat.gcd_pos_of_pos_right _ (by omega)
 constructor
 ·have h1:(n/(Nat.gcd n.natAbs d.natAbs:Nat)).natAbs<=n.natAbs:=Int.natAbs_ediv_le_natAbs _ _
  rw[b0N n hd]
  split
  ·rw[Int.natAbs_neg];omega
  ·omega
 ·have h2:=b0O n hd
  have h3:(d/(Nat.gcd n.natAbs d.natAbs:Nat)).natAbs<=d.natAbs:=Int.natAbs_ediv_le_natAbs _ _
  split at h2<;>omega
theorem a4S (r:Rat):((r.den:Nat):Int).natAbs=r.den:=Int.natAbs_natCast _
theorem Rb.add {j k m:Nat} {r s:Rat} (hr:Rb j r) (hs:Rb k s) (hm:j+k+1<=m):Rb m (r+s):=by
 have hd:(r.den:Int)*s.den≠0:=Int.mul_ne_zero (by have:=r.den_nz;omega) (by have:=s.den_nz;omega)
 have h1:=a4s hr.1 hs.2
 have h2:=a4s hs.1 hr.2
 have h3:=a4s hr.2 hs.2
 rw[Nat.add_comm k j]at h2
 have h4:(r.num*s.den+s.num*r.den).natAbs<=r.num.natAbs*s.den+s.num.natAbs*r.den:=by
  refine Nat.le_trans (Int.natAbs_add_le _ _) ?_
  rw[Int.natAbs_mul,Int.natAbs_mul,a4S,a4S]
  exact Nat.le_refl _
 have h5:2^(j+k+1)<=2^m:=Nat.pow_le_pow_right (by omega) hm
 rw[Nat.pow_succ]at h5
 rw[<-c0g]
 refine low_bound hd (by omega) ?_
 rw[Int.natAbs_mul,a4S,a4S]
 omega
theorem Rb.mul {j k m:Nat} {r s:Rat} (hr:Rb j r) (hs:Rb k s) (hm:j+k<=m):Rb m (r*s):=by
 have hd:(r.den:Int)*s.den≠0:=Int.mul_ne_zero (by have:=r.den_nz;omega) (by have:=s.den_nz;omega)
 have h1:=a4s hr.1 hs.1
 have h3:=a4s hr.2 hs.2
 have h5:2^(j+k)<=2^m:=Nat.pow_le_pow_right (by omega) hm
 rw[<-c0h]
 refine low_bound hd (by rw[Int.natAbs_mul];omega) ?_
 rw[Int.natAbs_mul,a4S,a4S]
 omega
theorem Rb.neg {k:Nat} {r:Rat} (h:Rb k r):Rb k (-r):=⟨by rw[Rat.neg_num,Int.natAbs_neg];exact h.1,by rw[Rat.neg_den];exact h.2⟩
theorem d4a (k:Nat):BP k=2^(32*k):=by unfold BP;rfl
end Go.WD
namespace Go.Proofs.YtmannekkmdockaaGreatDoor
open Go.Proofs.Tryz
open Go.RowKit Go.RX Go.WD
theorem Lm.two {z:Int} {k:Nat} (h:z.natAbs<2^k) (hk:k<=320000):Lm z:=by
 unfold Lm
 obtain⟨K,hK⟩:∃K,K=10000:=⟨_,rfl⟩
 rw[<-hK,d4a]
 exact Nat.lt_of_lt_of_le h (Nat.pow_le_pow_right (by omega) (by omega))
theorem Lm.add2 {y z:Int} {j k:Nat} (hy:y.natAbs<2^j) (hz:z.natAbs<2^k) {m:Nat} (h1:j+1<=m) (h2:k+1<=m):(y+z).natAbs<2^m:=by
 have h3:=Int.natAbs_add_le y z
 have h4:2^(j+1)<=2^m:=Nat.pow_le_pow_right (by omega) h1
 have h5:2^(k+1)<=2^m:=Nat.pow_le_pow_right (by omega) h2
 rw[Nat.pow_succ]at h4 h5
 omega
theorem a4T {y z:Int} {j k:Nat} (hy:y.natAbs<2^j) (hz:z.natAbs<2^k):(y*z).natAbs<2^(j+k):=by rw[Int.natAbs_mul];exact a4s hy hz
def Rp (H:PH) (v:Value) (r:Rat):Prop:=∃w1 w2,v= .agg #[.bool (decide (r.num<0)),w1,.bool false,w2]/\Mu H w1 r.num.natAbs/\Mu H w2 r.den
theorem Rp.mono {H H':PH} {v:Value} {r:Rat} (h:Rp H v r) (hl:PH.le H H'):Rp H' v r:=by
 obtain⟨w1,w2,h1,h2,h3⟩:=h;exact⟨w1,w2,h1,h2.mono hl,h3.mono hl⟩
theorem d7w {b c:Bool} {w1 w2:Value} {H:PH} {m n:Nat} (h1:Mu H w1 m) (h2:Mu H w2 n):(Value.agg #[.bool b,w1,.bool c,w2]).cells.size=4/\a0t (Value.agg #[.bool b,w1,.bool c,w2]).cells:=by
 refine⟨rfl,fun x hx=> ?_⟩
 have g1:=h1.one.2.2
 have g2:=h2.one.2.2
 rw[h1.one.1]at g1
 rw[h2.one.1]at g2
 rw[a1v]at hx
 simp only[List.mem_cons,List.not_mem_nil,or_false]at hx
 rcases hx with h|h|h|h
 ·rw[h];rfl
 ·rw[h];exact g1 _ (by simp)
 ·rw[h];rfl
 ·rw[h];exact g2 _ (by simp)
theorem Rp.rq {H:PH} {v:Value} {r:Rat} (h:Rp H v r):v.cells.size=4/\a0t v.cells:=by
 obtain⟨w1,w2,rfl,h1,h2⟩:=h;exact d7w h1 h2
theorem Lw.den {H:PH} {w:Value} {n:Nat} (h:Mu H w n):Lw H (.agg #[.bool false,w]) (n:Int):=b9W h
theorem c7K:a0I prog 116= .agg #[.bool false,.slice none 0 0]:=by kernel_rfl
section
variable {H:PH} {x y:Value} {p q:Int} {r s:Rat} {i j k:Nat}
set_option maxRecDepth 100000 in
theorem a3w (hx:Lw H x p) (hy:Lw H y q) (hp:Lm p) (hq:Lm q) (hq0:q≠0):Con prog 74 [x,y] H fun u H'=>PH.le H H'/\Rp H' u (Rat.divInt p q):=by
 have r1:=hx.rq
 have r2:=hy.rq
 have hx':=hx
 have hy':=hy
 obtain⟨wx,rfl,_⟩:=hx
 obtain⟨wy,rfl,_⟩:=hy
 have hn:=b0N p hq0
 have hd:=b0O p hq0
 obtain⟨g,hg⟩:∃g,g=Nat.gcd p.natAbs q.natAbs:=⟨_,rfl⟩
 have hg0:0<g:=by rw[hg];exact Nat.gcd_pos_of_pos_right _ (by omega)
 have hgm:Lm (g:Int):=by
  unfold Lm at hq⊢
  rw[Int.natAbs_natCast,hg]
  exact Nat.lt_of_le_of_lt (Nat.gcd_le_right _ (by omega)) hq
 rw[<-hg]at hn hd
 refine a0b mixed b7K (by kernel_rfl) rfl (a0a r1 (a0a r2 (a0d (a7Y hx' hy' hp hq) rfl ?_)))
 rintro u1 H1 ⟨l1,hu1⟩
 rw[<-hg]at hu1
 have hr1:=hu1.rq
 have hu1':=hu1
 obtain⟨w1,rfl,_⟩:=hu1
 simp only[cA,nA]
 refine⟨fun h=>(nomatch h),a0a hr1 (a0d (a5Z (hx'.mono l1) hu1' hp hgm (by omega)) rfl ?_)⟩
 rintro u2 H2 ⟨l2,a1,b1,rfl,ha1,hb1⟩
 have ra:=ha1.rq
 have rb:=hb1.rq
 have ha1':=ha1
 obtain⟨w2,rfl,n2⟩:=ha1
 obtain⟨w3,rfl,_⟩:=hb1
 simp only[cA,nA]
 refine⟨fun h=>(nomatch h),a0a ⟨_,rfl,Nat.zero_lt_succ _⟩ (a0a ⟨_,rfl,Nat.lt_succ_self _⟩ (a0a ra (a0a rb (a0d (a5Z (hy'.mono (l1.trans l2)) (hu1'.mono l2) hq hgm (by omega)) rfl ?_))))⟩
 rintro u3 H3 ⟨l3,a2,b2,rfl,ha2,hb2⟩
 have rc:=ha2.rq
 have rd:=hb2.rq
 have ha2':=ha2
 obtain⟨w4,rfl,n4⟩:=ha2
 obtain⟨w5,rfl,_⟩:=hb2
 simp only[cA,nA]
 refine⟨fun h=>(nomatch h),a0a ⟨_,rfl,Nat.zero_lt_succ _⟩ (a0a ⟨_,rfl,Nat.lt_succ_self _⟩ (a0a rc (a0a rd (a0a ⟨_,rfl⟩ (a0e (b:=decide (q/(g:Int)<0)) rfl (fun h=> ?_) (fun h=> ?_))))))⟩
 ·have h:=of_decide_eq_true h
  rw[if_pos h]at hn hd
  refine a0d (a3v (ha1'.mono l3)) rfl ?_
  rintro u4 H4 ⟨rfl,hu4⟩
  have re:=hu4.rq
  obtain⟨w6,rfl,n6⟩:=hu4
  simp only[cA,nA]
  refine⟨fun _=>PH.le.refl _,a0d (a3v ha2') rfl ?_⟩
  rintro u5 H5 ⟨rfl,hu5⟩
  have rf:=hu5.rq
  obtain⟨w7,rfl,n7⟩:=hu5
  refine⟨fun _=>PH.le.refl _,a0a re (a0a rf (a0c rfl ⟨l1.trans (l2.trans l3),w6,w7,?_,?_,?_⟩))⟩
  ·rw[hn]
   show Value.agg #[.bool (decide (-(p/(g:Int))<0)),w6,.bool (decide (-(q/(g:Int))<0)),w7]=_
   rw[decide_eq_false (show ¬ -(q/(g:Int))<0 by omega)]
  ·rw[hn];exact n6
  ·rw[show(Rat.divInt p q).den=(-(q/(g:Int))).natAbs from by omega];exact n7
 ·have h:=of_decide_eq_false h
  rw[if_neg h]at hn hd
  refine a0c rfl ⟨l1.trans (l2.trans l3),w2,w4,?_,?_,?_⟩
  ·rw[hn]
   show Value.agg #[.bool (decide (p/(g:Int)<0)),w2,.bool (decide (q/(g:Int)<0)),w4]=_
   rw[decide_eq_false h]
  ·rw[hn];exact n2.mono l3
  ·rw[show(Rat.divInt p q).den=(q/(g:Int)).natAbs from by omega];exact n4
end
end Go.Proofs.YtmannekkmdockaaGreatDoor
/- Arguments of the laws as values. -/
namespace Go.Proofs.YtmannekkmdockaaGreatDoor
open Go.Proofs.Tryz
open Go.ChangeShapes Go.WideShapes Go.ChangeAt Go.RowKit Go.RX Go.WD
open Go.ChangeMaps (open_string shut_string)
theorem c9E {P:Program} {f:FuncId} {args:List Value} {H:PH} {W:World} (h:Con P f args H fun v H'=>v= .bool true/\PH.le H H') (hW:H.In W):Calls P f args.toArray W fun e W'=>e= .returned (.bool true)/\Below W.heap.size W W':=
 (h W hW).mono fun _ _ ⟨_,_,he,hs,hv,hl⟩=>⟨by rw[he,hv],(hs.toExt hW hl).os,(hs.toExt hW hl).tape,(hs.toExt hW hl).output,(hs.toExt hW hl).size,(hs.toExt hW hl).blk⟩
theorem own:ownKnob prog.godebug=none:=by kernel_rfl
open Go.ChangeShapes Go.WideShapes Go.ChangeAt Go.RowKit Go.RX Go.WD
theorem b0P {w:World} {a:Addr} {v:Value} (h:w.cell? a=some v):∃b q cs T fz,a=⟨b,q,none⟩/\w.heap[b]? =some (.cells cs T fz)/\cs[q]? =some v:=by
 obtain⟨b,q,sp⟩:=a
 unfold World.cell? at h
 split at h
 ·rename_i c T fz hh
  cases sp with
  |some s=>simp at h
  |none=>exact⟨b,q,c,T,fz,rfl,hh,by simpa using h⟩
 ·cases h
theorem c0i {a:Addr} {b q:Nat} (h:a.add 0=⟨b,q,none⟩):a=⟨b,q,none⟩:=by
 obtain⟨b',q',sp⟩:=a
 cases sp with
 |none=>rw[a2Q]at h;simpa using h
 |some s=>unfold Addr.add at h;split at h<;>simp_all
section
variable {H:Type} {enc:TypeId×Value->H} {W:World} {base:Nat} {spare:Nat->Bool} {held:Bool} {fuel:Nat}
theorem a1m {t:TypeId} {cs:List Value} {x:DataW H×List MemPlace} {k T o c:Nat} (i:Nat) (ht:prog.underlying t=some (.struct (fieldsOf prog t))) (hk:(fieldsOf prog t).size=k) (hi:i<k) (hT:(fieldAt prog t i).type=T) (ho:(fieldAt prog t i).offset=o) (hc:prog.cellsOf T=c) (h:DataW.trod enc prog W base spare held fuel t cs=some x):
  ∃y n,DataW.trod enc prog W base spare held n T ((cs.drop o).take c)=some y:=by
 obtain⟨xs,n,_,rfl,hl,hlen,hf⟩:=DataW.trod_struct ht h
 have hfi:(fieldsOf prog t)[i]? =some (fieldAt prog t i):=by
  unfold fieldAt
  rw[Array.getElem?_eq_getElem (by omega)];rfl
 have:=hf i _ hfi
 rw[hT,ho,hc]at this
 rw[List.getElem?_eq_getElem (by omega)]at this
 exact⟨_,n,this⟩
end
theorem d4b {n:Int} (h:(Lit.int .u8 n).wf=true):∃m:Nat,n=(m:Int)/\m<256:=by
 have:=bounds_u8 h
 exact⟨n.toNat,by omega,by omega⟩
theorem c9F {n:Int} (h:(Lit.int .u16 n).wf=true):∃m:Nat,n=(m:Int)/\m<65536:=by
 have:=bounds_u16 h
 exact⟨n.toNat,by omega,by omega⟩
end Go.Proofs.YtmannekkmdockaaGreatDoor

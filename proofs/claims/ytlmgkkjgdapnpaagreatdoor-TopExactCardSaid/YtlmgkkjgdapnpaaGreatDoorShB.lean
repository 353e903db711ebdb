/- MADE BY rxgen.py: the trees of package share. -/
import Derived.Test.YtlmgkkjgdapnpaaGreatDoorWdT
import Derived.Test.YtlmgkkjgdapnpaaGreatDoorLgC
namespace Go.Proofs.YtlmgkkjgdapnpaaGreatDoor
open Go.Proofs.Tryz
open Go.RowKit Go.RX
theorem b6l:a0w prog [] [] [] [⟨5,[0,1,0,7,15,31],[5,2,5,2,6,6],[4,0,6,0,4,6],[0,2,1,3],[4,5]⟩] 100=some (.rq (.cells 2 V0)
(.rq (.cells 2 V1)
(.call false 146 [(.ag V0),(.ag V1)]
(.rq (.cells 2 V2)
(.call false 147 [(.ag V0),(.ag V2)]
(.rq (.tup 0 V3)
(.rq (.tup 1 V3)
(.rq (.cells 2 (.proj V3 0))
(.rq (.cells 2 (.proj V3 1))
(.call false 147 [(.ag V1),(.ag V2)]
(.rq (.tup 0 V4)
(.rq (.tup 1 V4)
(.rq (.cells 2 (.proj V4 0))
(.rq (.cells 2 (.proj V4 1))
(.rq (.bool (.cell (.proj V4 0) 0 0 noI))
(.br (.cell (.proj V4 0) 0 0 noI)
(.call true 148 [(.ag (.proj V3 0))]
(.call true 148 [(.ag (.proj V4 0))]
(.rq (.cells 2 V5)
(.rq (.cells 2 V6)
(.ret [(.cat (.ag V5) 2 (.ag V6))])))))
(.ret [(.cat (.ag (.proj V3 0)) 2 (.ag (.proj V4 0)))]))))))))))))))))):=by kernel_rfl
theorem c4L:a0w prog [] [] [] [⟨1,[0,1,3,0,8,31,63,127],[1,1,2,1,1,2,0,6],[0,0,0,0,0,0,0,1],[0,1,3,4,2,5,6],[7]⟩] 40=some (.rq (.cells 16 V0)
(.call true 103 [(.sub V0 0 8 0 noI)]
(.call true 103 [(.sub V0 8 8 0 noI)]
(.rq (.cells 2 V1)
(.rq (.cells 2 V2)
(.ret [(.put (.cat V1 2 (.z 113)) 2 2 V2 0 noI)])))))):=by kernel_rfl
theorem b8K:a0w prog [] [] [] [⟨1,[0,0,3,7],[5,2,0,6],[0,0,0,1],[0,1,2],[3]⟩] 98=some (.rq (.cells 2 V0)
(.call true 99 [(.ki 1)]
(.rq (.cells 2 V1)
(.ret [(.cat (.ag V0) 2 V1)])))):=by kernel_rfl
theorem b8L:a0w prog [] [] [⟨3,3,[25],[]⟩] [] 44=some (.rq (.cells 4 V0)
(.call false 106 [(.sub V0 0 2 0 noI)]
(.rq (.tup 0 V1)
(.rq (.tup 1 V1)
(.rq (.cells 8 (.proj V1 0))
(.call false 106 [(.sub V0 2 2 0 noI)]
(.rq (.tup 0 V2)
(.rq (.tup 1 V2)
(.rq (.cells 8 (.proj V2 0))
(.join 1
(.rq (.int .i64 (.proj V1 1))
(.br (.io .neq (.proj V1 1) (.ki 0))
(.next 0 [(.k (.bool true))])
(.rq (.int .i64 (.proj V2 1))
(.next 0 [(.io .neq (.proj V2 1) (.ki 0))]))))
(.rq (.bool V3)
(.br V3
(.ret [(.cat (.z 59) 8 (.z 59)),(.ki 6)])
(.ret [(.cat (.ag (.proj V1 0)) 8 (.ag (.proj V2 0))),(.ki 0)]))))))))))))):=by kernel_rfl
theorem b8M:a0w prog [] [] [] [⟨1,[0,1,0,4,15,0,32,0,128,511,1023,0,2048,0,8192,32767,65535,131071],[1,1,1,1,2,1,1,1,1,2,2,1,1,1,1,2,2,6],[0,0,0,0,0,0,0,0,0,0,0,0,0,0,0,0,0,2],[0,1,2,3,5,6,7,8,11,12,13,14,4,9,10,15,16],[17]⟩] 42=some (.rq (.cells 4 V0)
(.rq (.cells 4 V1)
(.call true 101 [(.sub V0 0 2 0 noI),(.sub V1 2 2 0 noI)]
(.call true 101 [(.sub V1 0 2 0 noI),(.sub V0 2 2 0 noI)]
(.call true 105 [V2,V3]
(.call true 101 [(.sub V0 2 2 0 noI),(.sub V1 2 2 0 noI)]
(.call true 100 [V4,V5]
(.rq (.cells 4 V6)
(.ret [(.ag V6)]))))))))):=by kernel_rfl
theorem b8N:a0w prog [] [] [] [⟨1,[0,1,0,4,15,0,32,0,128,511,1023,2047],[1,1,1,1,2,1,1,1,1,2,2,6],[0,0,0,0,0,0,0,0,0,0,0,2],[0,1,2,3,5,6,7,8,4,9,10],[11]⟩] 37=some (.rq (.cells 4 V0)
(.rq (.cells 4 V1)
(.call true 101 [(.sub V0 0 2 0 noI),(.sub V1 2 2 0 noI)]
(.call true 101 [(.sub V0 2 2 0 noI),(.sub V1 0 2 0 noI)]
(.call true 100 [V2,V3]
(.rq (.cells 4 V4)
(.ret [(.ag V4)]))))))):=by kernel_rfl
theorem c4M:a0w prog [] [] [] [⟨1,[0,1,0,4,15,0,32,0,128,511,1023,2047],[1,1,1,1,2,1,1,1,1,2,2,0],[0,0,0,0,0,0,0,0,0,0,0,0],[0,1,2,3,5,6,7,8,4,9,10,11],[]⟩] 41=some (.rq (.cells 4 V0)
(.rq (.cells 4 V1)
(.call true 101 [(.sub V0 0 2 0 noI),(.sub V1 2 2 0 noI)]
(.call true 101 [(.sub V1 0 2 0 noI),(.sub V0 2 2 0 noI)]
(.call true 104 [V2,V3]
(.ret [V4])))))):=by kernel_rfl
theorem b8O:a0w prog [] [] [⟨3,3,[21],[]⟩] [⟨3,[0,1,3,7,15,31,63,31,159,511,31,2047,4095,8191],[1,1,2,0,0,1,1,1,1,2,5,2,0,0],[0,0,0,0,0,0,0,0,0,0,1,0,0,0],[0,1,2,3,4,5,6,7,8,10,9,11,12,13],[]⟩] 97=some (.rq (.cells 16 V0)
(.call false 99 [(.ki 1)]
(.rq (.cells 2 V1)
(.call false 40 [(.ag V0)]
(.rq (.cells 4 V2)
(.join 1
(.call true 143 [(.sub V2 2 2 0 noI)]
(.ri V3
(.br (.io .leq V3 (.ki 0))
(.next 0 [(.k (.bool true))])
(.call true 146 [(.sub V2 0 2 0 noI),(.sub V2 2 2 0 noI)]
(.call true 104 [V4,(.ag V1)]
(.ri V5
(.next 0 [(.io .neq V5 (.ki 0))])))))))
(.rq (.bool V3)
(.br V3
(.ret [(.ki 20)])
(.ret [(.ki 0)]))))))))):=by kernel_rfl
theorem c9S:a0w prog [] [] [⟨0,2,[],[]⟩] [] 216=some (.pm f216 1 1 [V1]
(.loop [(.k (.bool false)),(.ki 0)]
(.ri V4
(.ri V2
(.br (.io .lss V4 V2)
(.pm f216 3 0 [V1,V4]
(.pm f216 3 1 [V5]
(.rq (.cells 16 V6)
(.ef false f216 4 2 [V0,(.ag V6)]
(.rq (.bool V7)
(.br (.nt V7)
(.ret [(.k (.bool false))])
(.next 0 [V3,(.io .add V4 (.ki 1))])))))))
(.ret [(.k (.bool true))])))))):=by kernel_rfl
theorem b8P:a0w prog [] [] [] [] 160=some (.call false 216 [(.k (.func (.func 215) #[] #[])),V0]
(.ret [V1])):=by kernel_rfl
theorem b6m:a0w prog [] [] [] [] 215=some (.rq (.cells 16 V0)
(.call false 97 [(.ag V0)]
(.ri V1
(.ret [(.io .eql V1 (.ki 0))])))):=by kernel_rfl
theorem c4N:a0w prog [] [] [] [⟨4,[0,0,2,0,14,31,63,127],[0,5,2,5,2,2,0,0],[0,0,0,1,0,0,0,0],[0,1,3,2,4,5,6,7],[]⟩] 111=some (.rq (.cells 16 V0)
(.rq (.cells 16 V1)
(.ef false f111 1 2 [(.ag V0),(.ag V1)]
(.call false 160 [V3]
(.rq (.bool V4)
(.br (.nt V4)
(.ret [(.ki 0),(.ki 20)])
(.call true 40 [(.ag V0)]
(.call true 40 [(.ag V1)]
(.ef true f111 4 5 [V2,V5,V6]
(.ret [V7,(.ki 0)])))))))))):=by kernel_rfl
theorem c4O:a0w prog [] [] [] [⟨4,[0,0,2,0,14,31,63,127],[0,5,2,5,2,2,6,0],[0,0,0,1,0,0,2,0],[0,1,3,2,4,5],[6,7]⟩] 261=some (.rq (.cells 16 V0)
(.rq (.cells 16 V1)
(.ef false f261 1 2 [(.ag V0),(.ag V1)]
(.call false 160 [V3]
(.rq (.bool V4)
(.br (.nt V4)
(.ret [(.z 115),(.ki 20)])
(.call true 40 [(.ag V0)]
(.call true 40 [(.ag V1)]
(.ef true f261 4 5 [V2,V5,V6]
(.rq (.cells 4 V7)
(.ret [(.ag V7),(.ki 0)]))))))))))):=by kernel_rfl
theorem b4B:a0w prog [] [] [] [] 260=some (.rq (.cells 4 V0)
(.ri V1
(.br (.io .neq V1 (.ki 0))
(.ret [(.cat (.z 59) 8 (.z 59)),V1])
(.call false 44 [(.ag V0)]
(.rq (.tup 0 V2)
(.rq (.tup 1 V2)
(.rq (.cells 16 (.proj V2 0))
(.ret [(.ag (.proj V2 0)),(.proj V2 1)])))))))):=by kernel_rfl
theorem c4P:a0w prog [] [] [] [⟨3,[0,1,0,7,15,31,63,63,255,511],[5,2,5,2,2,2,0,0,6,0],[0,0,1,0,0,0,0,0,2,0],[0,2,1,3,4,5,6,7],[8,9]⟩] 72=some (.rq (.cells 8 V0)
(.rq (.cells 8 V1)
(.pm f72 1 2 [(.ag V1),(.z 59)]
(.rq (.bool V2)
(.br V2
(.ret [(.cat (.z 59) 8 (.z 59)),(.ki 7)])
(.call true 103 [(.ag V0)]
(.call true 103 [(.ag V1)]
(.call true 100 [V3,V4]
(.call true 44 [V5]
(.rq (.tup 0 V6)
(.rq (.tup 1 V6)
(.rq (.cells 16 (.proj V6 0))
(.ret [(.ag (.proj V6 0)),(.proj V6 1)]))))))))))))):=by kernel_rfl
theorem d4o:a0w prog [] [] [] [] 240=some (.call false 24 [V0]
(.call false 24 [V1]
(.call false 72 [V2,V3]
(.rq (.tup 0 V4)
(.rq (.tup 1 V4)
(.rq (.cells 16 (.proj V4 0))
(.ret [(.ag (.proj V4 0)),(.proj V4 1)]))))))):=by kernel_rfl
theorem c9T:a0w prog [] [] [⟨3,1,[15],[]⟩] [] 236=some (.rq (.cells 16 V0)
(.rq (.cells 16 V1)
(.join 1
(.ef false f236 1 2 [(.ag V0),(.ag V1)]
(.call false 160 [V2]
(.rq (.bool V3)
(.br V3
(.pm f236 1 8 [(.sub V1 0 8 0 noI),(.z 59)]
(.next 0 [V4]))
(.next 0 [(.k (.bool false))])))))
(.rq (.bool V2)
(.br V2
(.ret [(.cat (.z 59) 8 (.z 59)),(.ki 7)])
(.call false 261 [(.ag V0),(.ag V1),(.k (.func (.func 37) #[] #[]))]
(.rq (.tup 0 V3)
(.rq (.tup 1 V3)
(.call false 260 [(.proj V3 0),(.proj V3 1)]
(.rq (.tup 0 V4)
(.rq (.tup 1 V4)
(.rq (.cells 16 (.proj V4 0))
(.ret [(.ag (.proj V4 0)),(.proj V4 1)]))))))))))))):=by kernel_rfl
theorem c9U:a0w prog [] [] [] [] 57=some (.rq (.cells 16 V0)
(.rq (.cells 16 V1)
(.call false 111 [(.ag V0),(.ag V1),(.k (.func (.func 41) #[] #[]))]
(.rq (.tup 0 V2)
(.rq (.tup 1 V2)
(.ret [(.proj V2 0),(.proj V2 1)])))))):=by kernel_rfl
theorem c4Q:a0w prog [] [] [] [] 36=some (.call false 99 [V0]
(.call false 98 [V1]
(.rq (.cells 4 V2)
(.ret [(.ag V2)])))):=by kernel_rfl
end Go.Proofs.YtlmgkkjgdapnpaaGreatDoor
/- Fractions: plain; package share: fractions of integers of any length. -/
namespace Go.WD
open Go.RX
def Rb (k:Nat) (r:Rat):Prop:=r.num.natAbs<2^k/\r.den<2^k
theorem Rb.le {j k:Nat} {r:Rat} (h:Rb j r) (hk:j<=k):Rb k r:=⟨Nat.lt_of_lt_of_le h.1 (Nat.pow_le_pow_right (by omega) hk),Nat.lt_of_lt_of_le h.2 (Nat.pow_le_pow_right (by omega) hk)⟩
theorem c4R {a b i j:Nat} (ha:a<2^i) (hb:b<2^j):a*b<2^(i+j):=by
 rw[Nat.pow_add];exact Nat.mul_lt_mul'' ha hb
theorem b0a (n:Int) {d:Int} (hd:d≠0):(Rat.divInt n d).num=if d/(Nat.gcd n.natAbs d.natAbs:Nat)<0 then -(n/(Nat.gcd n.natAbs d.natAbs:Nat))else n/(Nat.gcd n.natAbs d.natAbs:Nat):=by
 have hg:0<Nat.gcd n.natAbs d.natAbs:=Nat.gcd_pos_of_pos_right _ (by omega)
 have hgn:((Nat.gcd n.natAbs d.natAbs:Nat):Int) ∣ n:=Int.ofNat_dvd_left.2 (Nat.gcd_dvd_left _ _)
 rw[Rat.num_divInt]
 have e:(d.gcd n:Nat)=Nat.gcd n.natAbs d.natAbs:=by unfold Int.gcd;exact Nat.gcd_comm _ _
 rw[e]
 obtain⟨m,hm⟩:=hgn
 have hdv:((Nat.gcd n.natAbs d.natAbs:Nat):Int) ∣ d:=Int.ofNat_dvd_left.2 (Nat.gcd_dvd_right _ _)
 obtain⟨c,hc⟩:=hdv
 generalize Nat.gcd n.natAbs d.natAbs=g at hg hm hc
 have hg':(g:Int)≠0:=by omega
 have e1:n/(g:Int)=m:=by rw[hm];exact Int.mul_ediv_cancel_left _ hg'
 have e2:d/(g:Int)=c:=by rw[hc];exact Int.mul_ediv_cancel_left _ hg'
 rw[e1,e2]
 rcases Int.lt_or_gt_of_ne hd with h|h
 ·have hcn:c<0:=by
   rcases Int.lt_or_le c 0 with h1|h1
   ·exact h1
   ·have:=Int.mul_nonneg (show(0:Int)<=g by omega) h1;omega
  rw[if_pos hcn,Int.sign_eq_neg_one_of_neg h,hm,Int.neg_one_mul,<-Int.mul_neg]
  exact Int.mul_ediv_cancel_left _ hg'
 ·have hcn:¬c<0:=fun h1=>by
   have:=Int.mul_neg_of_pos_of_neg (show(0:Int)<g by omega) h1;omega
  rw[if_neg hcn,Int.sign_eq_one_of_pos h,Int.one_mul,hm]
  exact Int.mul_ediv_cancel_left _ hg'
theorem b3r (n:Int) {d:Int} (hd:d≠0):((Rat.divInt n d).den:Int)=if d/(Nat.gcd n.natAbs d.natAbs:Nat)<0 then -(d/(Nat.gcd n.natAbs d.natAbs:Nat))else d/(Nat.gcd n.natAbs d.natAbs:Nat):=by
 have hg:0<Nat.gcd n.natAbs d.natAbs:=Nat.gcd_pos_of_pos_right _ (by omega)
 rw[Rat.den_divInt,if_neg hd]
 have e:(d.gcd n:Nat)=Nat.gcd n.natAbs d.natAbs:=by unfold Int.gcd;exact Nat.gcd_comm _ _
 rw[e]
 have hdv:((Nat.gcd n.natAbs d.natAbs:Nat):Int) ∣ d:=Int.ofNat_dvd_left.2 (Nat.gcd_dvd_right _ _)
 obtain⟨c,hc⟩:=hdv
 generalize Nat.gcd n.natAbs d.natAbs=g at hg hc
 have e2:d/(g:Int)=c:=by rw[hc];exact Int.mul_ediv_cancel_left _ (by omega)
 have e3:d.natAbs/g=c.natAbs:=by rw[hc,Int.natAbs_mul,Int.natAbs_natCast];exact Nat.mul_div_cancel_left _ hg
 rw[e2,e3]
 split<;>omega
theorem c9V (r s:Rat):Rat.divInt (r.num*s.den+s.num*r.den) ((r.den:Int)*s.den)=r+s:=by
 rw[Rat.add_def',<-Int.natCast_mul,Rat.divInt_ofNat]
theorem b8Q (r s:Rat):Rat.divInt (r.num*s.den) ((r.den:Int)*s.num)=r/s:=by
 have h1:=Rat.num_divInt_den r
 rw[Rat.div_def,Rat.inv_def]
 conv=>rhs;rw[<-h1]
 rw[Rat.divInt_mul_divInt]
def sgR (r s:Rat):Int:=if r<s then -1 else if r=s then 0 else 1
theorem d4p (r s:Rat):sgI (r.num*s.den) (s.num*r.den)=sgR r s:=by
 unfold sgI sgR
 have h1:=Rat.lt_iff r s
 have h2:=Rat.eq_iff_mul_eq_mul (p:=r) (q:=s)
 by_cases a:r<s
 ·rw[if_pos a,if_pos (h1.1 a)]
 ·rw[if_neg a,if_neg (fun h=>a (h1.2 h))]
  by_cases b:r=s
  ·rw[if_pos b,if_pos (h2.1 b)]
  ·rw[if_neg b,if_neg (fun h=>b (h2.2 h))]
theorem a5o {n d:Int} {k:Nat} (hd:d≠0) (hn:n.natAbs<2^k) (hdk:d.natAbs<2^k):Rb k (Rat.divInt n d):=by
 have hg:0<Nat.gcd n.natAbs d.natAbs:=Nat.gcd_pos_of_pos_right _ (by omega)
 constructor
 ·have h1:(n/(Nat.gcd n.natAbs d.natAbs:Nat)).natAbs<=n.natAbs:=Int.natAbs_ediv_le_natAbs _ _
  rw[b0a n hd]
  split
  ·rw[Int.natAbs_neg];omega
  ·omega
 ·have h2:=b3r n hd
  have h3:(d/(Nat.gcd n.natAbs d.natAbs:Nat)).natAbs<=d.natAbs:=Int.natAbs_ediv_le_natAbs _ _
  split at h2<;>omega
theorem c9W (r:Rat):((r.den:Nat):Int).natAbs=r.den:=Int.natAbs_natCast _
theorem d4q (k:Nat):BP k=2^(32*k):=by unfold BP;rfl
end Go.WD
namespace Go.Proofs.YtlmgkkjgdapnpaaGreatDoor
open Go.Proofs.Tryz
open Go.RowKit Go.RX Go.WD
theorem Lm.two {z:Int} {k:Nat} (h:z.natAbs<2^k) (hk:k<=320000):Lm z:=by
 unfold Lm
 obtain⟨K,hK⟩:∃K,K=10000:=⟨_,rfl⟩
 rw[<-hK,d4q]
 exact Nat.lt_of_lt_of_le h (Nat.pow_le_pow_right (by omega) (by omega))
theorem Lm.add2 {y z:Int} {j k:Nat} (hy:y.natAbs<2^j) (hz:z.natAbs<2^k) {m:Nat} (h1:j+1<=m) (h2:k+1<=m):(y+z).natAbs<2^m:=by
 have h3:=Int.natAbs_add_le y z
 have h4:2^(j+1)<=2^m:=Nat.pow_le_pow_right (by omega) h1
 have h5:2^(k+1)<=2^m:=Nat.pow_le_pow_right (by omega) h2
 rw[Nat.pow_succ]at h4 h5
 omega
theorem a4R {y z:Int} {j k:Nat} (hy:y.natAbs<2^j) (hz:z.natAbs<2^k):(y*z).natAbs<2^(j+k):=by rw[Int.natAbs_mul];exact c4R hy hz
def Rp (H:PH) (v:Value) (r:Rat):Prop:=∃w1 w2,v= .agg #[.bool (decide (r.num<0)),w1,.bool false,w2]/\Mu H w1 r.num.natAbs/\Mu H w2 r.den
theorem Rp.mono {H H':PH} {v:Value} {r:Rat} (h:Rp H v r) (hl:PH.le H H'):Rp H' v r:=by
 obtain⟨w1,w2,h1,h2,h3⟩:=h;exact⟨w1,w2,h1,h2.mono hl,h3.mono hl⟩
theorem d7P {b c:Bool} {w1 w2:Value} {H:PH} {m n:Nat} (h1:Mu H w1 m) (h2:Mu H w2 n):(Value.agg #[.bool b,w1,.bool c,w2]).cells.size=4/\a0p (Value.agg #[.bool b,w1,.bool c,w2]).cells:=by
 refine⟨rfl,fun x hx=> ?_⟩
 have g1:=h1.one.2.2
 have g2:=h2.one.2.2
 rw[h1.one.1]at g1
 rw[h2.one.1]at g2
 rw[a1e]at hx
 simp only[List.mem_cons,List.not_mem_nil,or_false]at hx
 rcases hx with h|h|h|h
 ·rw[h];rfl
 ·rw[h];exact g1 _ (by simp)
 ·rw[h];rfl
 ·rw[h];exact g2 _ (by simp)
theorem Rp.rq {H:PH} {v:Value} {r:Rat} (h:Rp H v r):v.cells.size=4/\a0p v.cells:=by
 obtain⟨w1,w2,rfl,h1,h2⟩:=h;exact d7P h1 h2
theorem Lw.den {H:PH} {w:Value} {n:Nat} (h:Mu H w n):Lw H (.agg #[.bool false,w]) (n:Int):=b8H h
theorem d4r:a0G prog 113= .agg #[.bool false,.slice none 0 0]:=by kernel_rfl
section
variable {H:PH} {x y:Value} {p q:Int} {r s:Rat} {i j k:Nat}
set_option maxRecDepth 100000 in
theorem a4S (hx:Lw H x p) (hy:Lw H y q) (hp:Lm p) (hq:Lm q) (hq0:q≠0):Con prog 100 [x,y] H fun u H'=>PH.le H H'/\Rp H' u (Rat.divInt p q):=by
 have r1:=hx.rq
 have r2:=hy.rq
 have hx':=hx
 have hy':=hy
 obtain⟨wx,rfl,_⟩:=hx
 obtain⟨wy,rfl,_⟩:=hy
 have hn:=b0a p hq0
 have hd:=b3r p hq0
 obtain⟨g,hg⟩:∃g,g=Nat.gcd p.natAbs q.natAbs:=⟨_,rfl⟩
 have hg0:0<g:=by rw[hg];exact Nat.gcd_pos_of_pos_right _ (by omega)
 have hgm:Lm (g:Int):=by
  unfold Lm at hq⊢
  rw[Int.natAbs_natCast,hg]
  exact Nat.lt_of_le_of_lt (Nat.gcd_le_right _ (by omega)) hq
 rw[<-hg]at hn hd
 refine a0b mixed b6l (by kernel_rfl) rfl (a0a r1 (a0a r2 (a0d (a7F hx' hy' hp hq) rfl ?_)))
 rintro u1 H1 ⟨l1,hu1⟩
 rw[<-hg]at hu1
 have hr1:=hu1.rq
 have hu1':=hu1
 obtain⟨w1,rfl,_⟩:=hu1
 simp only[cA,nA]
 refine⟨fun h=>(nomatch h),a0a hr1 (a0d (a8W (hx'.mono l1) hu1' hp hgm (by omega)) rfl ?_)⟩
 rintro u2 H2 ⟨l2,a1,b1,rfl,ha1,hb1⟩
 have ra:=ha1.rq
 have rb:=hb1.rq
 have ha1':=ha1
 obtain⟨w2,rfl,n2⟩:=ha1
 obtain⟨w3,rfl,_⟩:=hb1
 simp only[cA,nA]
 refine⟨fun h=>(nomatch h),a0a ⟨_,rfl,Nat.zero_lt_succ _⟩ (a0a ⟨_,rfl,Nat.lt_succ_self _⟩ (a0a ra (a0a rb (a0d (a8W (hy'.mono (l1.trans l2)) (hu1'.mono l2) hq hgm (by omega)) rfl ?_))))⟩
 rintro u3 H3 ⟨l3,a2,b2,rfl,ha2,hb2⟩
 have rc:=ha2.rq
 have rd:=hb2.rq
 have ha2':=ha2
 obtain⟨w4,rfl,n4⟩:=ha2
 obtain⟨w5,rfl,_⟩:=hb2
 simp only[cA,nA]
 refine⟨fun h=>(nomatch h),a0a ⟨_,rfl,Nat.zero_lt_succ _⟩ (a0a ⟨_,rfl,Nat.lt_succ_self _⟩ (a0a rc (a0a rd (a0a ⟨_,rfl⟩ (a0f (b:=decide (q/(g:Int)<0)) rfl (fun h=> ?_) (fun h=> ?_))))))⟩
 ·have h:=of_decide_eq_true h
  rw[if_pos h]at hn hd
  refine a0d (a4Q (ha1'.mono l3)) rfl ?_
  rintro u4 H4 ⟨rfl,hu4⟩
  have re:=hu4.rq
  obtain⟨w6,rfl,n6⟩:=hu4
  simp only[cA,nA]
  refine⟨fun _=>PH.le.refl _,a0d (a4Q ha2') rfl ?_⟩
  rintro u5 H5 ⟨rfl,hu5⟩
  have rf:=hu5.rq
  obtain⟨w7,rfl,n7⟩:=hu5
  refine⟨fun _=>PH.le.refl _,a0a re (a0a rf (a0c rfl ⟨l1.trans (l2.trans l3),w6,w7,?_,?_,?_⟩))⟩
  ·rw[hn]
   show Value.agg #[.bool (decide (-(p/(g:Int))<0)),w6,.bool (decide (-(q/(g:Int))<0)),w7]=_
   rw[decide_eq_false (show ¬ -(q/(g:Int))<0 by omega)]
  ·rw[hn];exact n6
  ·rw[show(Rat.divInt p q).den=(-(q/(g:Int))).natAbs from by omega];exact n7
 ·have h:=of_decide_eq_false h
  rw[if_neg h]at hn hd
  refine a0c rfl ⟨l1.trans (l2.trans l3),w2,w4,?_,?_,?_⟩
  ·rw[hn]
   show Value.agg #[.bool (decide (p/(g:Int)<0)),w2,.bool (decide (q/(g:Int)<0)),w4]=_
   rw[decide_eq_false h]
  ·rw[hn];exact n2.mono l3
  ·rw[show(Rat.divInt p q).den=(q/(g:Int)).natAbs from by omega];exact n4
end
end Go.Proofs.YtlmgkkjgdapnpaaGreatDoor
/- Package share: fractions in memory. -/
namespace Go.Proofs.YtlmgkkjgdapnpaaGreatDoor
open Go.Proofs.Tryz
open Go.RowKit Go.RX Go.WD
def shv (n d:Nat):Value:= .agg (words n++words d)
theorem a0s (a b:Nat):(words a++words b).size=16/\a0p (words a++words b):=by
 refine⟨by rw[Array.size_append,a0r,a0r],fun c hc=> ?_⟩
 rw[Array.toList_append,List.mem_append]at hc
 rcases hc with h|h
 ·exact a0x a c h
 ·exact a0x b c h
theorem b8R (a b:Nat):(words a++words b).extract 0 8=words a:=by
 apply Array.ext'
 simp[a0r,List.take_of_length_le]
theorem b8S (a b:Nat):(words a++words b).extract 8 16=words b:=by
 apply Array.ext'
 simp[a0r,List.take_of_length_le]
theorem d6I (a b:Nat):Value.agg ((words a++words b).extract 0 8)=wd a:=by rw[b8R];rfl
theorem d7Q (a b:Nat):Value.agg ((words a++words b).extract 8 16)=wd b:=by rw[b8S];rfl
def Lp (H:PH) (v:Value) (p q:Int):Prop:=∃w1 w2,v= .agg #[.bool (decide (p<0)),w1,.bool (decide (q<0)),w2]/\Mu H w1 p.natAbs/\Mu H w2 q.natAbs
theorem Lp.mono {H H':PH} {v:Value} {p q:Int} (h:Lp H v p q) (hl:PH.le H H'):Lp H' v p q:=by
 obtain⟨w1,w2,h1,h2,h3⟩:=h;exact⟨w1,w2,h1,h2.mono hl,h3.mono hl⟩
theorem Lp.rq {H:PH} {v:Value} {p q:Int} (h:Lp H v p q):v.cells.size=4/\a0p v.cells:=by
 obtain⟨w1,w2,rfl,h1,h2⟩:=h;exact d7P h1 h2
theorem Lp.rp {H:PH} {v:Value} {p q:Int} {r:Rat} (h:Lp H v p q) (hp:r.num=p) (hq:(r.den:Int)=q):Rp H v r:=by
 obtain⟨w1,w2,rfl,h1,h2⟩:=h
 refine⟨w1,w2,?_,by rw[hp];exact h1,?_⟩
 ·rw[hp,decide_eq_false (show ¬q<0 by omega)]
 ·rw[show r.den=q.natAbs from by omega];exact h2
def a8A (r:Rat):Value:=if(-(HM:Int)<=r.num/\r.num<HM)/\(r.den:Int)<HM then .tuple #[shv (rs r.num) (rs (r.den:Int)),.int .i64 0]else .tuple #[shv 0 0,.int .i64 6]
theorem a7J:Value.agg ((a0G prog 59).cells++(a0G prog 59).cells)=shv 0 0:=by rw[a3U];rfl
section
variable {H:PH} {x y:Value} {p q:Int} {r s:Rat} {j k:Nat}
set_option maxRecDepth 100000 in
theorem a3f (n d:Nat):Con prog 40 [shv n d] H fun u H'=>PH.le H H'/\Lp H' u (toI n) (toI d):=by
 refine a0b mixed c4L (by kernel_rfl) rfl (a0a (a0s n d) (a0d (a2w n) (congrArg (fun z=>[z]) (d6I n d)) ?_))
 rintro u1 H1 ⟨l1,hu1⟩
 simp only[cA,nA]
 refine⟨fun _=>l1,a0d (a2w d) (congrArg (fun z=>[z]) (d7Q n d)) ?_⟩
 rintro u2 H2 ⟨l2,hu2⟩
 have r1:=hu1.rq
 have r2:=hu2.rq
 obtain⟨w1,rfl,n1⟩:=hu1
 obtain⟨w2,rfl,n2⟩:=hu2
 refine⟨fun _=>l2,a0a r1 (a0a r2 (a0c rfl ⟨l1.trans l2,w1,w2,?_,n1.mono l2,n2⟩))⟩
 show Value.agg (spl ((#[Value.bool (decide (toI n<0)),w1]:Array Value)++(a0G prog 113).cells) 2 [.bool (decide (toI d<0)),w2])=_
 rw[d4r];rfl
theorem b6n (hx:Lw H x p):Con prog 98 [x] H fun u H'=>PH.le H H'/\Rp H' u (p:Rat):=by
 have r0:=hx.rq
 obtain⟨w,rfl,n0⟩:=hx
 refine a0b mixed b8K (by kernel_rfl) rfl (a0a r0 (a0d (a7G 1 (by omega) (by omega)) rfl ?_))
 rintro u1 H1 ⟨l1,hu1⟩
 have r1:=hu1.rq
 obtain⟨w1,rfl,n1⟩:=hu1
 exact⟨fun _=>l1,a0a r1 (a0c rfl ⟨l1,w,w1,rfl,n0.mono l1,n1⟩)⟩
set_option maxRecDepth 100000 in
theorem a4o (hx:Rp H x r):Con prog 44 [x] H fun u H'=>PH.le H H'/\u=a8A r:=by
 have r0:=hx.rq
 obtain⟨w1,w2,rfl,n1,n2⟩:=hx
 have hL1:Lw H (.agg #[.bool (decide (r.num<0)),w1]) r.num:=⟨w1,rfl,n1⟩
 refine a0b mixed b8L (by kernel_rfl) rfl (a0a r0 (a0d (a7I hL1) rfl ?_))
 rintro u1 H1 ⟨l1,rfl⟩
 have hL2:=Lw.den (n2.mono l1)
 have hd0:0<=(r.den:Int):=by omega
 have hHM:=a8S
 unfold a8A
 by_cases f1: -(HM:Int)<=r.num/\r.num<HM
 ·rw[a7A f1]
  simp only[cA,nA]
  refine⟨fun h=>(nomatch h),a0a ⟨_,rfl,Nat.zero_lt_succ _⟩ (a0a ⟨_,rfl,Nat.lt_succ_self _⟩ (a0a ⟨a0r _,a0x _⟩ (a0d (a7I hL2) rfl ?_)))⟩
  rintro u2 H2 ⟨l2,rfl⟩
  by_cases f2:(r.den:Int)<HM
  ·rw[a7A (show -(HM:Int)<=(r.den:Int)/\(r.den:Int)<HM by omega),if_pos ⟨f1,f2⟩]
   simp only[cA,nA]
   refine⟨fun h=>(nomatch h),a0a ⟨_,rfl,Nat.zero_lt_succ _⟩ (a0a ⟨_,rfl,Nat.lt_succ_self _⟩ (a0a ⟨a0r _,a0x _⟩ ⟨fun vals H'=>vals=[.bool false]/\H'=H2,a0a ⟨_,rfl⟩ (a0e rfl (a0a ⟨_,rfl⟩ ⟨rfl,rfl⟩)),?_⟩))⟩
   rintro vals H3-⟨rfl,rfl⟩
   exact a0a ⟨_,rfl⟩ (a0e rfl (a0c rfl ⟨l1.trans l2,rfl⟩))
  ·rw[a9Z (show ¬(-(HM:Int)<=(r.den:Int)/\(r.den:Int)<HM) by omega),if_neg (fun h=>f2 h.2)]
   simp only[cA,nA]
   refine⟨fun h=>(nomatch h),a0a ⟨_,rfl,Nat.zero_lt_succ _⟩ (a0a ⟨_,rfl,Nat.lt_succ_self _⟩ (a0a ⟨a0r _,a0x _⟩ ⟨fun vals H'=>vals=[.bool true]/\H'=H2,a0a ⟨_,rfl⟩ (a0e rfl (a0a ⟨_,rfl⟩ ⟨rfl,rfl⟩)),?_⟩))⟩
   rintro vals H3-⟨rfl,rfl⟩
   exact a0a ⟨_,rfl⟩ (a0K rfl (a0c (congrArg (fun z=>Value.tuple #[z,.int .i64 6]) a7J) ⟨l1.trans l2,rfl⟩))
 ·rw[a9Z f1,if_neg (fun h=>f1 h.1)]
  simp only[cA,nA]
  refine⟨fun h=>(nomatch h),a0a ⟨_,rfl,Nat.zero_lt_succ _⟩ (a0a ⟨_,rfl,Nat.lt_succ_self _⟩ (a0a ⟨a0r _,a0x _⟩ (a0d (a7I hL2) rfl ?_)))⟩
  rintro u2 H2 ⟨l2,rfl⟩
  obtain⟨m,e,ht⟩:=a5l (r.den:Int)
  rw[ht]
  simp only[cA,nA]
  refine⟨fun h=>(nomatch h),a0a ⟨_,rfl,Nat.zero_lt_succ _⟩ (a0a ⟨_,rfl,Nat.lt_succ_self _⟩ (a0a ⟨a0r _,a0x _⟩ ⟨fun vals H'=>vals=[.bool true]/\H'=H2,a0a ⟨_,rfl⟩ (a0K rfl ⟨rfl,rfl⟩),?_⟩))⟩
  rintro vals H3-⟨rfl,rfl⟩
  exact a0a ⟨_,rfl⟩ (a0K rfl (a0c (congrArg (fun z=>Value.tuple #[z,.int .i64 6]) a7J) ⟨l1.trans l2,rfl⟩))
theorem Rp.out {v:Value} (h:Rp H v r):∃w1 w2,v= .agg #[.bool (decide (r.num<0)),w1,.bool false,w2]/\Lw H (.agg #[.bool (decide (r.num<0)),w1]) r.num/\Lw H (.agg #[.bool false,w2]) (r.den:Int):=by
 obtain⟨w1,w2,rfl,n1,n2⟩:=h
 exact⟨w1,w2,rfl,⟨w1,rfl,n1⟩,Lw.den n2⟩
theorem d6J (r s:Rat):(r.den:Int)*s.den≠0:=Int.mul_ne_zero (by have:=r.den_nz;omega) (by have:=s.den_nz;omega)
theorem b2J {k:Nat} (h:r.den<2^k):((r.den:Nat):Int).natAbs<2^k:=by rw[c9W];exact h
theorem a5S (hx:Rp H x r) (hy:Rp H y s) (hr:Rb j r) (hs:Rb k s) (hjk:j+k+1<=320000):Con prog 42 [x,y] H fun u H'=>PH.le H H'/\Rp H' u (r+s):=by
 have r1:=hx.rq
 have r2:=hy.rq
 obtain⟨w1,w2,rfl,a1,a2⟩:=hx.out
 obtain⟨w3,w4,rfl,b1,b2⟩:=hy.out
 have m1:=a4R hr.1 (b2J hs.2)
 have m2:=a4R hs.1 (b2J hr.2)
 have m3:=a4R (b2J hr.2) (b2J hs.2)
 rw[Nat.add_comm k j]at m2
 have m4:=Lm.add2 m1 m2 (m:=j+k+1) (Nat.le_refl _) (Nat.le_refl _)
 refine a0b mixed b8M (by kernel_rfl) rfl (a0a r1 (a0a r2 (a0d (a1U a1 b2 (Lm.two hr.1 (by omega)) (Lm.two (b2J hs.2) (by omega))) rfl ?_)))
 rintro u1 H1 ⟨l1,hu1⟩
 simp only[cA,nA]
 refine⟨fun _=>l1,a0d (a1U (b1.mono l1) (a2.mono l1) (Lm.two hs.1 (by omega)) (Lm.two (b2J hr.2) (by omega))) rfl ?_⟩
 rintro u2 H2 ⟨l2,hu2⟩
 simp only[cA,nA]
 refine⟨fun _=>l2,a0d (a5n (hu1.mono l2) hu2 (Lm.two m1 (by omega)) (Lm.two m2 (by omega))) rfl ?_⟩
 rintro u3 H3 ⟨l3,hu3⟩
 simp only[cA,nA]
 refine⟨fun _=>l3,a0d (a1U (a2.mono (l1.trans (l2.trans l3))) (b2.mono (l1.trans (l2.trans l3))) (Lm.two (b2J hr.2) (by omega)) (Lm.two (b2J hs.2) (by omega))) rfl ?_⟩
 rintro u4 H4 ⟨l4,hu4⟩
 simp only[cA,nA]
 refine⟨fun _=>l4,a0d (a4S (hu3.mono l4) hu4 (Lm.two m4 hjk) (Lm.two m3 (by omega)) (d6J r s)) rfl ?_⟩
 rintro u5 H5 ⟨l5,hu5⟩
 rw[c9V]at hu5
 have r5:=hu5.rq
 obtain⟨w5,w6,rfl,n5⟩:=hu5
 exact⟨fun _=>l5,a0a r5 (a0c rfl ⟨l1.trans (l2.trans (l3.trans (l4.trans l5))),w5,w6,rfl,n5⟩)⟩
theorem a9a (hx:Rp H x r) (hy:Rp H y s) (hr:Rb j r) (hs:Rb k s) (hjk:j+k<=320000) (h0:s≠0):Con prog 37 [x,y] H fun u H'=>PH.le H H'/\Rp H' u (r/s):=by
 have r1:=hx.rq
 have r2:=hy.rq
 obtain⟨w1,w2,rfl,a1,a2⟩:=hx.out
 obtain⟨w3,w4,rfl,b1,b2⟩:=hy.out
 have m1:=a4R hr.1 (b2J hs.2)
 have m3:=a4R (b2J hr.2) hs.1
 refine a0b mixed b8N (by kernel_rfl) rfl (a0a r1 (a0a r2 (a0d (a1U a1 b2 (Lm.two hr.1 (by omega)) (Lm.two (b2J hs.2) (by omega))) rfl ?_)))
 rintro u1 H1 ⟨l1,hu1⟩
 simp only[cA,nA]
 refine⟨fun _=>l1,a0d (a1U (a2.mono l1) (b1.mono l1) (Lm.two (b2J hr.2) (by omega)) (Lm.two hs.1 (by omega))) rfl ?_⟩
 rintro u2 H2 ⟨l2,hu2⟩
 simp only[cA,nA]
 refine⟨fun _=>l2,a0d (a4S (hu1.mono l2) hu2 (Lm.two m1 hjk) (Lm.two m3 (by omega)) (Int.mul_ne_zero (by have:=r.den_nz;omega) (fun e=>h0 (Rat.num_eq_zero.1 e)))) rfl ?_⟩
 rintro u5 H5 ⟨l5,hu5⟩
 rw[b8Q]at hu5
 have r5:=hu5.rq
 obtain⟨w5,w6,rfl,n5⟩:=hu5
 exact⟨fun _=>l5,a0a r5 (a0c rfl ⟨l1.trans (l2.trans l5),w5,w6,rfl,n5⟩)⟩
theorem b1w (hx:Rp H x r) (hy:Rp H y s) (hr:Rb j r) (hs:Rb k s) (hjk:j+k<=320000):Con prog 41 [x,y] H fun u H'=>PH.le H H'/\u= .int .i64 (sgR r s):=by
 have r1:=hx.rq
 have r2:=hy.rq
 obtain⟨w1,w2,rfl,a1,a2⟩:=hx.out
 obtain⟨w3,w4,rfl,b1,b2⟩:=hy.out
 have m1:=a4R hr.1 (b2J hs.2)
 have m2:=a4R hs.1 (b2J hr.2)
 refine a0b mixed c4M (by kernel_rfl) rfl (a0a r1 (a0a r2 (a0d (a1U a1 b2 (Lm.two hr.1 (by omega)) (Lm.two (b2J hs.2) (by omega))) rfl ?_)))
 rintro u1 H1 ⟨l1,hu1⟩
 simp only[cA,nA]
 refine⟨fun _=>l1,a0d (a1U (b1.mono l1) (a2.mono l1) (Lm.two hs.1 (by omega)) (Lm.two (b2J hr.2) (by omega))) rfl ?_⟩
 rintro u2 H2 ⟨l2,hu2⟩
 simp only[cA,nA]
 refine⟨fun _=>l2,a0d (b4y (hu1.mono l2) hu2 (Lm.two m1 hjk) (Lm.two m2 (by omega))) rfl ?_⟩
 rintro u3 H3 ⟨l3,rfl⟩
 rw[d4p]
 exact⟨fun _=>l3,a0c rfl ⟨l1.trans (l2.trans l3),rfl⟩⟩
end
end Go.Proofs.YtlmgkkjgdapnpaaGreatDoor

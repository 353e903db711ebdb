/- Contracts: lengths, division by words. -/
import Derived.Test.YtmannekkmdockaaGreatDoorRfC
import Derived.Test.YtmannekkmdockaaGreatDoorWdM
import Derived.Test.YtmannekkmdockaaGreatDoorRxT
namespace Go.Proofs.YtmannekkmdockaaGreatDoor
open Go.Proofs.Tryz
open Go.RowKit Go.RX Go.WD Go.IntWalk
theorem d4Z (a:Nat):(a:Int).fdiv (2^min (Int.toNat 16) (IntKind.bits .u64))=((a/65536:Nat):Int):=a5y a 16 (by omega)
theorem d6b (a:Nat):(a:Int).fdiv (2^min (Int.toNat 8) (IntKind.bits .u64))=((a/256:Nat):Int):=a5y a 8 (by omega)
def len8:ByteArray:=⟨#[0,1,2,2,3,3,3,3,4,4,4,4,4,4,4,4,5,5,5,5,5,5,5,5,5,5,5,5,5,5,5,5,6,6,6,6,6,6,6,6,6,6,6,6,6,6,6,6,6,6,6,6,6,6,6,6,6,6,6,6,6,6,6,6,7,7,7,7,7,7,7,7,7,7,7,7,7,7,7,7,7,7,7,7,7,7,7,7,7,7,7,7,7,7,7,7,7,7,7,7,7,7,7,7,7,7,7,7,7,7,7,7,7,7,7,7,7,7,7,7,7,7,7,7,7,7,7,7,8,8,8,8,8,8,8,8,8,8,8,8,8,8,8,8,8,8,8,8,8,8,8,8,8,8,8,8,8,8,8,8,8,8,8,8,8,8,8,8,8,8,8,8,8,8,8,8,8,8,8,8,8,8,8,8,8,8,8,8,8,8,8,8,8,8,8,8,8,8,8,8,8,8,8,8,8,8,8,8,8,8,8,8,8,8,8,8,8,8,8,8,8,8,8,8,8,8,8,8,8,8,8,8,8,8,8,8,8,8,8,8,8,8,8,8,8,8,8,8,8,8,8,8,8,8,8,8]⟩
theorem b8R:len8.size=256:=by kernel_rfl
theorem c3B:(List.range 256).all (fun b=>(len8.data.getD b 0).toNat==blen b)=true:=by kernel_rfl
theorem c3C {b:Nat} (h:b<256):(len8.data.getD b 0).toNat=blen b:=by
 have:=List.all_eq_true.1 c3B b (List.mem_range.2 h)
 simpa using this
set_option maxRecDepth 100000 in
theorem a7s (x:Nat) (hx:x<18446744073709551616):Det prog 117 [.int .u64 x] (.int .i64 (blen x)):=by
 refine a0B mixed c3h (by kernel_rfl) rfl (a0n ⟨_,rfl⟩ ⟨fun l=>∃y n,l=[.int .u64 (y:Nat),.int .i64 (n:Nat)]/\y<4294967296/\n<=32/\n+blen y=blen x,?_,?_⟩)
 ·refine a1S (b:=decide ((x:Int)≥4294967296)) rfl (fun h=> ?_) (fun h=> ?_)
  ·have h:=of_decide_eq_true h
   exact⟨x/4294967296,32,by simp only[rxs,c3p];rfl,by omega,by omega,(a4b (k:=32) (by omega)).symm⟩
  ·have h:=of_decide_eq_false h
   exact⟨x,0,rfl,by omega,by omega,by omega⟩
 rintro vals-⟨y,n,rfl,hy,hn,hb⟩
 refine a0n ⟨_,rfl⟩ ⟨fun l=>∃y n,l=[.int .u64 (y:Nat),.int .i64 (n:Nat)]/\y<65536/\n<=48/\n+blen y=blen x,?_,?_⟩
 ·refine a1S (b:=decide ((y:Int)≥65536)) rfl (fun h=> ?_) (fun h=> ?_)
  ·have h:=of_decide_eq_true h
   have e:=a4b (x:=y) (k:=16) (by omega)
   refine a0n ⟨_,rfl⟩ ⟨y/65536,n+16,?_,by omega,by omega,?_⟩
   ·have e3:IntKind.i64.wrap ((n:Int)+16)=((n+16:Nat):Int):=b4B (n+16) (by omega)
    simp only[rxs,d4Z,e3]
   ·rw[show(2:Nat)^16=65536 from rfl]at e
    omega
  ·have h:=of_decide_eq_false h
   exact⟨y,n,rfl,by omega,by omega,hb⟩
 rintro vals-⟨y,n,rfl,hy,hn,hb⟩
 refine a0n ⟨_,rfl⟩ ⟨fun l=>∃y n,l=[.int .u64 (y:Nat),.int .i64 (n:Nat)]/\y<256/\n<=56/\n+blen y=blen x,?_,?_⟩
 ·refine a1S (b:=decide ((y:Int)≥256)) rfl (fun h=> ?_) (fun h=> ?_)
  ·have h:=of_decide_eq_true h
   have e:=a4b (x:=y) (k:=8) (by omega)
   refine a0n ⟨_,rfl⟩ ⟨y/256,n+8,?_,by omega,by omega,?_⟩
   ·have e3:IntKind.i64.wrap ((n:Int)+8)=((n+8:Nat):Int):=b4B (n+8) (by omega)
    simp only[rxs,d6b,e3]
   ·rw[show(2:Nat)^8=256 from rfl]at e
    omega
  ·have h:=of_decide_eq_false h
   exact⟨y,n,rfl,by omega,by omega,hb⟩
 rintro vals-⟨y,n,rfl,hy,hn,hb⟩
 have hu8:IntKind.u8.wrap (y:Int)=(y:Int):=by rw[IntKind.wrap_u8];omega
 have hyl:blen y<=8:=blen_le hy
 refine a0n ⟨_,rfl⟩ (b8r (b1t (s:=len8) (k:= .u8) (m:=y) (vs:=[.string len8,.int .u8 y]) rfl rfl rfl (by kernel_rfl) (by rw[b8R];exact hy)) ?_ ?_)
 ·simp only[rxs,hu8];rfl
 ·rw[c3C hy]
  refine a0n ⟨_,rfl⟩ (a0n ⟨_,rfl⟩ (a1b ?_ rfl))
  simp only[rxs,a4u]
  rw[b4B (blen y) (by omega),d5L,b4B (n+blen y) (by omega),hb]
theorem b4D (x:Nat) (hx:x<18446744073709551616):Det prog 264 [.int .u64 x] (.int .i64 ((64-blen x:Nat):Int)):=by
 have hl:blen x<=64:=blen_le hx
 refine a0B mixed c7I (by kernel_rfl) rfl (a1Y (a7s x hx) rfl (a0n ⟨_,rfl⟩ (a1b ?_ rfl)))
 simp only[rxs,a4u]
 rw[show(64:Int)-(blen x:Int)=((64-blen x:Nat):Int)from by omega,b4B _ (by omega)]
end Go.Proofs.YtmannekkmdockaaGreatDoor
/- Contracts: bits.Div64. -/
namespace Go.Proofs.YtmannekkmdockaaGreatDoor
open Go.Proofs.Tryz
open Go.RowKit Go.RX Go.WD Go.IntWalk
theorem d2o (a s:Nat) (h:s<=64):IntKind.u64.wrap ((a:Int)*2^min s (IntKind.bits .u64))=((a*2^s%18446744073709551616:Nat):Int):=by
 rw[show min s (IntKind.bits .u64)=s from Nat.min_eq_left h,show(2:Int)^s=((2^s:Nat):Int)from by simp,c6g,d2j]
theorem b4E (a b:Nat) (h:b<=a) (ha:a<18446744073709551616):IntKind.u64.wrap ((a:Int)-(b:Int))=((a-b:Nat):Int):=by
 rw[show(a:Int)-(b:Int)=((a-b:Nat):Int)from by omega,a1J _ (by omega)]
theorem d5a (a b:Nat) (ha:a<18446744073709551616):IntKind.u64.wrap ((a:Int).tdiv (b:Int))=((a/b:Nat):Int):=by
 rw[<-Int.ofNat_tdiv,a1J]
 exact Nat.lt_of_le_of_lt (Nat.div_le_self _ _) ha
def qt (u n y1 y0:Nat):Nat:=(u*4294967296+n)/(y1*4294967296+y0)
section
variable {y1 y0 u n q r:Nat}
theorem a6u (hy:y1<4294967296) (h0:y0<4294967296) (hp:0<y1) (hu:u=q*y1+r) (hQ:qt u n y1 y0<q) (hq:q<=4294967297):u=(q-1)*y1+(r+y1)/\qt u n y1 y0<=q-1/\(4294967296<=r+y1->q-1=qt u n y1 y0):=by
 obtain⟨p,rfl⟩:∃p,q=p+1:=⟨q-1,by omega⟩
 have e:u=p*y1+(r+y1):=by rw[hu,Nat.add_mul,Nat.one_mul];omega
 refine⟨e,by omega,fun hb=> ?_⟩
 have h1:p<=qt u n y1 y0:=a9U (n:=n) (y0:=y0) e hp (by
  have:p*y0<=4294967296*4294967295:=Nat.mul_le_mul (by omega) (by omega)
  omega)
 show p=_
 omega
end
theorem b1I {q r y0 n:Nat} (hq:q<4294967296) (hr:r<4294967296) (h0:y0<4294967296) (hn:n<4294967296):q*y0<18446744073709551616/\4294967296*r<18446744073709551616/\4294967296*r+n<18446744073709551616:=by
 have:=Nat.mul_le_mul (show q<=4294967295 by omega) (show y0<=4294967295 by omega)
 omega
theorem b4F {u n q y:Nat} (hle:q*y<=u*4294967296+n) (hlt:u*4294967296+n-q*y<18446744073709551616):IntKind.u64.wrap (IntKind.u64.wrap (IntKind.u64.wrap (((u*4294967296:Nat):Int))+(n:Int))-IntKind.u64.wrap ((q*y:Nat):Int))=((u*4294967296+n-q*y:Nat):Int):=by
 simp only[IntKind.wrap_u64]
 omega
theorem c6i {a c:Nat} (ha:a<4294967296) (hc:c<4294967296):a*4294967296<18446744073709551616/\a*4294967296+c<18446744073709551616:=by omega
theorem d5b (u n1 n0:Nat):u*18446744073709551616+(n1*4294967296+n0)=(u*4294967296+n1)*4294967296+n0:=by omega
theorem b32:(4294967296:Int)=((4294967296:Nat):Int):=rfl
theorem one1:(1:Int)=((1:Nat):Int):=rfl
set_option maxRecDepth 100000 in
set_option maxHeartbeats 4000000 in
theorem b8S (hi lo y:Nat) (hhi:hi<y) (hlo:lo<18446744073709551616) (hy:y<18446744073709551616):Det prog 237 [.int .u64 hi,.int .u64 lo,.int .u64 y] (.tuple #[.int .u64 (((hi*18446744073709551616+lo)/y:Nat):Int),.int .u64 (((hi*18446744073709551616+lo)%y:Nat):Int)]):=by
 refine a0B mixed c3g (by kernel_rfl) rfl (a0n ⟨_,rfl⟩ (a0n ?_ (a0n ⟨_,rfl⟩ (a0n ?_ ?_))))
 ·show Value.bool ((y:Int)==0)= .bool false
  congr 1;simp;omega
 ·show Value.bool (decide ((y:Int)<=(hi:Int)))= .bool false
  congr 1;simp;omega
 refine a1S (b:=decide (hi=0)) ?_ (fun h=> ?_) (fun h=> ?_)
 ·show Value.bool ((hi:Int)==0)=_
  congr 1;rw[Bool.eq_iff_iff];simp
 ·have h:=of_decide_eq_true h
  subst h
  refine a0n ⟨_,rfl⟩ (a0n ?_ (a1b ?_ rfl))
  ·show(y:Int)≠0;omega
  ·simp only[rxs,a4u,d5a lo y hlo,Nat.zero_mul,Nat.zero_add,<-Int.ofNat_tmod]
 have h:=of_decide_eq_false h
 obtain⟨l0,l1⟩:=a4S (x:=y) (by omega)
 have l2:=a7q y
 have l3:blen y<=64:=blen_le hy
 obtain⟨s,hs⟩:∃s,s=64-blen y:=⟨_,rfl⟩
 have hs64:s<=63:=by omega
 have hps:0<2^s:=Nat.pow_pos (by omega)
 have hlz:=b4D y hy
 rw[<-hs]at hlz
 have hY1:y*2^s<18446744073709551616:=by
  have:=Nat.mul_lt_mul_of_lt_of_le l2 (Nat.le_refl (2^s)) hps
  rwa[<-Nat.pow_add,show blen y+s=64 from by omega]at this
 have hY0:9223372036854775808<=y*2^s:=by
  have:=Nat.mul_le_mul_right (2^s) l1
  rwa[<-Nat.pow_add,show blen y-1+s=63 from by omega]at this
 have hH:hi*2^s+2^s<=y*2^s:=by
  have:=Nat.mul_le_mul_right (2^s) hhi
  rwa[Nat.succ_mul]at this
 have hL:=c6f hlo (r:=s) (by omega)
 have hU:(hi*18446744073709551616+lo)*2^s=(hi*2^s+lo/2^(64-s))*18446744073709551616+lo*2^s%18446744073709551616:=by
  have e1:lo*2^s/18446744073709551616=lo/2^(64-s):=by
   rw[a2e (r:=s) (by omega),Nat.mul_div_mul_right _ _ hps]
  have e2:=Nat.div_add_mod (lo*2^s) 18446744073709551616
  rw[e1]at e2
  rw[Nat.add_mul,Nat.add_mul,Nat.mul_right_comm]
  omega
 have hn10:=Nat.mod_lt (lo*2^s) (show 0<18446744073709551616 by omega)
 have hor:(hi*2^s%18446744073709551616)|||(lo/2^(64-s))=hi*2^s+lo/2^(64-s):=by
  rw[Nat.mod_eq_of_lt (by omega),c6e hL]
 generalize hYd:y*2^s=Y at hY1 hY0 hH
 generalize hUd:hi*2^s+lo/2^(64-s)=u at hU hor
 have huY:u<Y:=by omega
 generalize hnd:lo*2^s%18446744073709551616=n at hU hn10
 have hYs:Y/4294967296*4294967296+Y%4294967296=Y:=by omega
 have hy1a:2147483648<=Y/4294967296:=by omega
 have hy1b:Y/4294967296<4294967296:=by omega
 have hy0:Y%4294967296<4294967296:=Nat.mod_lt _ (by omega)
 generalize hy1d:Y/4294967296=y1 at hYs hy1a hy1b
 generalize hy0d:Y%4294967296=y0 at hYs hy0
 have hn1:n/4294967296<4294967296:=by omega
 have hn0:n%4294967296<4294967296:=Nat.mod_lt _ (by omega)
 generalize hn1d:n/4294967296=n1 at hn1
 generalize hn0d:n%4294967296=n0 at hn0
 have hnn:n=n1*4294967296+n0:=by omega
 have hcv:IntKind.u64.wrap (s:Int)=(s:Int):=a1J s (by omega)
 have h64:IntKind.u64.wrap ((64:Int)-(s:Int))=((64-s:Nat):Int):=by
  rw[show(64:Int)-(s:Int)=((64-s:Nat):Int)from by omega,a1J _ (by omega)]
 have hquo:=d5a u y1 (by omega)
 refine a1Y hlz rfl (a0n ⟨_,rfl⟩ (a0n ?_ (a0n ⟨_,rfl⟩ (a0n ?_ (a0n ?_ ?_)))))
 ·show(0:Int)<=IntKind.u64.wrap (s:Int);rw[hcv];omega
 ·show(0:Int)<=IntKind.u64.wrap (64-IntKind.u64.wrap (s:Int));rw[hcv,h64];omega
 ·simp only[Rq.holds,rxs,hcv,d2o y s (by omega),hYd,Nat.mod_eq_of_lt hY1,c3p,hy1d]
  omega
 have hmod:∀a,a-a/y1*y1=a%y1:=fun a=>by have:=Nat.div_add_mod' a y1;omega
 have hdm:∀a,a/y1*y1<=a:=fun a=>Nat.div_mul_le_self a y1
 refine⟨fun l=>l=[.int .u64 (Y:Nat),.int .u64 (s:Nat),.int .u64 (y1:Nat),.int .u64 (y0:Nat),.int .u64 (u:Nat),.int .u64 (n1:Nat),.int .u64 (n0:Nat),.int .u64 ((u/y1:Nat):Int),.int .u64 ((u%y1:Nat):Int)],?_,?_⟩
 ·have horU:=b4z (hi*2^s%18446744073709551616) (lo/2^(64-s)) (Nat.mod_lt _ (by omega)) (Nat.lt_of_lt_of_le hL (by rw[a9T];exact Nat.pow_le_pow_right (by omega) (by omega)))
  rw[hor]at horU
  have hm:=a1J (u/y1*y1) (by have:=hdm u;omega)
  have hsb:=b4E u (u/y1*y1) (hdm u) (by omega)
  rw[hmod]at hsb
  simp only[pd,List.nil_append,List.getD_cons_zero,rxs,hcv,h64,d2o y s (by omega),d2o hi s (by omega),d2o lo s (by omega),hYd,Nat.mod_eq_of_lt hY1,c3p,hy1d,b1B Y hY1,hy0d,a5y lo (64-s) (by omega),horU,hnd,b1B n hn10,hn1d,hn0d,hquo,c6g,hm,hsb]
 rintro vals-rfl
 simp only[cA,nA]
 refine⟨fun l=>l=[.int .u64 (qt u n1 y1 y0:Nat)],?_,?_⟩
 ·refine⟨fun l=>∃q r,l=[.int .u64 (q:Nat),.int .u64 (r:Nat)]/\u=q*y1+r/\qt u n1 y1 y0<=q/\q<=4294967297/\r<4294967296,fun l=>(intOf (l.getD 0 undef)).toNat,⟨u/y1,u%y1,rfl,(Nat.div_add_mod' _ _).symm,b4A hn1 (by omega),c6d hy1a (by omega) hy0,Nat.lt_of_lt_of_le (Nat.mod_lt _ (by omega)) (Nat.le_of_lt hy1b)⟩,?_⟩
  rintro vals-⟨q,r,rfl,hu,hQ,hq,hr⟩
  simp only[cA,nA]
  have hQb:qt u n1 y1 y0<4294967296:=c3o hn1 (by omega)
  refine a0n ⟨_,rfl⟩ (a1S (b:=decide (4294967296<=q)) ?_ (fun h=> ?_) (fun h=> ?_))
  ·simp only[rxs]
   congr 1
   rw[Bool.eq_iff_iff,decide_eq_true_iff,decide_eq_true_iff];omega
  ·have h:=of_decide_eq_true h
   have hlt:qt u n1 y1 y0<q:=by omega
   obtain⟨d1,d2,d3⟩:=a6u (n:=n1) hy1b hy0 (by omega) hu hlt hq
   refine a0n ⟨_,rfl⟩ (a0n ⟨_,rfl⟩ (a1S (b:=decide (4294967296<=r+y1)) ?_ (fun h2=> ?_) (fun h2=> ?_)))
   ·simp only[rxs,b7C,a1J (r+y1) (by omega)]
    congr 1
    rw[Bool.eq_iff_iff,decide_eq_true_iff,decide_eq_true_iff];omega
   ·have h2:=of_decide_eq_true h2
    show[Value.int .u64 (IntKind.u64.wrap ((q:Int)-1))]=_
    rw[one1,b4E q 1 (by omega) (by omega),d3 h2]
   ·have h2:=of_decide_eq_false h2
    refine⟨⟨q-1,r+y1,?_,d1,d2,by omega,by omega⟩,?_⟩
    ·show[Value.int .u64 (IntKind.u64.wrap ((q:Int)-1)),Value.int .u64 (IntKind.u64.wrap ((r:Int)+(y1:Int)))]=_
     rw[one1,b4E q 1 (by omega) (by omega),b7C,a1J (r+y1) (by omega)]
    ·show(intOf (Value.int .u64 (IntKind.u64.wrap ((q:Int)-1)))).toNat<(intOf (Value.int .u64 (q:Nat))).toNat
     rw[one1,b4E q 1 (by omega) (by omega)]
     simp only[intOf]
     omega
  ·have h:=of_decide_eq_false h
   obtain⟨w1,w2,w3⟩:=b1I (q:=q) (r:=r) (y0:=y0) (n:=n1) (by omega) hr hy0 hn1
   refine a0n ⟨_,rfl⟩ (a0n ⟨_,rfl⟩ (a0n ⟨_,rfl⟩ (a1S (b:=decide (4294967296*r+n1<q*y0)) ?_ (fun h1=> ?_) (fun h1=> ?_))))
   ·simp only[rxs,b32,c6g,b7C,a1J _ w1,a1J _ w2,a1J _ w3]
    congr 1
    rw[Bool.eq_iff_iff,decide_eq_true_iff,decide_eq_true_iff];omega
   ·have h1:=of_decide_eq_true h1
    have hlt:qt u n1 y1 y0<q:=b8K hu h1
    obtain⟨d1,d2,d3⟩:=a6u (n:=n1) hy1b hy0 (by omega) hu hlt hq
    refine a0n ⟨_,rfl⟩ (a1S (b:=decide (4294967296<=r+y1)) ?_ (fun h2=> ?_) (fun h2=> ?_))
    ·simp only[rxs,b7C,a1J (r+y1) (by omega)]
     congr 1
     rw[Bool.eq_iff_iff,decide_eq_true_iff,decide_eq_true_iff];omega
    ·have h2:=of_decide_eq_true h2
     show[Value.int .u64 (IntKind.u64.wrap ((q:Int)-1))]=_
     rw[one1,b4E q 1 (by omega) (by omega),d3 h2]
    ·have h2:=of_decide_eq_false h2
     refine⟨⟨q-1,r+y1,?_,d1,d2,by omega,by omega⟩,?_⟩
     ·show[Value.int .u64 (IntKind.u64.wrap ((q:Int)-1)),Value.int .u64 (IntKind.u64.wrap ((r:Int)+(y1:Int)))]=_
      rw[one1,b4E q 1 (by omega) (by omega),b7C,a1J (r+y1) (by omega)]
     ·show(intOf (Value.int .u64 (IntKind.u64.wrap ((q:Int)-1)))).toNat<(intOf (Value.int .u64 (q:Nat))).toNat
      rw[one1,b4E q 1 (by omega) (by omega)]
      simp only[intOf]
      omega
   ·have h1:=of_decide_eq_false h1
    have hle:=a9U (n:=n1) (y0:=y0) hu (by omega) (by omega)
    show[Value.int .u64 (q:Nat)]=_
    rw[show q=qt u n1 y1 y0 from Nat.le_antisymm hle hQ]
 rintro vals-rfl
 simp only[cA,nA]
 have hq1:=c3o (y1:=y1) (y0:=y0) hn1 (show u<y1*4294967296+y0 by omega)
 obtain⟨q1,hq1d⟩:∃q1,q1=qt u n1 y1 y0:=⟨_,rfl⟩
 obtain⟨r1,hr1d⟩:∃r1,r1=(u*4294967296+n1)%Y:=⟨_,rfl⟩
 have hX:u*4294967296+n1=q1*Y+r1:=by
  rw[hq1d,hr1d];unfold qt;rw[hYs];exact(Nat.div_add_mod' _ _).symm
 have hr1:r1<Y:=by rw[hr1d];exact Nat.mod_lt _ (by omega)
 have hsw1:=b4F (u:=u) (n:=n1) (q:=q1) (y:=Y) (by omega) (by omega)
 rw[show u*4294967296+n1-q1*Y=r1 from by omega]at hsw1
 rw[<-hq1d]
 have hquo1:=d5a r1 y1 (by omega)
 refine a0n ⟨_,rfl⟩ (a0n ⟨_,rfl⟩ (a0n ⟨_,rfl⟩ (a0n ⟨_,rfl⟩ (a0n ⟨_,rfl⟩ (a0n ?_ ⟨fun l=>l=[.int .u64 (r1:Nat),.int .u64 ((r1/y1:Nat):Int),.int .u64 ((r1%y1:Nat):Int)],?_,?_⟩)))))
 ·show(y1:Int)≠0;omega
 ·have hm:=a1J (r1/y1*y1) (by have:=hdm r1;omega)
  have hsb:=b4E r1 (r1/y1*y1) (hdm r1) (by omega)
  rw[hmod]at hsb
  simp only[pd,List.nil_append,List.getD_cons_zero,rxs,b32,c6g,hsw1,hquo1,hm,hsb]
 rintro vals-rfl
 simp only[cA,nA]
 refine⟨fun l=>l=[.int .u64 (qt r1 n0 y1 y0:Nat)],?_,?_⟩
 ·refine⟨fun l=>∃q r,l=[.int .u64 (q:Nat),.int .u64 (r:Nat)]/\r1=q*y1+r/\qt r1 n0 y1 y0<=q/\q<=4294967297/\r<4294967296,fun l=>(intOf (l.getD 0 undef)).toNat,⟨r1/y1,r1%y1,rfl,(Nat.div_add_mod' _ _).symm,b4A hn0 (by omega),c6d hy1a (by omega) hy0,Nat.lt_of_lt_of_le (Nat.mod_lt _ (by omega)) (Nat.le_of_lt hy1b)⟩,?_⟩
  rintro vals-⟨q,r,rfl,hu,hQ,hq,hr⟩
  simp only[cA,nA]
  have hQb:qt r1 n0 y1 y0<4294967296:=c3o hn0 (by omega)
  refine a0n ⟨_,rfl⟩ (a1S (b:=decide (4294967296<=q)) ?_ (fun h=> ?_) (fun h=> ?_))
  ·simp only[rxs]
   congr 1
   rw[Bool.eq_iff_iff,decide_eq_true_iff,decide_eq_true_iff];omega
  ·have h:=of_decide_eq_true h
   have hlt:qt r1 n0 y1 y0<q:=by omega
   obtain⟨d1,d2,d3⟩:=a6u (n:=n0) hy1b hy0 (by omega) hu hlt hq
   refine a0n ⟨_,rfl⟩ (a1S (b:=decide (4294967296<=r+y1)) ?_ (fun h2=> ?_) (fun h2=> ?_))
   ·simp only[rxs,b7C,a1J (r+y1) (by omega)]
    congr 1
    rw[Bool.eq_iff_iff,decide_eq_true_iff,decide_eq_true_iff];omega
   ·have h2:=of_decide_eq_true h2
    show[Value.int .u64 (IntKind.u64.wrap ((q:Int)-1))]=_
    rw[one1,b4E q 1 (by omega) (by omega),d3 h2]
   ·have h2:=of_decide_eq_false h2
    refine⟨⟨q-1,r+y1,?_,d1,d2,by omega,by omega⟩,?_⟩
    ·show[Value.int .u64 (IntKind.u64.wrap ((q:Int)-1)),Value.int .u64 (IntKind.u64.wrap ((r:Int)+(y1:Int)))]=_
     rw[one1,b4E q 1 (by omega) (by omega),b7C,a1J (r+y1) (by omega)]
    ·show(intOf (Value.int .u64 (IntKind.u64.wrap ((q:Int)-1)))).toNat<(intOf (Value.int .u64 (q:Nat))).toNat
     rw[one1,b4E q 1 (by omega) (by omega)]
     simp only[intOf]
     omega
  ·have h:=of_decide_eq_false h
   obtain⟨w1,w2,w3⟩:=b1I (q:=q) (r:=r) (y0:=y0) (n:=n0) (by omega) hr hy0 hn0
   refine a0n ⟨_,rfl⟩ (a0n ⟨_,rfl⟩ (a0n ⟨_,rfl⟩ (a1S (b:=decide (4294967296*r+n0<q*y0)) ?_ (fun h1=> ?_) (fun h1=> ?_))))
   ·simp only[rxs,b32,c6g,b7C,a1J _ w1,a1J _ w2,a1J _ w3]
    congr 1
    rw[Bool.eq_iff_iff,decide_eq_true_iff,decide_eq_true_iff];omega
   ·have h1:=of_decide_eq_true h1
    have hlt:qt r1 n0 y1 y0<q:=b8K hu h1
    obtain⟨d1,d2,d3⟩:=a6u (n:=n0) hy1b hy0 (by omega) hu hlt hq
    refine a1S (b:=decide (4294967296<=r+y1)) ?_ (fun h2=> ?_) (fun h2=> ?_)
    ·simp only[rxs,b7C,a1J (r+y1) (by omega)]
     congr 1
     rw[Bool.eq_iff_iff,decide_eq_true_iff,decide_eq_true_iff];omega
    ·have h2:=of_decide_eq_true h2
     show[Value.int .u64 (IntKind.u64.wrap ((q:Int)-1))]=_
     rw[one1,b4E q 1 (by omega) (by omega),d3 h2]
    ·have h2:=of_decide_eq_false h2
     refine⟨⟨q-1,r+y1,?_,d1,d2,by omega,by omega⟩,?_⟩
     ·show[Value.int .u64 (IntKind.u64.wrap ((q:Int)-1)),Value.int .u64 (IntKind.u64.wrap ((r:Int)+(y1:Int)))]=_
      rw[one1,b4E q 1 (by omega) (by omega),b7C,a1J (r+y1) (by omega)]
     ·show(intOf (Value.int .u64 (IntKind.u64.wrap ((q:Int)-1)))).toNat<(intOf (Value.int .u64 (q:Nat))).toNat
      rw[one1,b4E q 1 (by omega) (by omega)]
      simp only[intOf]
      omega
   ·have h1:=of_decide_eq_false h1
    have hle:=a9U (n:=n0) (y0:=y0) hu (by omega) (by omega)
    show[Value.int .u64 (q:Nat)]=_
    rw[show q=qt r1 n0 y1 y0 from Nat.le_antisymm hle hQ]
 rintro vals-rfl
 simp only[cA,nA]
 have hq0:=c3o (y1:=y1) (y0:=y0) hn0 (show r1<y1*4294967296+y0 by omega)
 obtain⟨q0,hq0d⟩:∃q0,q0=qt r1 n0 y1 y0:=⟨_,rfl⟩
 obtain⟨r0,hr0d⟩:∃r0,r0=(r1*4294967296+n0)%Y:=⟨_,rfl⟩
 have hX0:r1*4294967296+n0=q0*Y+r0:=by
  rw[hq0d,hr0d];unfold qt;rw[hYs];exact(Nat.div_add_mod' _ _).symm
 have hr0:r0<Y:=by rw[hr0d];exact Nat.mod_lt _ (by omega)
 have hsw0:=b4F (u:=r1) (n:=n0) (q:=q0) (y:=Y) (by omega) (by omega)
 rw[show r1*4294967296+n0-q0*Y=r0 from by omega]at hsw0
 obtain⟨f1,f2⟩:=b8L (U:=(hi*18446744073709551616+lo)*2^s) hX (by rw[hU,hnn];exact d5b u n1 n0) hX0 hr0
 rw[<-hYd,Nat.mul_div_mul_right _ _ hps]at f1
 rw[<-hYd,Nat.mul_mod_mul_right]at f2
 have f3:r0/2^s=(hi*18446744073709551616+lo)%y:=by rw[<-f2,Nat.mul_div_cancel _ hps]
 rw[<-hq0d]
 have hs65:s<=64:=Nat.le_succ_of_le hs64
 have hq1b:q1<4294967296:=by rw[hq1d];exact hq1
 have hq0b:q0<4294967296:=by rw[hq0d];exact hq0
 refine a0n ⟨_,rfl⟩ (a0n ⟨_,rfl⟩ (a0n ⟨_,rfl⟩ (a0n ⟨_,_,rfl⟩ (a0n ?_ (a1b ?_ rfl)))))
 ·show(0:Int)<=(s:Int);omega
 ·simp only[rxs,a4u,b32,c6g,hsw0,b7C,a1J (q1*4294967296) (c6i hq1b hq0b).1,a1J (q1*4294967296+q0) (c6i hq1b hq0b).2,a5y r0 s hs65,f1,f3]
end Go.Proofs.YtmannekkmdockaaGreatDoor
/- Contracts: short, shifted, Over, Common. -/
namespace Go.Proofs.YtmannekkmdockaaGreatDoor
open Go.Proofs.Tryz
open Go.RowKit Go.RX Go.WD Go.IntWalk
theorem d5N (k:Nat) (hk:k<=9223372036854775807):IntKind.i64.wrap ((k:Int).tdiv 64)=((k/64:Nat):Int):=by
 rw[show(64:Int)=((64:Nat):Int)from rfl,<-Int.ofNat_tdiv,b4B _ (by omega)]
theorem d5O (k:Nat):(k:Int).tmod 64=((k%64:Nat):Int):=by
 rw[show(64:Int)=((64:Nat):Int)from rfl,<-Int.ofNat_tmod]
theorem c7V (r:Nat) (h:r<64):IntKind.u64.wrap ((1:Int)*2^min r (IntKind.bits .u64))=((2^r:Nat):Int):=by
 have:=d2o 1 r (by omega)
 rw[Nat.one_mul,Nat.mod_eq_of_lt (by rw[a9T];exact Nat.pow_lt_pow_right (by omega) h)]at this
 exact this
theorem b8T {A k:Nat} (h:A<PW k):blen A<=64*k:=blen_le (by rw[b1C]at h;exact h)
end Go.Proofs.YtmannekkmdockaaGreatDoor
/- Contracts: Root, Div, Gcd, Pow. -/
namespace Go.Proofs.YtmannekkmdockaaGreatDoor
open Go.Proofs.Tryz
open Go.RowKit Go.RX Go.WD Go.IntWalk
theorem b6Q {x y q r:Int} (hy:y≠0) (he:x=q*y+r) (h0:0<=r) (h1:r<y.natAbs):x/y=q/\x%y=r:=by
 rcases Int.lt_or_lt_of_ne hy with h|h
 ·have:=(Int.ediv_emod_unique (a:=x) (b:= -y) (q:= -q) (r:=r) (by omega)).2 ⟨by rw[he,Int.neg_mul_neg,Int.mul_comm];omega,h0,by omega⟩
  rw[Int.ediv_neg,Int.emod_neg]at this
  exact⟨by omega,this.2⟩
 ·exact(Int.ediv_emod_unique (a:=x) (b:=y) (q:=q) (r:=r) h).2 ⟨by rw[he,Int.mul_comm];omega,h0,by omega⟩
theorem b1J {z:Int} (h: -(HM:Int)<=z/\z<HM):told z= .tuple #[iw z,.int .i64 0]:=by unfold told;rw[if_pos h]
theorem a9W {z:Int} (h:¬(-(HM:Int)<=z/\z<HM)):told z= .tuple #[wd 0,.int .i64 6]:=by unfold told;rw[if_neg h]
theorem mnn (a b:Nat):(-(a:Int))*(-(b:Int))=((a*b:Nat):Int):=by rw[Int.neg_mul_neg,Int.natCast_mul]
theorem mnp (a b:Nat):(-(a:Int))*(b:Int)= -((a*b:Nat):Int):=by rw[Int.neg_mul,Int.natCast_mul]
theorem mpn (a b:Nat):(a:Int)*(-(b:Int))= -((a*b:Nat):Int):=by rw[Int.mul_neg,Int.natCast_mul]
theorem b8U (x y:Int) (Q R:Nat) (hy0:y≠0) (hRlt:R<y.natAbs) (hQR:x.natAbs=Q*y.natAbs+R):
  x/y=(if(decide (x<0) !=decide (y<0))then -((if(decide (x<0)&& !decide (R=0))then Q+1 else Q:Nat):Int)else((if(decide (x<0)&& !decide (R=0))then Q+1 else Q:Nat):Int))/\
  x%y=((if(decide (x<0)&& !decide (R=0))then y.natAbs-R else R:Nat):Int):=by
 obtain⟨Y,hY⟩:=Int.eq_nat_or_neg y
 have hYn:y.natAbs=Y:=by rcases hY with h|h<;>rw[h]<;>simp
 rw[hYn]at hQR hRlt⊢
 have hs:(Q+1)*Y=Q*Y+Y:=by rw[Nat.add_mul,Nat.one_mul]
 refine b6Q hy0 ?_ ?_ ?_
 ·by_cases hx:x<0
  ·by_cases hR:R=0
   ·rcases hY with hY|hY
    ·have:¬y<0:=by omega
     simp only[hx,this,hR,decide_true,decide_false,Bool.not_true,Bool.and_false,Bool.false_eq_true,if_false,if_true,bne_self_eq_false,Bool.true_bne,Bool.not_false]
     rw[hY,mnp];omega
    ·have:y<0:=by omega
     simp only[hx,this,hR,decide_true,Bool.not_true,Bool.and_false,Bool.false_eq_true,if_false,bne_self_eq_false]
     rw[hY,mpn];omega
   ·rcases hY with hY|hY
    ·have:¬y<0:=by omega
     simp only[hx,this,hR,decide_true,decide_false,Bool.not_false,Bool.and_true,if_true,Bool.true_bne]
     rw[hY,mnp,hs];omega
    ·have:y<0:=by omega
     simp only[hx,this,hR,decide_true,decide_false,Bool.not_false,Bool.and_true,if_true,bne_self_eq_false,Bool.false_eq_true,if_false]
     rw[hY,mpn,hs];omega
  ·rcases hY with hY|hY
   ·have:¬y<0:=by omega
    simp only[hx,this,decide_false,Bool.false_and,Bool.false_eq_true,if_false,bne_self_eq_false]
    rw[hY,c6g];omega
   ·have:y<0:=by omega
    simp only[hx,this,decide_true,decide_false,Bool.false_and,Bool.false_eq_true,if_false,Bool.bne_true,Bool.not_false,if_true]
    rw[hY,mnn];omega
 ·exact Int.natCast_nonneg _
 ·split
  ·rename_i h
   simp at h
   omega
  ·omega
end Go.Proofs.YtmannekkmdockaaGreatDoor
/- The reference of chapter 01: numbers with a sign. -/
namespace Go.Proofs.YtmannekkmdockaaGreatDoor
open Go.Proofs.Tryz
open Go.RowKit Go.RX Go.WD
def Lm (z:Int):Prop:=z.natAbs<BP 10000
theorem d2p (z:Int):sn (!decide (z<0)) z.natAbs= -z:=by
 unfold sn;by_cases h:z<0<;>simp[h]<;>omega
theorem c7W (z:Int):sn (decide (z<0)) z.natAbs=z:=by
 unfold sn;by_cases h:z<0<;>simp[h]<;>omega
section
variable {H:PH} {v x y:Value} {z p q:Int}
theorem c3D (h:(decide (p<0)==decide (q<0))=true):sn (decide (p<0)) (p.natAbs+q.natAbs)=p+q:=by
 unfold sn
 by_cases h1:p<0<;>by_cases h2:q<0<;>simp[h1,h2]at h⊢<;>omega
theorem b4G (h:(decide (p<0)==decide (q<0))=false) (hl:q.natAbs<=p.natAbs):sn (decide (p<0)) (p.natAbs-q.natAbs)=p+q:=by
 unfold sn
 by_cases h1:p<0<;>by_cases h2:q<0<;>simp[h1,h2]at h⊢<;>omega
theorem d2q:sn (true !=(decide (p<0)==decide (q<0))) (p.natAbs*q.natAbs)=p*q:=by
 obtain⟨a,ha⟩:=Int.eq_nat_or_neg p
 obtain⟨b,hb⟩:=Int.eq_nat_or_neg q
 have hab:(((a*b:Nat):Int))=(a:Int)*b:=Int.natCast_mul a b
 have hz:a=0\/b=0->(a:Int)*b=0:=by rintro(h|h)<;>rw[h]<;>simp
 unfold sn
 rcases ha with ha|ha<;>rcases hb with hb|hb<;>subst ha<;>subst hb
 ·simp[show ¬(a:Int)<0 by omega,show ¬(b:Int)<0 by omega]
 ·rw[Int.natAbs_neg,Int.natAbs_natCast,Int.natAbs_natCast,hab,Int.mul_neg]
  by_cases h:b=0
  ·rw[hz (.inr h)];simp
  ·rw[decide_eq_false (show ¬(a:Int)<0 by omega),decide_eq_true (show -(b:Int)<0 by omega)];rfl
 ·rw[Int.natAbs_neg,Int.natAbs_natCast,Int.natAbs_natCast,hab,Int.neg_mul]
  by_cases h:a=0
  ·rw[hz (.inl h)];simp
  ·rw[decide_eq_false (show ¬(b:Int)<0 by omega),decide_eq_true (show -(a:Int)<0 by omega)];rfl
 ·rw[Int.natAbs_neg,Int.natAbs_natCast,Int.natAbs_neg,Int.natAbs_natCast,hab,Int.neg_mul_neg]
  by_cases h:a=0\/b=0
  ·rw[hz h];simp
  ·rw[decide_eq_true (show -(a:Int)<0 by omega),decide_eq_true (show -(b:Int)<0 by omega)];rfl
end
open Go.RowKit Go.RX Go.WD
section
variable {H:PH} {v x y:Value} {z p q:Int}
theorem d2r (k:Nat):BP (2*k+1)=PW k*4294967296:=by rw[BP_succ,c7B]
theorem d2s:HM=BP 15*2147483648:=by
 rw[b3g,show(15:Nat)=2*7+1 from rfl,d2r,Nat.mul_assoc,Nat.mul_comm]
end
end Go.Proofs.YtmannekkmdockaaGreatDoor
/- The reference of chapter 01: Parts, Divisor, and what the chapter says. -/
namespace Go.Proofs.YtmannekkmdockaaGreatDoor
open Go.Proofs.Tryz
open Go.RowKit Go.RX Go.WD
theorem c6j:a0L prog 4= .bool false:=by kernel_rfl
open Classical in
section
variable {H:PH} {v x y:Value} {z p q:Int}
theorem Lm.nat {n:Nat} (h:n<BP 10000):Lm (n:Int):=by unfold Lm;rw[Int.natAbs_natCast];exact h
theorem c6k:Lm 1:=by
 unfold Lm
 have:=BP_lt_iff.2 (show 0<10000 by omega)
 rw[BP_zero]at this
 exact this
end
open Go.RowKit Go.RX Go.WD
theorem d6c {z:Int} (h:z.natAbs<M):Lm z:=by
 unfold Lm
 have:=a1L (show 16<=10000 by omega)
 rw[d5Y]at this
 omega
theorem c6l (a:Nat):Lm (toI a):=d6c (a4a a)
end Go.Proofs.YtmannekkmdockaaGreatDoor

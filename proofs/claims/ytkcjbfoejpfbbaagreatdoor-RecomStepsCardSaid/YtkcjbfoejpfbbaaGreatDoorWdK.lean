/- Products of words: plain. -/
import Derived.Test.YtkcjbfoejpfbbaaGreatDoorWdG
import Derived.Lib.Mul64
import Derived.Test.YtkcjbfoejpfbbaaGreatDoorRxT
namespace Go.WD
open Go.RX
theorem d3n (a b:Nat) (ha:a<18446744073709551616) (hb:b<18446744073709551616):IntKind.u64.wrap ((BitVec.ofInt (IntKind.bits .u64) (a:Int)|||BitVec.ofInt (IntKind.bits .u64) (b:Int)).toNat:Int)=((a|||b:Nat):Int):=by
 have h:=Nat.or_lt_two_pow (n:=64) ha hb
 have e:(BitVec.ofInt 64 (a:Int)|||BitVec.ofInt 64 (b:Int)).toNat=a|||b:=by
  rw[BitVec.toNat_or,BitVec.toNat_ofInt,BitVec.toNat_ofInt]
  congr 1<;>omega
 show IntKind.u64.wrap ((BitVec.ofInt 64 (a:Int)|||BitVec.ofInt 64 (b:Int)).toNat:Int)=_
 rw[e,IntKind.wrap_u64]
 omega
theorem b1g (a:Nat) (ha:a<18446744073709551616):IntKind.u64.wrap ((BitVec.ofInt (IntKind.bits .u64) (a:Int)&&&BitVec.ofInt (IntKind.bits .u64) 4294967295).toNat:Int)=((a%4294967296:Nat):Int):=by
 have e:(BitVec.ofInt 64 (a:Int)&&&BitVec.ofInt 64 4294967295).toNat=a%4294967296:=by
  rw[BitVec.toNat_and,BitVec.toNat_ofInt,BitVec.toNat_ofInt,show((4294967295:Int)%(2^64:Nat)).toNat=2^32-1 from by decide,Nat.and_two_pow_sub_one_eq_mod]
  omega
 show IntKind.u64.wrap ((BitVec.ofInt 64 (a:Int)&&&BitVec.ofInt 64 4294967295).toNat:Int)=_
 rw[e,IntKind.wrap_u64]
 omega
theorem a6R (a k:Nat) (hk:k<=64):(a:Int).fdiv (2^min k (IntKind.bits .u64))=((a/2^k:Nat):Int):=by
 rw[show min k (IntKind.bits .u64)=k from Nat.min_eq_left hk,show(2:Int)^k=((2^k:Nat):Int)from by simp,Int.fdiv_eq_ediv_of_nonneg _ (Int.natCast_nonneg _)]
 exact(Int.natCast_ediv a (2^k)).symm
open Go.RX
def sgI (x y:Int):Int:=if x<y then -1 else if x=y then 0 else 1
open Go.RX
def blen (x:Nat):Nat:=if x=0 then 0 else x.log2+1
theorem a9x (x:Nat):x<2^blen x:=by
 unfold blen
 split
 ·rename_i h;subst h;decide
 ·exact Nat.lt_log2_self
theorem a5X {x:Nat} (h:x≠0):0<blen x/\2^(blen x-1)<=x:=by
 unfold blen
 rw[if_neg h]
 exact⟨by omega,by simpa using Nat.log2_self_le h⟩
theorem d0j {x k:Nat} (h0:0<k) (h1:2^(k-1)<=x) (h2:x<2^k):blen x=k:=by
 have hx:x≠0:=fun e=>by subst e;have:=Nat.pow_pos (n:=k-1) (show 0<2 by omega);omega
 obtain⟨p1,p2⟩:=a5X hx
 have p3:=a9x x
 have a1:k-1<blen x:=(Nat.pow_lt_pow_iff_right (show 1<2 by omega)).1 (Nat.lt_of_le_of_lt h1 p3)
 have a2:blen x-1<k:=(Nat.pow_lt_pow_iff_right (show 1<2 by omega)).1 (Nat.lt_of_le_of_lt p2 h2)
 omega
theorem a5m {x k:Nat} (h:2^k<=x):blen x=k+blen (x/2^k):=by
 have hp:0<2^k:=Nat.pow_pos (by omega)
 have hq:x/2^k≠0:=by
  have:=(Nat.le_div_iff_mul_le hp).2 (show 1*2^k<=x by omega)
  omega
 obtain⟨p1,p2⟩:=a5X hq
 have p3:=a9x (x/2^k)
 refine d0j (by omega) ?_ ?_
 ·rw[show k+blen (x/2^k)-1=(blen (x/2^k)-1)+k from by omega,Nat.pow_add]
  exact(Nat.le_div_iff_mul_le hp).1 p2
 ·rw[Nat.pow_add,Nat.mul_comm]
  exact(Nat.div_lt_iff_lt_mul hp).1 p3
theorem blen_le {x k:Nat} (h:x<2^k):blen x<=k:=by
 by_cases hx:x=0
 ·subst hx;simp[blen]
 ·obtain⟨p1,p2⟩:=a5X hx
  have:=(Nat.pow_lt_pow_iff_right (show 1<2 by omega)).1 (Nat.lt_of_le_of_lt p2 h)
  omega
theorem blen_ge {x k:Nat} (h:2^k<=x):k<blen x:=(Nat.pow_lt_pow_iff_right (show 1<2 by omega)).1 (Nat.lt_of_le_of_lt h (a9x x))
theorem d6s:(18446744073709551616:Nat)=2^64:=rfl
section
variable {y1 y0 u n q r:Nat}
theorem b8U (hu:u=q*y1+r) (ho:4294967296*r+n<q*y0):(u*4294967296+n)/(y1*4294967296+y0)<q:=by
 have hp:0<y1*4294967296+y0:=by
  rcases Nat.eq_zero_or_pos y0 with h|h
  ·subst h;omega
  ·omega
 refine(Nat.div_lt_iff_lt_mul hp).2 ?_
 rw[Nat.mul_add,<-Nat.mul_assoc,hu,Nat.add_mul]
 omega
theorem a9y (hu:u=q*y1+r) (hp:0<y1) (ho:q*y0<=4294967296*r+n):q<=(u*4294967296+n)/(y1*4294967296+y0):=by
 refine(Nat.le_div_iff_mul_le (by omega)).2 ?_
 rw[Nat.mul_add,<-Nat.mul_assoc,hu,Nat.add_mul]
 omega
theorem b3X (hn:n<4294967296) (hp:0<y1):(u*4294967296+n)/(y1*4294967296+y0)<=u/y1:=by
 have h1:(u*4294967296+n)/(y1*4294967296+y0)<=(u*4294967296+n)/(4294967296*y1):=Nat.div_le_div_left (by omega) (by omega)
 rw[<-Nat.div_div_eq_div_mul,show(u*4294967296+n)/4294967296=u from by omega]at h1
 exact h1
theorem c8E (h1:2147483648<=y1) (hu:u<y1*4294967296+y0) (h0:y0<4294967296):u/y1<=4294967297:=by
 have:u/y1<4294967298:=(Nat.div_lt_iff_lt_mul (by omega)).2 (by omega)
 omega
theorem c6d (hn:n<4294967296) (hu:u<y1*4294967296+y0):(u*4294967296+n)/(y1*4294967296+y0)<4294967296:=by
 refine(Nat.div_lt_iff_lt_mul (by omega)).2 ?_
 have:(u+1)*4294967296<=(y1*4294967296+y0)*4294967296:=Nat.mul_le_mul_right _ hu
 rw[Nat.mul_comm 4294967296];omega
end
theorem b8V {U Y X n q1 r1 q0 r0:Nat} (hX:X=q1*Y+r1) (hU:U=X*4294967296+n) (h0:r1*4294967296+n=q0*Y+r0) (hr:r0<Y):U/Y=q1*4294967296+q0/\U%Y=r0:=by
 have e:U=r0+Y*(q1*4294967296+q0):=by
  rw[hU,hX,Nat.add_mul,Nat.add_assoc,h0,Nat.mul_add,Nat.mul_comm Y q0,Nat.mul_comm Y,Nat.mul_right_comm]
  omega
 rw[e]
 exact⟨by rw[Nat.add_mul_div_left _ _ (by omega),Nat.div_eq_of_lt hr,Nat.zero_add],by rw[Nat.add_mul_mod_self_left,Nat.mod_eq_of_lt hr]⟩
theorem d3o {a b i:Nat} (hb:b<2^i):(a*2^i)|||b=a*2^i+b:=by
 rw[Nat.mul_comm,Nat.two_pow_add_eq_or_of_lt hb]
theorem a4M {r:Nat} (h:r<=64):(18446744073709551616:Nat)=2^(64-r)*2^r:=by
 rw[<-Nat.pow_add,show 64-r+r=64 from by omega]
theorem d3p {d:Nat} (hd:d<18446744073709551616) {r:Nat} (h:r<=64):d/2^(64-r)<2^r:=by
 refine(Nat.div_lt_iff_lt_mul (Nat.pow_pos (by omega))).2 ?_
 rw[Nat.mul_comm,<-a4M h];exact hd
end Go.WD
/- Contracts of package wide: products. -/
namespace Go.Proofs.YtkcjbfoejpfbbaaGreatDoor
open Go.Proofs.Tryz
open Go.RowKit Go.RX Go.WD Go.IntWalk
theorem a1Q (a:Nat) (ha:a<18446744073709551616):IntKind.u64.wrap (a:Int)=(a:Int):=by rw[IntKind.wrap_u64];omega
theorem d3q (a:Nat):IntKind.u64.wrap (a:Int)=((a%18446744073709551616:Nat):Int):=by rw[IntKind.wrap_u64];omega
theorem c8F (a b:Nat):(a:Int)*(b:Int)=((a*b:Nat):Int):=(Int.natCast_mul a b).symm
theorem b7q (a b:Nat):(a:Int)+(b:Int)=((a+b:Nat):Int):=(Int.natCast_add a b).symm
theorem c6e (a:Nat):(a:Int).fdiv (2^min (Int.toNat 32) (IntKind.bits .u64))=((a/4294967296:Nat):Int):=a6R a 32 (by omega)
theorem b8W (x y:Nat) (hx:x<18446744073709551616) (hy:y<18446744073709551616):Det prog 260 [.int .u64 x,.int .u64 y] (.tuple #[.int .u64 ((x*y/18446744073709551616:Nat):Int),.int .u64 ((x*y%18446744073709551616:Nat):Int)]):=by
 obtain⟨bd,bt,bw,hhi⟩:=Lib.mul64_hi x y hx hy
 have ba:=Lib.half_mul_le (a:=x/4294967296) (b:=y/4294967296) (by omega) (by omega)
 have bb:=Lib.half_mul_le (a:=x/4294967296) (b:=y%4294967296) (by omega) (by omega)
 have bc:=Lib.half_mul_le (a:=x%4294967296) (b:=y/4294967296) (by omega) (by omega)
 have ba':x/4294967296*(y/4294967296)<18446744073709551616:=by omega
 have bb':x/4294967296*(y%4294967296)<18446744073709551616:=by omega
 have bc':x%4294967296*(y/4294967296)<18446744073709551616:=by omega
 have bh1:x/4294967296*(y/4294967296)+(x/4294967296*(y%4294967296)+x%4294967296*(y%4294967296)/4294967296)/4294967296<18446744073709551616:=by omega
 have bh:x/4294967296*(y/4294967296)+(x/4294967296*(y%4294967296)+x%4294967296*(y%4294967296)/4294967296)/4294967296+((x/4294967296*(y%4294967296)+x%4294967296*(y%4294967296)/4294967296)%4294967296+x%4294967296*(y/4294967296))/4294967296<18446744073709551616:=by
  have:=(Nat.div_lt_iff_lt_mul (show 0<18446744073709551616 by omega)).2 (Nat.mul_lt_mul'' hx hy)
  omega
 refine a1e a0n c6a (by kernel_rfl) rfl (a0Q ⟨_,rfl⟩ (a0Q ⟨_,rfl⟩ (a2q ?_ rfl)))
 simp only[rxs,a6w,c6e,b1g x hx,b1g y hy,c8F,b7q,a1Q _ bd,a1Q _ bb',a1Q _ bt,b1g _ bt,a1Q _ bc',a1Q _ bw,a1Q _ ba',a1Q _ bh1,a1Q _ bh,d3q (x*y)]
 rw[hhi]
theorem d3r (k:Nat) (h:k<=9223372036854775807):IntKind.i64.wrap (k:Int)=(k:Int):=i64_in _ ⟨by omega,by omega⟩
theorem d8t (k:Nat) (j:Nat):(k:Int)+(j:Int)=((k+j:Nat):Int):=by omega
end Go.Proofs.YtkcjbfoejpfbbaaGreatDoor
/- Contracts: lengths, division by words. -/
namespace Go.Proofs.YtkcjbfoejpfbbaaGreatDoor
open Go.Proofs.Tryz
open Go.RowKit Go.RX Go.WD Go.IntWalk
theorem d6t (a:Nat):(a:Int).fdiv (2^min (Int.toNat 16) (IntKind.bits .u64))=((a/65536:Nat):Int):=a6R a 16 (by omega)
theorem d8u (a:Nat):(a:Int).fdiv (2^min (Int.toNat 8) (IntKind.bits .u64))=((a/256:Nat):Int):=a6R a 8 (by omega)
def len8:ByteArray:=⟨#[0,1,2,2,3,3,3,3,4,4,4,4,4,4,4,4,5,5,5,5,5,5,5,5,5,5,5,5,5,5,5,5,6,6,6,6,6,6,6,6,6,6,6,6,6,6,6,6,6,6,6,6,6,6,6,6,6,6,6,6,6,6,6,6,7,7,7,7,7,7,7,7,7,7,7,7,7,7,7,7,7,7,7,7,7,7,7,7,7,7,7,7,7,7,7,7,7,7,7,7,7,7,7,7,7,7,7,7,7,7,7,7,7,7,7,7,7,7,7,7,7,7,7,7,7,7,7,7,8,8,8,8,8,8,8,8,8,8,8,8,8,8,8,8,8,8,8,8,8,8,8,8,8,8,8,8,8,8,8,8,8,8,8,8,8,8,8,8,8,8,8,8,8,8,8,8,8,8,8,8,8,8,8,8,8,8,8,8,8,8,8,8,8,8,8,8,8,8,8,8,8,8,8,8,8,8,8,8,8,8,8,8,8,8,8,8,8,8,8,8,8,8,8,8,8,8,8,8,8,8,8,8,8,8,8,8,8,8,8,8,8,8,8,8,8,8,8,8,8,8,8,8,8,8,8,8]⟩
theorem b8X:len8.size=256:=by kernel_rfl
theorem c6f:(List.range 256).all (fun b=>(len8.data.getD b 0).toNat==blen b)=true:=by kernel_rfl
theorem c6g {b:Nat} (h:b<256):(len8.data.getD b 0).toNat=blen b:=by
 have:=List.all_eq_true.1 c6f b (List.mem_range.2 h)
 simpa using this
set_option maxRecDepth 100000 in
theorem a2J (x:Nat) (hx:x<18446744073709551616):Det prog 160 [.int .u64 x] (.int .i64 (blen x)):=by
 refine a1e a0n c6c (by kernel_rfl) rfl (a0Q ⟨_,rfl⟩ ⟨fun l=>∃y n,l=[.int .u64 (y:Nat),.int .i64 (n:Nat)]/\y<4294967296/\n<=32/\n+blen y=blen x,?_,?_⟩)
 ·refine a4n (b:=decide ((x:Int)≥4294967296)) rfl (fun h=> ?_) (fun h=> ?_)
  ·have h:=of_decide_eq_true h
   exact⟨x/4294967296,32,by simp only[rxs,c6e];rfl,by omega,by omega,(a5m (k:=32) (by omega)).symm⟩
  ·have h:=of_decide_eq_false h
   exact⟨x,0,rfl,by omega,by omega,by omega⟩
 rintro vals-⟨y,n,rfl,hy,hn,hb⟩
 refine a0Q ⟨_,rfl⟩ ⟨fun l=>∃y n,l=[.int .u64 (y:Nat),.int .i64 (n:Nat)]/\y<65536/\n<=48/\n+blen y=blen x,?_,?_⟩
 ·refine a4n (b:=decide ((y:Int)≥65536)) rfl (fun h=> ?_) (fun h=> ?_)
  ·have h:=of_decide_eq_true h
   have e:=a5m (x:=y) (k:=16) (by omega)
   refine a0Q ⟨_,rfl⟩ ⟨y/65536,n+16,?_,by omega,by omega,?_⟩
   ·have e3:IntKind.i64.wrap ((n:Int)+16)=((n+16:Nat):Int):=d3r (n+16) (by omega)
    simp only[rxs,d6t,e3]
   ·rw[show(2:Nat)^16=65536 from rfl]at e
    omega
  ·have h:=of_decide_eq_false h
   exact⟨y,n,rfl,by omega,by omega,hb⟩
 rintro vals-⟨y,n,rfl,hy,hn,hb⟩
 refine a0Q ⟨_,rfl⟩ ⟨fun l=>∃y n,l=[.int .u64 (y:Nat),.int .i64 (n:Nat)]/\y<256/\n<=56/\n+blen y=blen x,?_,?_⟩
 ·refine a4n (b:=decide ((y:Int)≥256)) rfl (fun h=> ?_) (fun h=> ?_)
  ·have h:=of_decide_eq_true h
   have e:=a5m (x:=y) (k:=8) (by omega)
   refine a0Q ⟨_,rfl⟩ ⟨y/256,n+8,?_,by omega,by omega,?_⟩
   ·have e3:IntKind.i64.wrap ((n:Int)+8)=((n+8:Nat):Int):=d3r (n+8) (by omega)
    simp only[rxs,d8u,e3]
   ·rw[show(2:Nat)^8=256 from rfl]at e
    omega
  ·have h:=of_decide_eq_false h
   exact⟨y,n,rfl,by omega,by omega,hb⟩
 rintro vals-⟨y,n,rfl,hy,hn,hb⟩
 have hu8:IntKind.u8.wrap (y:Int)=(y:Int):=by rw[IntKind.wrap_u8];omega
 have hyl:blen y<=8:=blen_le hy
 refine a0Q ⟨_,rfl⟩ (c9M (b0M (s:=len8) (k:= .u8) (m:=y) (vs:=[.string len8,.int .u8 y]) rfl rfl rfl (by kernel_rfl) (by rw[b8X];exact hy)) ?_ ?_)
 ·simp only[rxs,hu8];rfl
 ·rw[c6g hy]
  refine a0Q ⟨_,rfl⟩ (a0Q ⟨_,rfl⟩ (a2q ?_ rfl))
  simp only[rxs,a6w]
  rw[d3r (blen y) (by omega),d8t,d3r (n+blen y) (by omega),hb]
theorem c6h (x:Nat) (hx:x<18446744073709551616):Det prog 268 [.int .u64 x] (.int .i64 ((64-blen x:Nat):Int)):=by
 have hl:blen x<=64:=blen_le hx
 refine a1e a0n b8Q (by kernel_rfl) rfl (a5g (a2J x hx) rfl (a0Q ⟨_,rfl⟩ (a2q ?_ rfl)))
 simp only[rxs,a6w]
 rw[show(64:Int)-(blen x:Int)=((64-blen x:Nat):Int)from by omega,d3r _ (by omega)]
end Go.Proofs.YtkcjbfoejpfbbaaGreatDoor

/- Words to the base 2^64: plain. -/
import Derived.Test.YtlmgkkjgdapnpaaGreatDoorWdK
import Derived.Test.YtlmgkkjgdapnpaaGreatDoorRxT
import Derived.Test.YtlmgkkjgdapnpaaGreatDoorWdT
import Derived.Laws.Small
import Derived.Test.YtlmgkkjgdapnpaaGreatDoorWdB
namespace Go.WD
open Go.RX
theorem PW_lt_iff {i j:Nat}:PW i<PW j↔i<j:=by
 constructor
 ·intro h;rcases Nat.lt_or_ge i j with h1|h1
  ·exact h1
  ·have:=b3l h1;omega
 ·intro h
  have h1:=b3l (show i+1<=j from h)
  have h2:=a1k i
  rw[a0C]at h1;omega
def ul:List Nat->Nat
 |[]=>0
 |d::l=>d+18446744073709551616*ul l
def Eg (l:List Nat):Prop:=∀d∈l,d<18446744073709551616
theorem Eg.one {d:Nat} (h:d<18446744073709551616):Eg [d]:=fun e he=>by rw[List.mem_singleton]at he;omega
theorem Eg.take {l:List Nat} (h:Eg l) (k:Nat):Eg (l.take k):=fun d hd=>h d (List.mem_of_mem_take hd)
theorem Eg.set {l:List Nat} (h:Eg l) (k:Nat) {x:Nat} (hx:x<18446744073709551616):Eg (l.set k x):=fun d hd=>by
 rcases List.mem_or_eq_of_mem_set hd with h1|h1
 ·exact h d h1
 ·omega
theorem Eg.zeros (n:Nat):Eg (List.replicate n 0):=fun d hd=>by rw[List.mem_replicate]at hd;omega
theorem Eg.at {l:List Nat} (h:Eg l) (k:Nat):l.getD k 0<18446744073709551616:=by
 rw[List.getD_eq_getElem?_getD]
 cases e:l[k]? with
 |none=>simp
 |some d=>exact h d (List.mem_of_getElem? e)
theorem a7z:∀(a b:List Nat),ul (a++b)=ul a+PW a.length*ul b
 |[],b=>by simp[ul,a2X]
 |d::a,b=>by
  rw[List.cons_append,ul,ul,a7z a b,List.length_cons,a0C,Nat.mul_add,<-Nat.add_assoc,<-Nat.mul_assoc,Nat.mul_comm (PW a.length)]
theorem b8t (d:Nat):ul [d]=d:=by simp[ul]
theorem a6B:∀{l:List Nat},Eg l->ul l<PW l.length
 |[],_=>by simp[ul,a2X]
 |d::l,h=>by
  have h1:=a6B (l:=l) fun e he=>h e (by simp[he])
  have h2:=h d (by simp)
  rw[ul,List.length_cons,a0C]
  omega
theorem a3v:∀n,ul (List.replicate n 0)=0
 |0=>rfl
 |n+1=>by rw[List.replicate_succ,ul,a3v n]
theorem a1G {l:List Nat} {k:Nat} (h:k<l.length):ul (l.take (k+1))=ul (l.take k)+PW k*l.getD k 0:=by
 rw[b6c h,a7z,b8t,List.length_take,Nat.min_eq_left (by omega)]
theorem a5R {l:List Nat} {k:Nat} (h:k<l.length):ul (l.drop k)=l.getD k 0+18446744073709551616*ul (l.drop (k+1)):=by
 rw[a9T h];rfl
theorem a9X (l:List Nat) {k:Nat} (h:k<=l.length):ul l=ul (l.take k)+PW k*ul (l.drop k):=by
 have:=a7z (l.take k) (l.drop k)
 rwa[List.take_append_drop,List.length_take,Nat.min_eq_left h]at this
theorem a4z:∀{l:List Nat} {k:Nat} (x:Nat),k<l.length->ul (l.set k x)+PW k*l.getD k 0=ul l+PW k*x
 |[],k,x,h=>by simp at h
 |d::l,0,x,_=>by simp[ul,a2X];omega
 |d::l,k+1,x,h=>by
  have ih:=a4z (l:=l) (k:=k) x (by simpa using h)
  have e:(d::l).getD (k+1) 0=l.getD k 0:=rfl
  rw[List.set_cons_succ,ul,ul,e,a0C,Nat.mul_comm (PW k),Nat.mul_assoc,Nat.mul_assoc]
  have h1:18446744073709551616*ul (l.set k x)+18446744073709551616*(PW k*l.getD k 0)=18446744073709551616*ul l+18446744073709551616*(PW k*x):=by rw[<-Nat.mul_add,ih,Nat.mul_add]
  omega
def Um (l:List Nat):Prop:=∀k,ul l<PW k->l.length<=k
theorem Um.nil:Um []:=fun _ _=>Nat.zero_le _
theorem d6F {l:List Nat} {n:Nat} (hl:l.length=n+1) (h:l.getD n 0≠0):PW n<=ul l:=by
 have h1:=a1G (l:=l) (k:=n) (by omega)
 rw[List.take_of_length_le (by omega)]at h1
 have:=Nat.mul_le_mul_left (PW n) (show 1<=l.getD n 0 by omega)
 omega
theorem Um.of {l:List Nat} {n:Nat} (hl:l.length=n+1) (h:l.getD n 0≠0):Um l:=fun k hk=>by
 have:=PW_lt_iff.1 (Nat.lt_of_le_of_lt (d6F hl h) hk)
 omega
theorem Um.ge {l:List Nat} (h:Um l) {n:Nat} (hl:l.length=n+1):PW n<=ul l:=by
 rcases Nat.lt_or_ge (ul l) (PW n)with h1|h1
 ·have:=h n h1;omega
 ·exact h1
theorem Um.len_le {a b:List Nat} (ha:Um a) (hb:Eg b) (h:ul a<=ul b):a.length<=b.length:=ha _ (Nat.lt_of_le_of_lt h (a6B hb))
theorem Um.lt_of_len {a b:List Nat} (ha:Eg a) (hb:Um b) (h:a.length<b.length):ul a<ul b:=by
 obtain⟨n,hn⟩:∃n,b.length=n+1:=⟨b.length-1,by omega⟩
 exact Nat.lt_of_lt_of_le (a6B ha) (Nat.le_trans (b3l (by omega)) (hb.ge hn))
theorem Um.pos {l:List Nat} (h:Um l):0<l.length↔0<ul l:=by
 constructor
 ·intro hl
  obtain⟨n,hn⟩:∃n,l.length=n+1:=⟨l.length-1,by omega⟩
  exact Nat.lt_of_lt_of_le (a1k n) (h.ge hn)
 ·intro hv
  cases l with
  |nil=>simp[ul]at hv
  |cons d l=>simp
theorem b4q {a b:List Nat} {i:Nat} (ha:Eg a) (hb:Eg b) (hia:i<a.length) (hib:i<b.length) (hd:a.drop (i+1)=b.drop (i+1)) (h:a.getD i 0<b.getD i 0):ul a<ul b:=by
 have e1:=a9X a (show i+1<=a.length by omega)
 have e2:=a9X b (show i+1<=b.length by omega)
 have f1:=a1G hia
 have f2:=a1G hib
 have g1:=a6B (ha.take i)
 rw[List.length_take,Nat.min_eq_left (by omega)]at g1
 have h2:=Nat.mul_le_mul_left (PW i) (show a.getD i 0+1<=b.getD i 0 from h)
 rw[Nat.mul_add]at h2
 rw[hd]at e1
 omega
end Go.WD
/- The reference of chapter 01: cut, made, order. -/
namespace Go.Proofs.YtlmgkkjgdapnpaaGreatDoor
open Go.Proofs.Tryz
open Go.RowKit Go.RX Go.WD
theorem d4d {a b:Nat} (h:a+b<9223372036854775808):IntKind.i64.wrap ((a:Int)+(b:Int))=((a+b:Nat):Int):=by rw[IntKind.wrap_i64];omega
theorem a9Y {a:Nat} (h:a+1<9223372036854775808):IntKind.i64.wrap ((a:Int)+1)=((a+1:Nat):Int):=by rw[IntKind.wrap_i64];omega
theorem d4e {a:Nat} (h:a<9223372036854775808) (hb:1<=a):IntKind.i64.wrap ((a:Int)-1)=((a-1:Nat):Int):=by rw[IntKind.wrap_i64];omega
theorem c4w {z:Int} (h: -9223372036854775808<=z) (h2:z<9223372036854775808):IntKind.i64.wrap z=z:=by rw[IntKind.wrap_i64];omega
section
variable {H:PH} {v:Value} {l:List Nat}
def sn (b:Bool) (n:Nat):Int:=if b then -(n:Int)else n
end
open Go.RowKit Go.RX Go.WD
theorem wu {a:Nat} (h:a<18446744073709551616):IntKind.u64.wrap (a:Int)=(a:Int):=by rw[IntKind.wrap_u64];omega
end Go.Proofs.YtlmgkkjgdapnpaaGreatDoor
/- Contracts: bits.Div64. -/
namespace Go.Proofs.YtlmgkkjgdapnpaaGreatDoor
open Go.Proofs.Tryz
open Go.RowKit Go.RX Go.WD Go.IntWalk
theorem d4f (a s:Nat) (h:s<=64):IntKind.u64.wrap ((a:Int)*2^min s (IntKind.bits .u64))=((a*2^s%18446744073709551616:Nat):Int):=by
 rw[show min s (IntKind.bits .u64)=s from Nat.min_eq_left h,show(2:Int)^s=((2^s:Nat):Int)from by simp,c7K,d4c]
theorem b4r (a b:Nat) (h:b<=a) (ha:a<18446744073709551616):IntKind.u64.wrap ((a:Int)-(b:Int))=((a-b:Nat):Int):=by
 rw[show(a:Int)-(b:Int)=((a-b:Nat):Int)from by omega,a1J _ (by omega)]
theorem d6G (a b:Nat) (ha:a<18446744073709551616):IntKind.u64.wrap ((a:Int).tdiv (b:Int))=((a/b:Nat):Int):=by
 rw[<-Int.ofNat_tdiv,a1J]
 exact Nat.lt_of_le_of_lt (Nat.div_le_self _ _) ha
def qt (u n y1 y0:Nat):Nat:=(u*4294967296+n)/(y1*4294967296+y0)
section
variable {y1 y0 u n q r:Nat}
theorem a6J (hy:y1<4294967296) (h0:y0<4294967296) (hp:0<y1) (hu:u=q*y1+r) (hQ:qt u n y1 y0<q) (hq:q<=4294967297):u=(q-1)*y1+(r+y1)/\qt u n y1 y0<=q-1/\(4294967296<=r+y1->q-1=qt u n y1 y0):=by
 obtain⟨p,rfl⟩:∃p,q=p+1:=⟨q-1,by omega⟩
 have e:u=p*y1+(r+y1):=by rw[hu,Nat.add_mul,Nat.one_mul];omega
 refine⟨e,by omega,fun hb=> ?_⟩
 have h1:p<=qt u n y1 y0:=a9W (n:=n) (y0:=y0) e hp (by
  have:p*y0<=4294967296*4294967295:=Nat.mul_le_mul (by omega) (by omega)
  omega)
 show p=_
 omega
end
theorem b1s {q r y0 n:Nat} (hq:q<4294967296) (hr:r<4294967296) (h0:y0<4294967296) (hn:n<4294967296):q*y0<18446744073709551616/\4294967296*r<18446744073709551616/\4294967296*r+n<18446744073709551616:=by
 have:=Nat.mul_le_mul (show q<=4294967295 by omega) (show y0<=4294967295 by omega)
 omega
theorem b4s {u n q y:Nat} (hle:q*y<=u*4294967296+n) (hlt:u*4294967296+n-q*y<18446744073709551616):IntKind.u64.wrap (IntKind.u64.wrap (IntKind.u64.wrap (((u*4294967296:Nat):Int))+(n:Int))-IntKind.u64.wrap ((q*y:Nat):Int))=((u*4294967296+n-q*y:Nat):Int):=by
 simp only[IntKind.wrap_u64]
 omega
theorem c7L {a c:Nat} (ha:a<4294967296) (hc:c<4294967296):a*4294967296<18446744073709551616/\a*4294967296+c<18446744073709551616:=by omega
theorem d6H (u n1 n0:Nat):u*18446744073709551616+(n1*4294967296+n0)=(u*4294967296+n1)*4294967296+n0:=by omega
theorem b32:(4294967296:Int)=((4294967296:Nat):Int):=rfl
theorem one1:(1:Int)=((1:Nat):Int):=rfl
set_option maxRecDepth 100000 in
set_option maxHeartbeats 4000000 in
theorem b8u (hi lo y:Nat) (hhi:hi<y) (hlo:lo<18446744073709551616) (hy:y<18446744073709551616):Det prog 248 [.int .u64 hi,.int .u64 lo,.int .u64 y] (.tuple #[.int .u64 (((hi*18446744073709551616+lo)/y:Nat):Int),.int .u64 (((hi*18446744073709551616+lo)%y:Nat):Int)]):=by
 refine a0H mixed c4h (by kernel_rfl) rfl (a0v ⟨_,rfl⟩ (a0v ?_ (a0v ⟨_,rfl⟩ (a0v ?_ ?_))))
 ·show Value.bool ((y:Int)==0)= .bool false
  congr 1;simp;omega
 ·show Value.bool (decide ((y:Int)<=(hi:Int)))= .bool false
  congr 1;simp;omega
 refine a1I (b:=decide (hi=0)) ?_ (fun h=> ?_) (fun h=> ?_)
 ·show Value.bool ((hi:Int)==0)=_
  congr 1;rw[Bool.eq_iff_iff];simp
 ·have h:=of_decide_eq_true h
  subst h
  refine a0v ⟨_,rfl⟩ (a0v ?_ (a0Z ?_ rfl))
  ·show(y:Int)≠0;omega
  ·simp only[rxs,a4w,d6G lo y hlo,Nat.zero_mul,Nat.zero_add,<-Int.ofNat_tmod]
 have h:=of_decide_eq_false h
 obtain⟨l0,l1⟩:=a5m (x:=y) (by omega)
 have l2:=a7x y
 have l3:blen y<=64:=blen_le hy
 obtain⟨s,hs⟩:∃s,s=64-blen y:=⟨_,rfl⟩
 have hs64:s<=63:=by omega
 have hps:0<2^s:=Nat.pow_pos (by omega)
 have hlz:=b4p y hy
 rw[<-hs]at hlz
 have hY1:y*2^s<18446744073709551616:=by
  have:=Nat.mul_lt_mul_of_lt_of_le l2 (Nat.le_refl (2^s)) hps
  rwa[<-Nat.pow_add,show blen y+s=64 from by omega]at this
 have hY0:9223372036854775808<=y*2^s:=by
  have:=Nat.mul_le_mul_right (2^s) l1
  rwa[<-Nat.pow_add,show blen y-1+s=63 from by omega]at this
 have hH:hi*2^s+2^s<=y*2^s:=by
  have:=Nat.mul_le_mul_right (2^s) hhi
  rwa[Nat.succ_mul]at this
 have hL:=c7J hlo (r:=s) (by omega)
 have hU:(hi*18446744073709551616+lo)*2^s=(hi*2^s+lo/2^(64-s))*18446744073709551616+lo*2^s%18446744073709551616:=by
  have e1:lo*2^s/18446744073709551616=lo/2^(64-s):=by
   rw[a2m (r:=s) (by omega),Nat.mul_div_mul_right _ _ hps]
  have e2:=Nat.div_add_mod (lo*2^s) 18446744073709551616
  rw[e1]at e2
  rw[Nat.add_mul,Nat.add_mul,Nat.mul_right_comm]
  omega
 have hn10:=Nat.mod_lt (lo*2^s) (show 0<18446744073709551616 by omega)
 have hor:(hi*2^s%18446744073709551616)|||(lo/2^(64-s))=hi*2^s+lo/2^(64-s):=by
  rw[Nat.mod_eq_of_lt (by omega),c7I hL]
 generalize hYd:y*2^s=Y at hY1 hY0 hH
 generalize hUd:hi*2^s+lo/2^(64-s)=u at hU hor
 have huY:u<Y:=by omega
 generalize hnd:lo*2^s%18446744073709551616=n at hU hn10
 have hYs:Y/4294967296*4294967296+Y%4294967296=Y:=by omega
 have hy1a:2147483648<=Y/4294967296:=by omega
 have hy1b:Y/4294967296<4294967296:=by omega
 have hy0:Y%4294967296<4294967296:=Nat.mod_lt _ (by omega)
 generalize hy1d:Y/4294967296=y1 at hYs hy1a hy1b
 generalize hy0d:Y%4294967296=y0 at hYs hy0
 have hn1:n/4294967296<4294967296:=by omega
 have hn0:n%4294967296<4294967296:=Nat.mod_lt _ (by omega)
 generalize hn1d:n/4294967296=n1 at hn1
 generalize hn0d:n%4294967296=n0 at hn0
 have hnn:n=n1*4294967296+n0:=by omega
 have hcv:IntKind.u64.wrap (s:Int)=(s:Int):=a1J s (by omega)
 have h64:IntKind.u64.wrap ((64:Int)-(s:Int))=((64-s:Nat):Int):=by
  rw[show(64:Int)-(s:Int)=((64-s:Nat):Int)from by omega,a1J _ (by omega)]
 have hquo:=d6G u y1 (by omega)
 refine a1l hlz rfl (a0v ⟨_,rfl⟩ (a0v ?_ (a0v ⟨_,rfl⟩ (a0v ?_ (a0v ?_ ?_)))))
 ·show(0:Int)<=IntKind.u64.wrap (s:Int);rw[hcv];omega
 ·show(0:Int)<=IntKind.u64.wrap (64-IntKind.u64.wrap (s:Int));rw[hcv,h64];omega
 ·simp only[Rq.holds,rxs,hcv,d4f y s (by omega),hYd,Nat.mod_eq_of_lt hY1,c4r,hy1d]
  omega
 have hmod:∀a,a-a/y1*y1=a%y1:=fun a=>by have:=Nat.div_add_mod' a y1;omega
 have hdm:∀a,a/y1*y1<=a:=fun a=>Nat.div_mul_le_self a y1
 refine⟨fun l=>l=[.int .u64 (Y:Nat),.int .u64 (s:Nat),.int .u64 (y1:Nat),.int .u64 (y0:Nat),.int .u64 (u:Nat),.int .u64 (n1:Nat),.int .u64 (n0:Nat),.int .u64 ((u/y1:Nat):Int),.int .u64 ((u%y1:Nat):Int)],?_,?_⟩
 ·have horU:=b8o (hi*2^s%18446744073709551616) (lo/2^(64-s)) (Nat.mod_lt _ (by omega)) (Nat.lt_of_lt_of_le hL (by rw[a9V];exact Nat.pow_le_pow_right (by omega) (by omega)))
  rw[hor]at horU
  have hm:=a1J (u/y1*y1) (by have:=hdm u;omega)
  have hsb:=b4r u (u/y1*y1) (hdm u) (by omega)
  rw[hmod]at hsb
  simp only[pd,List.nil_append,List.getD_cons_zero,rxs,hcv,h64,d4f y s (by omega),d4f hi s (by omega),d4f lo s (by omega),hYd,Nat.mod_eq_of_lt hY1,c4r,hy1d,b1q Y hY1,hy0d,a5Q lo (64-s) (by omega),horU,hnd,b1q n hn10,hn1d,hn0d,hquo,c7K,hm,hsb]
 rintro vals-rfl
 simp only[cA,nA]
 refine⟨fun l=>l=[.int .u64 (qt u n1 y1 y0:Nat)],?_,?_⟩
 ·refine⟨fun l=>∃q r,l=[.int .u64 (q:Nat),.int .u64 (r:Nat)]/\u=q*y1+r/\qt u n1 y1 y0<=q/\q<=4294967297/\r<4294967296,fun l=>(intOf (l.getD 0 undef)).toNat,⟨u/y1,u%y1,rfl,(Nat.div_add_mod' _ _).symm,b4n hn1 (by omega),c7H hy1a (by omega) hy0,Nat.lt_of_lt_of_le (Nat.mod_lt _ (by omega)) (Nat.le_of_lt hy1b)⟩,?_⟩
  rintro vals-⟨q,r,rfl,hu,hQ,hq,hr⟩
  simp only[cA,nA]
  have hQb:qt u n1 y1 y0<4294967296:=c4q hn1 (by omega)
  refine a0v ⟨_,rfl⟩ (a1I (b:=decide (4294967296<=q)) ?_ (fun h=> ?_) (fun h=> ?_))
  ·simp only[rxs]
   congr 1
   rw[Bool.eq_iff_iff,decide_eq_true_iff,decide_eq_true_iff];omega
  ·have h:=of_decide_eq_true h
   have hlt:qt u n1 y1 y0<q:=by omega
   obtain⟨d1,d2,d3⟩:=a6J (n:=n1) hy1b hy0 (by omega) hu hlt hq
   refine a0v ⟨_,rfl⟩ (a0v ⟨_,rfl⟩ (a1I (b:=decide (4294967296<=r+y1)) ?_ (fun h2=> ?_) (fun h2=> ?_)))
   ·simp only[rxs,b6X,a1J (r+y1) (by omega)]
    congr 1
    rw[Bool.eq_iff_iff,decide_eq_true_iff,decide_eq_true_iff];omega
   ·have h2:=of_decide_eq_true h2
    show[Value.int .u64 (IntKind.u64.wrap ((q:Int)-1))]=_
    rw[one1,b4r q 1 (by omega) (by omega),d3 h2]
   ·have h2:=of_decide_eq_false h2
    refine⟨⟨q-1,r+y1,?_,d1,d2,by omega,by omega⟩,?_⟩
    ·show[Value.int .u64 (IntKind.u64.wrap ((q:Int)-1)),Value.int .u64 (IntKind.u64.wrap ((r:Int)+(y1:Int)))]=_
     rw[one1,b4r q 1 (by omega) (by omega),b6X,a1J (r+y1) (by omega)]
    ·show(intOf (Value.int .u64 (IntKind.u64.wrap ((q:Int)-1)))).toNat<(intOf (Value.int .u64 (q:Nat))).toNat
     rw[one1,b4r q 1 (by omega) (by omega)]
     simp only[intOf]
     omega
  ·have h:=of_decide_eq_false h
   obtain⟨w1,w2,w3⟩:=b1s (q:=q) (r:=r) (y0:=y0) (n:=n1) (by omega) hr hy0 hn1
   refine a0v ⟨_,rfl⟩ (a0v ⟨_,rfl⟩ (a0v ⟨_,rfl⟩ (a1I (b:=decide (4294967296*r+n1<q*y0)) ?_ (fun h1=> ?_) (fun h1=> ?_))))
   ·simp only[rxs,b32,c7K,b6X,a1J _ w1,a1J _ w2,a1J _ w3]
    congr 1
    rw[Bool.eq_iff_iff,decide_eq_true_iff,decide_eq_true_iff];omega
   ·have h1:=of_decide_eq_true h1
    have hlt:qt u n1 y1 y0<q:=b8p hu h1
    obtain⟨d1,d2,d3⟩:=a6J (n:=n1) hy1b hy0 (by omega) hu hlt hq
    refine a0v ⟨_,rfl⟩ (a1I (b:=decide (4294967296<=r+y1)) ?_ (fun h2=> ?_) (fun h2=> ?_))
    ·simp only[rxs,b6X,a1J (r+y1) (by omega)]
     congr 1
     rw[Bool.eq_iff_iff,decide_eq_true_iff,decide_eq_true_iff];omega
    ·have h2:=of_decide_eq_true h2
     show[Value.int .u64 (IntKind.u64.wrap ((q:Int)-1))]=_
     rw[one1,b4r q 1 (by omega) (by omega),d3 h2]
    ·have h2:=of_decide_eq_false h2
     refine⟨⟨q-1,r+y1,?_,d1,d2,by omega,by omega⟩,?_⟩
     ·show[Value.int .u64 (IntKind.u64.wrap ((q:Int)-1)),Value.int .u64 (IntKind.u64.wrap ((r:Int)+(y1:Int)))]=_
      rw[one1,b4r q 1 (by omega) (by omega),b6X,a1J (r+y1) (by omega)]
     ·show(intOf (Value.int .u64 (IntKind.u64.wrap ((q:Int)-1)))).toNat<(intOf (Value.int .u64 (q:Nat))).toNat
      rw[one1,b4r q 1 (by omega) (by omega)]
      simp only[intOf]
      omega
   ·have h1:=of_decide_eq_false h1
    have hle:=a9W (n:=n1) (y0:=y0) hu (by omega) (by omega)
    show[Value.int .u64 (q:Nat)]=_
    rw[show q=qt u n1 y1 y0 from Nat.le_antisymm hle hQ]
 rintro vals-rfl
 simp only[cA,nA]
 have hq1:=c4q (y1:=y1) (y0:=y0) hn1 (show u<y1*4294967296+y0 by omega)
 obtain⟨q1,hq1d⟩:∃q1,q1=qt u n1 y1 y0:=⟨_,rfl⟩
 obtain⟨r1,hr1d⟩:∃r1,r1=(u*4294967296+n1)%Y:=⟨_,rfl⟩
 have hX:u*4294967296+n1=q1*Y+r1:=by
  rw[hq1d,hr1d];unfold qt;rw[hYs];exact(Nat.div_add_mod' _ _).symm
 have hr1:r1<Y:=by rw[hr1d];exact Nat.mod_lt _ (by omega)
 have hsw1:=b4s (u:=u) (n:=n1) (q:=q1) (y:=Y) (by omega) (by omega)
 rw[show u*4294967296+n1-q1*Y=r1 from by omega]at hsw1
 rw[<-hq1d]
 have hquo1:=d6G r1 y1 (by omega)
 refine a0v ⟨_,rfl⟩ (a0v ⟨_,rfl⟩ (a0v ⟨_,rfl⟩ (a0v ⟨_,rfl⟩ (a0v ⟨_,rfl⟩ (a0v ?_ ⟨fun l=>l=[.int .u64 (r1:Nat),.int .u64 ((r1/y1:Nat):Int),.int .u64 ((r1%y1:Nat):Int)],?_,?_⟩)))))
 ·show(y1:Int)≠0;omega
 ·have hm:=a1J (r1/y1*y1) (by have:=hdm r1;omega)
  have hsb:=b4r r1 (r1/y1*y1) (hdm r1) (by omega)
  rw[hmod]at hsb
  simp only[pd,List.nil_append,List.getD_cons_zero,rxs,b32,c7K,hsw1,hquo1,hm,hsb]
 rintro vals-rfl
 simp only[cA,nA]
 refine⟨fun l=>l=[.int .u64 (qt r1 n0 y1 y0:Nat)],?_,?_⟩
 ·refine⟨fun l=>∃q r,l=[.int .u64 (q:Nat),.int .u64 (r:Nat)]/\r1=q*y1+r/\qt r1 n0 y1 y0<=q/\q<=4294967297/\r<4294967296,fun l=>(intOf (l.getD 0 undef)).toNat,⟨r1/y1,r1%y1,rfl,(Nat.div_add_mod' _ _).symm,b4n hn0 (by omega),c7H hy1a (by omega) hy0,Nat.lt_of_lt_of_le (Nat.mod_lt _ (by omega)) (Nat.le_of_lt hy1b)⟩,?_⟩
  rintro vals-⟨q,r,rfl,hu,hQ,hq,hr⟩
  simp only[cA,nA]
  have hQb:qt r1 n0 y1 y0<4294967296:=c4q hn0 (by omega)
  refine a0v ⟨_,rfl⟩ (a1I (b:=decide (4294967296<=q)) ?_ (fun h=> ?_) (fun h=> ?_))
  ·simp only[rxs]
   congr 1
   rw[Bool.eq_iff_iff,decide_eq_true_iff,decide_eq_true_iff];omega
  ·have h:=of_decide_eq_true h
   have hlt:qt r1 n0 y1 y0<q:=by omega
   obtain⟨d1,d2,d3⟩:=a6J (n:=n0) hy1b hy0 (by omega) hu hlt hq
   refine a0v ⟨_,rfl⟩ (a1I (b:=decide (4294967296<=r+y1)) ?_ (fun h2=> ?_) (fun h2=> ?_))
   ·simp only[rxs,b6X,a1J (r+y1) (by omega)]
    congr 1
    rw[Bool.eq_iff_iff,decide_eq_true_iff,decide_eq_true_iff];omega
   ·have h2:=of_decide_eq_true h2
    show[Value.int .u64 (IntKind.u64.wrap ((q:Int)-1))]=_
    rw[one1,b4r q 1 (by omega) (by omega),d3 h2]
   ·have h2:=of_decide_eq_false h2
    refine⟨⟨q-1,r+y1,?_,d1,d2,by omega,by omega⟩,?_⟩
    ·show[Value.int .u64 (IntKind.u64.wrap ((q:Int)-1)),Value.int .u64 (IntKind.u64.wrap ((r:Int)+(y1:Int)))]=_
     rw[one1,b4r q 1 (by omega) (by omega),b6X,a1J (r+y1) (by omega)]
    ·show(intOf (Value.int .u64 (IntKind.u64.wrap ((q:Int)-1)))).toNat<(intOf (Value.int .u64 (q:Nat))).toNat
     rw[one1,b4r q 1 (by omega) (by omega)]
     simp only[intOf]
     omega
  ·have h:=of_decide_eq_false h
   obtain⟨w1,w2,w3⟩:=b1s (q:=q) (r:=r) (y0:=y0) (n:=n0) (by omega) hr hy0 hn0
   refine a0v ⟨_,rfl⟩ (a0v ⟨_,rfl⟩ (a0v ⟨_,rfl⟩ (a1I (b:=decide (4294967296*r+n0<q*y0)) ?_ (fun h1=> ?_) (fun h1=> ?_))))
   ·simp only[rxs,b32,c7K,b6X,a1J _ w1,a1J _ w2,a1J _ w3]
    congr 1
    rw[Bool.eq_iff_iff,decide_eq_true_iff,decide_eq_true_iff];omega
   ·have h1:=of_decide_eq_true h1
    have hlt:qt r1 n0 y1 y0<q:=b8p hu h1
    obtain⟨d1,d2,d3⟩:=a6J (n:=n0) hy1b hy0 (by omega) hu hlt hq
    refine a1I (b:=decide (4294967296<=r+y1)) ?_ (fun h2=> ?_) (fun h2=> ?_)
    ·simp only[rxs,b6X,a1J (r+y1) (by omega)]
     congr 1
     rw[Bool.eq_iff_iff,decide_eq_true_iff,decide_eq_true_iff];omega
    ·have h2:=of_decide_eq_true h2
     show[Value.int .u64 (IntKind.u64.wrap ((q:Int)-1))]=_
     rw[one1,b4r q 1 (by omega) (by omega),d3 h2]
    ·have h2:=of_decide_eq_false h2
     refine⟨⟨q-1,r+y1,?_,d1,d2,by omega,by omega⟩,?_⟩
     ·show[Value.int .u64 (IntKind.u64.wrap ((q:Int)-1)),Value.int .u64 (IntKind.u64.wrap ((r:Int)+(y1:Int)))]=_
      rw[one1,b4r q 1 (by omega) (by omega),b6X,a1J (r+y1) (by omega)]
     ·show(intOf (Value.int .u64 (IntKind.u64.wrap ((q:Int)-1)))).toNat<(intOf (Value.int .u64 (q:Nat))).toNat
      rw[one1,b4r q 1 (by omega) (by omega)]
      simp only[intOf]
      omega
   ·have h1:=of_decide_eq_false h1
    have hle:=a9W (n:=n0) (y0:=y0) hu (by omega) (by omega)
    show[Value.int .u64 (q:Nat)]=_
    rw[show q=qt r1 n0 y1 y0 from Nat.le_antisymm hle hQ]
 rintro vals-rfl
 simp only[cA,nA]
 have hq0:=c4q (y1:=y1) (y0:=y0) hn0 (show r1<y1*4294967296+y0 by omega)
 obtain⟨q0,hq0d⟩:∃q0,q0=qt r1 n0 y1 y0:=⟨_,rfl⟩
 obtain⟨r0,hr0d⟩:∃r0,r0=(r1*4294967296+n0)%Y:=⟨_,rfl⟩
 have hX0:r1*4294967296+n0=q0*Y+r0:=by
  rw[hq0d,hr0d];unfold qt;rw[hYs];exact(Nat.div_add_mod' _ _).symm
 have hr0:r0<Y:=by rw[hr0d];exact Nat.mod_lt _ (by omega)
 have hsw0:=b4s (u:=r1) (n:=n0) (q:=q0) (y:=Y) (by omega) (by omega)
 rw[show r1*4294967296+n0-q0*Y=r0 from by omega]at hsw0
 obtain⟨f1,f2⟩:=b8q (U:=(hi*18446744073709551616+lo)*2^s) hX (by rw[hU,hnn];exact d6H u n1 n0) hX0 hr0
 rw[<-hYd,Nat.mul_div_mul_right _ _ hps]at f1
 rw[<-hYd,Nat.mul_mod_mul_right]at f2
 have f3:r0/2^s=(hi*18446744073709551616+lo)%y:=by rw[<-f2,Nat.mul_div_cancel _ hps]
 rw[<-hq0d]
 have hs65:s<=64:=Nat.le_succ_of_le hs64
 have hq1b:q1<4294967296:=by rw[hq1d];exact hq1
 have hq0b:q0<4294967296:=by rw[hq0d];exact hq0
 refine a0v ⟨_,rfl⟩ (a0v ⟨_,rfl⟩ (a0v ⟨_,rfl⟩ (a0v ⟨_,_,rfl⟩ (a0v ?_ (a0Z ?_ rfl)))))
 ·show(0:Int)<=(s:Int);omega
 ·simp only[rxs,a4w,b32,c7K,hsw0,b6X,a1J (q1*4294967296) (c7L hq1b hq0b).1,a1J (q1*4294967296+q0) (c7L hq1b hq0b).2,a5Q r0 s hs65,f1,f3]
end Go.Proofs.YtlmgkkjgdapnpaaGreatDoor
/- Contracts: short, shifted, Over, Common. -/
namespace Go.Proofs.YtlmgkkjgdapnpaaGreatDoor
open Go.Proofs.Tryz
open Go.RowKit Go.RX Go.WD Go.IntWalk
theorem d7N (k:Nat) (hk:k<=9223372036854775807):IntKind.i64.wrap ((k:Int).tdiv 64)=((k/64:Nat):Int):=by
 rw[show(64:Int)=((64:Nat):Int)from rfl,<-Int.ofNat_tdiv,c9z _ (by omega)]
theorem d7O (k:Nat):(k:Int).tmod 64=((k%64:Nat):Int):=by
 rw[show(64:Int)=((64:Nat):Int)from rfl,<-Int.ofNat_tmod]
theorem c9B (r:Nat) (h:r<64):IntKind.u64.wrap ((1:Int)*2^min r (IntKind.bits .u64))=((2^r:Nat):Int):=by
 have:=d4f 1 r (by omega)
 rw[Nat.one_mul,Nat.mod_eq_of_lt (by rw[a9V];exact Nat.pow_lt_pow_right (by omega) h)]at this
 exact this
theorem b8v {A k:Nat} (h:A<PW k):blen A<=64*k:=blen_le (by rw[a8V]at h;exact h)
end Go.Proofs.YtlmgkkjgdapnpaaGreatDoor
/- Contracts: Root, Div, Gcd, Pow. -/
namespace Go.Proofs.YtlmgkkjgdapnpaaGreatDoor
open Go.Proofs.Tryz
open Go.RowKit Go.RX Go.WD Go.IntWalk
theorem b6e {x y q r:Int} (hy:y≠0) (he:x=q*y+r) (h0:0<=r) (h1:r<y.natAbs):x/y=q/\x%y=r:=by
 rcases Int.lt_or_lt_of_ne hy with h|h
 ·have:=(Int.ediv_emod_unique (a:=x) (b:= -y) (q:= -q) (r:=r) (by omega)).2 ⟨by rw[he,Int.neg_mul_neg,Int.mul_comm];omega,h0,by omega⟩
  rw[Int.ediv_neg,Int.emod_neg]at this
  exact⟨by omega,this.2⟩
 ·exact(Int.ediv_emod_unique (a:=x) (b:=y) (q:=q) (r:=r) h).2 ⟨by rw[he,Int.mul_comm];omega,h0,by omega⟩
theorem a7A {z:Int} (h: -(HM:Int)<=z/\z<HM):b2I z= .tuple #[iw z,.int .i64 0]:=by unfold b2I;rw[if_pos h]
theorem a9Z {z:Int} (h:¬(-(HM:Int)<=z/\z<HM)):b2I z= .tuple #[wd 0,.int .i64 6]:=by unfold b2I;rw[if_neg h]
theorem mnn (a b:Nat):(-(a:Int))*(-(b:Int))=((a*b:Nat):Int):=by rw[Int.neg_mul_neg,Int.natCast_mul]
theorem mnp (a b:Nat):(-(a:Int))*(b:Int)= -((a*b:Nat):Int):=by rw[Int.neg_mul,Int.natCast_mul]
theorem mpn (a b:Nat):(a:Int)*(-(b:Int))= -((a*b:Nat):Int):=by rw[Int.mul_neg,Int.natCast_mul]
theorem b8w (x y:Int) (Q R:Nat) (hy0:y≠0) (hRlt:R<y.natAbs) (hQR:x.natAbs=Q*y.natAbs+R):
  x/y=(if(decide (x<0) !=decide (y<0))then -((if(decide (x<0)&& !decide (R=0))then Q+1 else Q:Nat):Int)else((if(decide (x<0)&& !decide (R=0))then Q+1 else Q:Nat):Int))/\
  x%y=((if(decide (x<0)&& !decide (R=0))then y.natAbs-R else R:Nat):Int):=by
 obtain⟨Y,hY⟩:=Int.eq_nat_or_neg y
 have hYn:y.natAbs=Y:=by rcases hY with h|h<;>rw[h]<;>simp
 rw[hYn]at hQR hRlt⊢
 have hs:(Q+1)*Y=Q*Y+Y:=by rw[Nat.add_mul,Nat.one_mul]
 refine b6e hy0 ?_ ?_ ?_
 ·by_cases hx:x<0
  ·by_cases hR:R=0
   ·rcases hY with hY|hY
    ·have:¬y<0:=by omega
     simp only[hx,this,hR,decide_true,decide_false,Bool.not_true,Bool.and_false,Bool.false_eq_true,if_false,if_true,bne_self_eq_false,Bool.true_bne,Bool.not_false]
     rw[hY,mnp];omega
    ·have:y<0:=by omega
     simp only[hx,this,hR,decide_true,Bool.not_true,Bool.and_false,Bool.false_eq_true,if_false,bne_self_eq_false]
     rw[hY,mpn];omega
   ·rcases hY with hY|hY
    ·have:¬y<0:=by omega
     simp only[hx,this,hR,decide_true,decide_false,Bool.not_false,Bool.and_true,if_true,Bool.true_bne]
     rw[hY,mnp,hs];omega
    ·have:y<0:=by omega
     simp only[hx,this,hR,decide_true,decide_false,Bool.not_false,Bool.and_true,if_true,bne_self_eq_false,Bool.false_eq_true,if_false]
     rw[hY,mpn,hs];omega
  ·rcases hY with hY|hY
   ·have:¬y<0:=by omega
    simp only[hx,this,decide_false,Bool.false_and,Bool.false_eq_true,if_false,bne_self_eq_false]
    rw[hY,c7K];omega
   ·have:y<0:=by omega
    simp only[hx,this,decide_true,decide_false,Bool.false_and,Bool.false_eq_true,if_false,Bool.bne_true,Bool.not_false,if_true]
    rw[hY,mnn];omega
 ·exact Int.natCast_nonneg _
 ·split
  ·rename_i h
   simp at h
   omega
  ·omega
end Go.Proofs.YtlmgkkjgdapnpaaGreatDoor
/- Contract of Parse. -/
namespace Go.WD
open Go.RX
theorem take_snoc {l:List UInt8} {p:Nat} (h:p<l.length):l.take (p+1)=l.take p++[l.getD p 0]:=by
 rw[List.take_succ_eq_append_getElem h,List.getD_eq_getElem?_getD,List.getElem?_eq_getElem h];rfl
end Go.WD
/- Contracts of the helpers of the laws of chapter 01. -/
namespace Go.WD
open Go.RX
theorem c9C {a b k:Nat} (h:k=a+b):2^a*2^b=2^k:=by rw[h,Nat.pow_add]
theorem d4g {k:Nat} (h:k=511):HM=2^k:=by
 have e:=a8V 7
 rw[b6b,e]
 generalize hb:64*7=b
 exact c9C (a:=63) (b:=b) (by omega)
theorem b8x {k:Nat} (h:k<=511):2^k<=HM:=by
 obtain⟨n,hn⟩:∃n:Nat,n=511:=⟨_,rfl⟩
 rw[d4g hn];exact Nat.pow_le_pow_right (by omega) (by omega)
end Go.WD
namespace Go.Proofs.YtlmgkkjgdapnpaaGreatDoor
open Go.Proofs.Tryz
open Go.RowKit Go.RX Go.WD Go.IntWalk
theorem b3q {o:Oper} {x y:Operand} {t u:TypeId} {a b:Int} {vs:List Value} (ho:o.op= .call ⟨.builtin .max,#[x,y],#[t,u]⟩) (hx:a0k [x,y] vs x= .int .i64 a) (hy:a0k [x,y] vs y= .int .i64 b):Yld prog o vs (.int .i64 (if b>a then b else a)):=fun w=>by
 have hos:o.op.operands.toList=[x,y]:=by simp[ho,Op.operands,Call.operands]
 rw[hos]
 simp only[execOp,ho,resolve,invoke,Sem.run_bind,Sem.run_pure,Result.andThen_ok,List.map_toArray,List.map_cons,List.map_nil,hx,hy]
 simp only[builtin,Sem.run_bind,run_max_int2,Result.andThen_ok]
 rfl
end Go.Proofs.YtlmgkkjgdapnpaaGreatDoor
/- strings.Builder: WriteByte, String. -/
namespace Go.RX
open Go.RowKit
theorem Sl.cells {H:PH} {sz n:Nat} {v:Value} {xs:List Value} (h:Sl H sz v n xs):v.cells= #[v]:=by
 obtain⟨_,a,c,h2,_⟩:=h;rw[h2];rfl
theorem Sl.one {H:PH} {sz n:Nat} {v:Value} {xs:List Value} (h:Sl H sz v n xs):v.cells.size=1/\a0p v.cells:=by
 rw[h.cells]
 obtain⟨_,a,c,h2,_⟩:=h
 refine⟨rfl,fun c hc=> ?_⟩
 simp at hc;rw[hc,h2];rfl
end Go.RX

/- Words to the base 2^64: plain. -/
import Derived.Test.YtmannekkmdockaaGreatDoorWdK
import Derived.Test.YtmannekkmdockaaGreatDoorRfB
open Bool renaming and_false->oO,and_true->oW,false_and->lP,not_false->jZ,not_true->oU,true_bne->oV
open Int renaming ediv_emod_unique->mZ,mul_comm->pF,neg_mul_neg->oN,ofNat_tdiv->oR,ofNat_tmod->oS
open List renaming getD_cons_zero->mY,replicate->eK
open Nat renaming div_add_mod'->iV,le_antisymm->oM,le_of_lt->pE,mul_add->eS,mul_div_mul_right->mN,pow_add->fE
open Go.IntKind renaming wrap->wQ
namespace Go.WD
open RX
theorem PW_lt_iff {i j:Nat}:PW i<PW j↔i<j:=by
 constructor
 ·intro h;rcases dV i j with h1|h1
  ·exact h1
  ·have:=Lr h1;omega
 ·intro h;have h1:=Lr (show i+1<=j from h);have h2:=Cf i;rw[y7]at h1;omega
def ul:List Nat->Nat
 |[]=>0
 |d::l=>d+18446744073709551616*ul l
def Eg (l:List Nat):Prop:=∀d∈l,d<18446744073709551616
theorem Eg.one {d:Nat} (h:d<18446744073709551616):Eg [d]:=fun e he=>by rw[aL]at he;omega
theorem Eg.take {l:List Nat} (h:Eg l) (k:Nat):Eg (l.take k):=fun d hd=>h d (cG hd)
theorem Eg.set {l:List Nat} (h:Eg l) (k:Nat) {x:Nat} (hx:x<18446744073709551616):Eg (l.set k x):=fun d hd=>by
 rcases List.mem_or_eq_of_mem_set hd with h1|h1
 ·exact h d h1
 ·omega
theorem Eg.zeros (n:Nat):Eg (eK n 0):=fun d hd=>by rw[List.mem_replicate]at hd;omega
theorem Eg.at {l:List Nat} (h:Eg l) (k:Nat):l.getD k 0<18446744073709551616:=by
 rw[aK];cases e:l[k]? with
 |none=>simp
 |some d=>exact h d (aG e)
theorem wo:∀(a b:List Nat),ul (a++b)=ul a+PW a.length*ul b
 |[],b=>by simp[ul,Lq]
 |d::a,b=>by
  rw[cL,ul,ul,wo a b,aO,y7,eS,<-Nat.add_assoc,<-cY,cX (PW a.length)]
theorem wq (d:Nat):ul [d]=d:=by simp[ul]
theorem Io:∀{l:List Nat},Eg l->ul l<PW l.length
 |[],_=>by simp[ul,Lq]
 |d::l,h=>by
  have h1:=Io (l:=l) fun e he=>h e (by simp[he]);have h2:=h d aD;rw[ul,aO,y7];omega
theorem Ry:∀n,ul (eK n 0)=0
 |0=>rfl
 |n+1=>by rw[List.replicate_succ,ul,Ry n]
theorem Uo {l:List Nat} {k:Nat} (h:k<l.length):ul (l.take (k+1))=ul (l.take k)+PW k*l.getD k 0:=by
 rw[HV h,wo,wq,bM,bY aA]
theorem ww {l:List Nat} {k:Nat} (h:k<l.length):ul (l.drop k)=l.getD k 0+18446744073709551616*ul (l.drop (k+1)):=by
 rw[Ou h];rfl
theorem wz (l:List Nat) {k:Nat} (h:k<=l.length):ul l=ul (l.take k)+PW k*ul (l.drop k):=by
 have:=wo (l.take k) (l.drop k)
 rwa[List.take_append_drop,bM,bY h]at this
theorem Kp:∀{l:List Nat} {k:Nat} (x:Nat),k<l.length->ul (l.set k x)+PW k*l.getD k 0=ul l+PW k*x
 |[],k,x,h=>by simp at h
 |d::l,0,x,_=>by simp[ul,Lq];omega
 |d::l,k+1,x,h=>by
  have ih:=Kp (l:=l) (k:=k) x (by simpa using h);have e:(d::l).getD (k+1) 0=l.getD k 0:=rfl;rw[List.set_cons_succ,ul,ul,e,y7,cX (PW k),cY,cY];have h1:18446744073709551616*ul (l.set k x)+18446744073709551616*(PW k*l.getD k 0)=18446744073709551616*ul l+18446744073709551616*(PW k*x):=by rw[<-eS,ih,eS]
  omega
def Um (l:List Nat):Prop:=∀k,ul l<PW k->l.length<=k
theorem Um.nil:Um []:=fun _ _=>bI _
theorem M9 {l:List Nat} {n:Nat} (hl:l.length=n+1) (h:l.getD n 0≠0):PW n<=ul l:=by
 have h1:=Uo (l:=l) (k:=n) aA;rw[aF aA]at h1;have:=cE (PW n) (show 1<=l.getD n 0 by omega);omega
theorem Um.of {l:List Nat} {n:Nat} (hl:l.length=n+1) (h:l.getD n 0≠0):Um l:=fun k hk=>by
 have:=PW_lt_iff.1 (aZ (M9 hl h) hk);omega
theorem Um.ge {l:List Nat} (h:Um l) {n:Nat} (hl:l.length=n+1):PW n<=ul l:=by
 rcases dV (ul l) (PW n)with h1|h1
 ·have:=h n h1;omega
 ·exact h1
theorem Um.len_le {a b:List Nat} (ha:Um a) (hb:Eg b) (h:ul a<=ul b):a.length<=b.length:=ha _ (aZ h (Io hb))
theorem Um.lt_of_len {a b:List Nat} (ha:Eg a) (hb:Um b) (h:a.length<b.length):ul a<ul b:=by
 obtain⟨n,hn⟩:∃n,b.length=n+1:=⟨b.length-1,aA⟩;exact aU (Io ha) (bD (Lr aA) (hb.ge hn))
theorem Um.pos {l:List Nat} (h:Um l):0<l.length↔0<ul l:=by
 constructor
 ·intro hl;obtain⟨n,hn⟩:∃n,l.length=n+1:=⟨l.length-1,aA⟩;exact aU (Cf n) (h.ge hn)
 ·intro hv;cases l with
  |nil=>simp[ul]at hv
  |cons d l=>simp
theorem IX {a b:List Nat} {i:Nat} (ha:Eg a) (hb:Eg b) (hia:i<a.length) (hib:i<b.length) (hd:a.drop (i+1)=b.drop (i+1)) (h:a.getD i 0<b.getD i 0):ul a<ul b:=by
 have e1:=wz a (show i+1<=a.length by omega);have e2:=wz b (show i+1<=b.length by omega);have f1:=Uo hia;have f2:=Uo hib;have g1:=Io (ha.take i);rw[bM,bY aA]at g1;have h2:=cE (PW i) (show a.getD i 0+1<=b.getD i 0 from h);rw[eS]at h2;rw[hd]at e1;omega
end Go.WD
namespace Go.Z
open Proofs.Tryz RowKit RX WD IntWalk
theorem Yo (a s:Nat) (h:s<=64):wQ .u64 ((a:Int)*2^min s (IntKind.bits .u64))=((a*2^s%18446744073709551616:Nat):Int):=by
 rw[show min s (IntKind.bits .u64)=s from bY h,show(2:Int)^s=((2^s:Nat):Int)from aD,Ox,IS]
theorem Ha (a b:Nat) (h:b<=a) (ha:a<18446744073709551616):wQ .u64 ((a:Int)-(b:Int))=((a-b:Nat):Int):=by
 rw[show(a:Int)-(b:Int)=((a-b:Nat):Int)from aA,Bm _ aA]
theorem xa (a b:Nat) (ha:a<18446744073709551616):wQ .u64 ((a:Int).tdiv (b:Int))=((a/b:Nat):Int):=by
 rw[<-oR,Bm];exact aZ (Nat.div_le_self _ _) ha
def qt (u n y1 y0:Nat):Nat:=(u*4294967296+n)/(y1*4294967296+y0)
section
variable {y1 y0 u n q r:Nat}
theorem ip (hy:y1<4294967296) (h0:y0<4294967296) (hp:0<y1) (hu:u=q*y1+r) (hQ:qt u n y1 y0<q) (hq:q<=4294967297):u=(q-1)*y1+(r+y1)/\qt u n y1 y0<=q-1/\(4294967296<=r+y1->q-1=qt u n y1 y0):=by
 obtain⟨p,rfl⟩:∃p,q=p+1:=⟨q-1,aA⟩;have e:u=p*y1+(r+y1):=by rw[hu,cK,cM];omega
 refine⟨e,aA,fun hb=> ?_⟩;have h1:p<=qt u n y1 y0:=wi (n:=n) (y0:=y0) e hp (by
  have:p*y0<=4294967296*4294967295:=bU aA aA;omega)
 show p=_;omega
end
theorem IY {q r y0 n:Nat} (hq:q<4294967296) (hr:r<4294967296) (h0:y0<4294967296) (hn:n<4294967296):q*y0<18446744073709551616/\4294967296*r<18446744073709551616/\4294967296*r+n<18446744073709551616:=by
 have:=bU (show q<=4294967295 by omega) (show y0<=4294967295 by omega);omega
theorem IZ {u n q y:Nat} (pY:q*y<=u*4294967296+n) (pX:u*4294967296+n-q*y<18446744073709551616):wQ .u64 (wQ .u64 (wQ .u64 (((u*4294967296:Nat):Int))+(n:Int))-wQ .u64 ((q*y:Nat):Int))=((u*4294967296+n-q*y:Nat):Int):=by
 simp only[IntKind.wrap_u64];omega
theorem JA {a c:Nat} (ha:a<4294967296) (hc:c<4294967296):a*4294967296<18446744073709551616/\a*4294967296+c<18446744073709551616:=aA
theorem N0 (u n1 n0:Nat):u*18446744073709551616+(n1*4294967296+n0)=(u*4294967296+n1)*4294967296+n0:=aA
theorem b32:(4294967296:Int)=((4294967296:Nat):Int):=rfl
theorem one1:(1:Int)=((1:Nat):Int):=rfl
set_option maxRecDepth 100000 in
set_option maxHeartbeats 4000000 in
theorem N1 (hi lo y:Nat) (hhi:hi<y) (hlo:lo<18446744073709551616) (hy:y<18446744073709551616):Det prog 237 [.int .u64 hi,.int .u64 lo,.int .u64 y] (.tuple #[.int .u64 (((hi*18446744073709551616+lo)/y:Nat):Int),.int .u64 (((hi*18446744073709551616+lo)%y:Nat):Int)]):=by
 refine Gz mixed F3 aB rfl (j3 ⟨_,rfl⟩ (j3 ?_ (j3 ⟨_,rfl⟩ (j3 ?_ ?_))))
 ·show Value.bool ((y:Int)==0)= .bool false;congr 1;simp;omega
 ·show Value.bool (decide ((y:Int)<=(hi:Int)))= .bool false;congr 1;simp;omega
 refine Ce (b:=decide (hi=0)) ?_ (fun h=> ?_) (fun h=> ?_)
 ·show Value.bool ((hi:Int)==0)=_;congr 1;rw[bC];simp
 ·have h:=oDt h;subst h;refine j3 ⟨_,rfl⟩ (j3 ?_ (Db ?_ rfl))
  ·show(y:Int)≠0;omega
  ·simp only[rxs,Am,xa lo y hlo,cD,bK,<-oS]
 have h:=oDf h;obtain⟨l0,l1⟩:=Ym (x:=y) aA;have l2:=Yl y;have l3:blen y<=64:=blen_le hy;obtain⟨s,hs⟩:∃s,s=64-blen y:=⟨_,rfl⟩;have a0e:s<=63:=aA;have tH:0<2^s:=Nat.pow_pos aA;have hlz:=IW y hy;rw[<-hs]at hlz;have hY1:y*2^s<18446744073709551616:=by
  have:=Nat.mul_lt_mul_of_lt_of_le l2 (aS (2^s)) tH
  rwa[<-fE,show blen y+s=64 from aA]at this
 have hY0:9223372036854775808<=y*2^s:=by
  have:=bL (2^s) l1
  rwa[<-fE,show blen y-1+s=63 from aA]at this
 have hH:hi*2^s+2^s<=y*2^s:=by
  have:=bL (2^s) hhi
  rwa[Nat.succ_mul]at this
 have hL:=IR hlo (r:=s) aA;have hU:(hi*18446744073709551616+lo)*2^s=(hi*2^s+lo/2^(64-s))*18446744073709551616+lo*2^s%18446744073709551616:=by
  have e1:lo*2^s/18446744073709551616=lo/2^(64-s):=by
   rw[il (r:=s) aA,mN _ _ tH]
  have e2:=Nat.div_add_mod (lo*2^s) 18446744073709551616;rw[e1]at e2;rw[cK,cK,Nat.mul_right_comm];omega
 have a2j:=cO (lo*2^s) (show 0<18446744073709551616 by omega);have hor:(hi*2^s%18446744073709551616)|||(lo/2^(64-s))=hi*2^s+lo/2^(64-s):=by
  rw[cP aA,IQ hL]
 generalize hYd:y*2^s=Y at hY1 hY0 hH;generalize hUd:hi*2^s+lo/2^(64-s)=u at hU hor;have huY:u<Y:=aA;generalize tM:lo*2^s%18446744073709551616=n at hU a2j;have hYs:Y/4294967296*4294967296+Y%4294967296=Y:=aA;have a1k:2147483648<=Y/4294967296:=aA;have xJ:Y/4294967296<4294967296:=aA;have hy0:Y%4294967296<4294967296:=cO _ aA;generalize a2k:Y/4294967296=y1 at hYs a1k xJ;generalize a4s:Y%4294967296=y0 at hYs hy0;have vV:n/4294967296<4294967296:=aA;have yC:n%4294967296<4294967296:=cO _ aA;generalize a4t:n/4294967296=n1 at vV;generalize a4u:n%4294967296=n0 at yC;have hnn:n=n1*4294967296+n0:=aA;have hcv:wQ .u64 (s:Int)=(s:Int):=Bm s aA;have rM:wQ .u64 ((64:Int)-(s:Int))=((64-s:Nat):Int):=by
  rw[show(64:Int)-(s:Int)=((64-s:Nat):Int)from aA,Bm _ aA]
 have a4v:=xa u y1 aA;refine Oq hlz rfl (j3 ⟨_,rfl⟩ (j3 ?_ (j3 ⟨_,rfl⟩ (j3 ?_ (j3 ?_ ?_)))))
 ·show(0:Int)<=wQ .u64 (s:Int);rw[hcv];omega
 ·show(0:Int)<=wQ .u64 (64-wQ .u64 (s:Int));rw[hcv,rM];omega
 ·simp only[Rq.holds,rxs,hcv,Yo y s aA,hYd,cP hY1,im,a2k];omega
 have xK:∀a,a-a/y1*y1=a%y1:=fun a=>by have:=iV a y1;omega
 have hdm:∀a,a/y1*y1<=a:=fun a=>Nat.div_mul_le_self a y1;refine⟨fun l=>l=[.int .u64 (Y:Nat),.int .u64 (s:Nat),.int .u64 (y1:Nat),.int .u64 (y0:Nat),.int .u64 (u:Nat),.int .u64 (n1:Nat),.int .u64 (n0:Nat),.int .u64 ((u/y1:Nat):Int),.int .u64 ((u%y1:Nat):Int)],?_,?_⟩
 ·have a2l:=wc (hi*2^s%18446744073709551616) (lo/2^(64-s)) (cO _ aA) (aU hL (by rw[Lu];exact aR aA aA));rw[hor]at a2l;have hm:=Bm (u/y1*y1) (by have:=hdm u;omega);have hsb:=Ha u (u/y1*y1) (hdm u) aA;rw[xK]at hsb;simp only[pd,cB,mY,rxs,hcv,rM,Yo y s aA,Yo hi s aA,Yo lo s aA,hYd,cP hY1,im,a2k,Yk Y hY1,a4s,Un lo (64-s) aA,a2l,tM,Yk n a2j,a4t,a4u,a4v,Ox,hm,hsb]
 rintro vals-rfl;simp only[cA,nA];refine⟨fun l=>l=[.int .u64 (qt u n1 y1 y0:Nat)],?_,?_⟩
 ·refine⟨fun l=>∃q r,l=[.int .u64 (q:Nat),.int .u64 (r:Nat)]/\u=q*y1+r/\qt u n1 y1 y0<=q/\q<=4294967297/\r<4294967296,fun l=>(intOf (l.getD 0 undef)).toNat,⟨u/y1,u%y1,rfl,(iV _ _).symm,IN vV aA,IP a1k aA hy0,aU (cO _ aA) (pE xJ)⟩,?_⟩;rintro vals-⟨q,r,rfl,hu,hQ,hq,hr⟩;simp only[cA,nA];have hQb:qt u n1 y1 y0<4294967296:=ik vV aA;refine j3 ⟨_,rfl⟩ (Ce (b:=decide (4294967296<=q)) ?_ (fun h=> ?_) (fun h=> ?_))
  ·simp only[rxs];congr 1;rw[bC,oDi,oDi];omega
  ·have h:=oDt h;have pX:qt u n1 y1 y0<q:=aA;obtain⟨d1,d2,d3⟩:=ip (n:=n1) xJ hy0 aA hu pX hq;refine j3 ⟨_,rfl⟩ (j3 ⟨_,rfl⟩ (Ce (b:=decide (4294967296<=r+y1)) ?_ (fun h2=> ?_) (fun h2=> ?_)))
   ·simp only[rxs,Im,Bm (r+y1) aA];congr 1;rw[bC,oDi,oDi];omega
   ·have h2:=oDt h2;show[Value.int .u64 (wQ .u64 ((q:Int)-1))]=_;rw[one1,Ha q 1 aA aA,d3 h2]
   ·have h2:=oDf h2;refine⟨⟨q-1,r+y1,?_,d1,d2,aA,aA⟩,?_⟩
    ·show[Value.int .u64 (wQ .u64 ((q:Int)-1)),Value.int .u64 (wQ .u64 ((r:Int)+(y1:Int)))]=_;rw[one1,Ha q 1 aA aA,Im,Bm (r+y1) aA]
    ·show(intOf (Value.int .u64 (wQ .u64 ((q:Int)-1)))).toNat<(intOf (Value.int .u64 (q:Nat))).toNat;rw[one1,Ha q 1 aA aA];simp only[intOf];omega
  ·have h:=oDf h;obtain⟨w1,w2,w3⟩:=IY (q:=q) (r:=r) (y0:=y0) (n:=n1) aA hr hy0 vV;refine j3 ⟨_,rfl⟩ (j3 ⟨_,rfl⟩ (j3 ⟨_,rfl⟩ (Ce (b:=decide (4294967296*r+n1<q*y0)) ?_ (fun h1=> ?_) (fun h1=> ?_))))
   ·simp only[rxs,b32,Ox,Im,Bm _ w1,Bm _ w2,Bm _ w3];congr 1;rw[bC,oDi,oDi];omega
   ·have h1:=oDt h1;have pX:qt u n1 y1 y0<q:=IM hu h1;obtain⟨d1,d2,d3⟩:=ip (n:=n1) xJ hy0 aA hu pX hq;refine j3 ⟨_,rfl⟩ (Ce (b:=decide (4294967296<=r+y1)) ?_ (fun h2=> ?_) (fun h2=> ?_))
    ·simp only[rxs,Im,Bm (r+y1) aA];congr 1;rw[bC,oDi,oDi];omega
    ·have h2:=oDt h2;show[Value.int .u64 (wQ .u64 ((q:Int)-1))]=_;rw[one1,Ha q 1 aA aA,d3 h2]
    ·have h2:=oDf h2;refine⟨⟨q-1,r+y1,?_,d1,d2,aA,aA⟩,?_⟩
     ·show[Value.int .u64 (wQ .u64 ((q:Int)-1)),Value.int .u64 (wQ .u64 ((r:Int)+(y1:Int)))]=_;rw[one1,Ha q 1 aA aA,Im,Bm (r+y1) aA]
     ·show(intOf (Value.int .u64 (wQ .u64 ((q:Int)-1)))).toNat<(intOf (Value.int .u64 (q:Nat))).toNat;rw[one1,Ha q 1 aA aA];simp only[intOf];omega
   ·have h1:=oDf h1;have pY:=wi (n:=n1) (y0:=y0) hu aA aA;show[Value.int .u64 (q:Nat)]=_;rw[show q=qt u n1 y1 y0 from oM pY hQ]
 rintro vals-rfl;simp only[cA,nA];have vB:=ik (y1:=y1) (y0:=y0) vV (show u<y1*4294967296+y0 by omega);obtain⟨q1,a1l⟩:∃q1,q1=qt u n1 y1 y0:=⟨_,rfl⟩;obtain⟨r1,a2m⟩:∃r1,r1=(u*4294967296+n1)%Y:=⟨_,rfl⟩;have hX:u*4294967296+n1=q1*Y+r1:=by
  rw[a1l,a2m];unfold qt;rw[hYs];exact(iV _ _).symm
 have hr1:r1<Y:=by rw[a2m];exact cO _ aA
 have a2n:=IZ (u:=u) (n:=n1) (q:=q1) (y:=Y) aA aA;rw[show u*4294967296+n1-q1*Y=r1 from aA]at a2n;rw[<-a1l];have a2o:=xa r1 y1 aA;refine j3 ⟨_,rfl⟩ (j3 ⟨_,rfl⟩ (j3 ⟨_,rfl⟩ (j3 ⟨_,rfl⟩ (j3 ⟨_,rfl⟩ (j3 ?_ ⟨fun l=>l=[.int .u64 (r1:Nat),.int .u64 ((r1/y1:Nat):Int),.int .u64 ((r1%y1:Nat):Int)],?_,?_⟩)))))
 ·show(y1:Int)≠0;omega
 ·have hm:=Bm (r1/y1*y1) (by have:=hdm r1;omega);have hsb:=Ha r1 (r1/y1*y1) (hdm r1) aA;rw[xK]at hsb;simp only[pd,cB,mY,rxs,b32,Ox,a2n,a2o,hm,hsb]
 rintro vals-rfl;simp only[cA,nA];refine⟨fun l=>l=[.int .u64 (qt r1 n0 y1 y0:Nat)],?_,?_⟩
 ·refine⟨fun l=>∃q r,l=[.int .u64 (q:Nat),.int .u64 (r:Nat)]/\r1=q*y1+r/\qt r1 n0 y1 y0<=q/\q<=4294967297/\r<4294967296,fun l=>(intOf (l.getD 0 undef)).toNat,⟨r1/y1,r1%y1,rfl,(iV _ _).symm,IN yC aA,IP a1k aA hy0,aU (cO _ aA) (pE xJ)⟩,?_⟩;rintro vals-⟨q,r,rfl,hu,hQ,hq,hr⟩;simp only[cA,nA];have hQb:qt r1 n0 y1 y0<4294967296:=ik yC aA;refine j3 ⟨_,rfl⟩ (Ce (b:=decide (4294967296<=q)) ?_ (fun h=> ?_) (fun h=> ?_))
  ·simp only[rxs];congr 1;rw[bC,oDi,oDi];omega
  ·have h:=oDt h;have pX:qt r1 n0 y1 y0<q:=aA;obtain⟨d1,d2,d3⟩:=ip (n:=n0) xJ hy0 aA hu pX hq;refine j3 ⟨_,rfl⟩ (Ce (b:=decide (4294967296<=r+y1)) ?_ (fun h2=> ?_) (fun h2=> ?_))
   ·simp only[rxs,Im,Bm (r+y1) aA];congr 1;rw[bC,oDi,oDi];omega
   ·have h2:=oDt h2;show[Value.int .u64 (wQ .u64 ((q:Int)-1))]=_;rw[one1,Ha q 1 aA aA,d3 h2]
   ·have h2:=oDf h2;refine⟨⟨q-1,r+y1,?_,d1,d2,aA,aA⟩,?_⟩
    ·show[Value.int .u64 (wQ .u64 ((q:Int)-1)),Value.int .u64 (wQ .u64 ((r:Int)+(y1:Int)))]=_;rw[one1,Ha q 1 aA aA,Im,Bm (r+y1) aA]
    ·show(intOf (Value.int .u64 (wQ .u64 ((q:Int)-1)))).toNat<(intOf (Value.int .u64 (q:Nat))).toNat;rw[one1,Ha q 1 aA aA];simp only[intOf];omega
  ·have h:=oDf h;obtain⟨w1,w2,w3⟩:=IY (q:=q) (r:=r) (y0:=y0) (n:=n0) aA hr hy0 yC;refine j3 ⟨_,rfl⟩ (j3 ⟨_,rfl⟩ (j3 ⟨_,rfl⟩ (Ce (b:=decide (4294967296*r+n0<q*y0)) ?_ (fun h1=> ?_) (fun h1=> ?_))))
   ·simp only[rxs,b32,Ox,Im,Bm _ w1,Bm _ w2,Bm _ w3];congr 1;rw[bC,oDi,oDi];omega
   ·have h1:=oDt h1;have pX:qt r1 n0 y1 y0<q:=IM hu h1;obtain⟨d1,d2,d3⟩:=ip (n:=n0) xJ hy0 aA hu pX hq;refine Ce (b:=decide (4294967296<=r+y1)) ?_ (fun h2=> ?_) (fun h2=> ?_)
    ·simp only[rxs,Im,Bm (r+y1) aA];congr 1;rw[bC,oDi,oDi];omega
    ·have h2:=oDt h2;show[Value.int .u64 (wQ .u64 ((q:Int)-1))]=_;rw[one1,Ha q 1 aA aA,d3 h2]
    ·have h2:=oDf h2;refine⟨⟨q-1,r+y1,?_,d1,d2,aA,aA⟩,?_⟩
     ·show[Value.int .u64 (wQ .u64 ((q:Int)-1)),Value.int .u64 (wQ .u64 ((r:Int)+(y1:Int)))]=_;rw[one1,Ha q 1 aA aA,Im,Bm (r+y1) aA]
     ·show(intOf (Value.int .u64 (wQ .u64 ((q:Int)-1)))).toNat<(intOf (Value.int .u64 (q:Nat))).toNat;rw[one1,Ha q 1 aA aA];simp only[intOf];omega
   ·have h1:=oDf h1;have pY:=wi (n:=n0) (y0:=y0) hu aA aA;show[Value.int .u64 (q:Nat)]=_;rw[show q=qt r1 n0 y1 y0 from oM pY hQ]
 rintro vals-rfl;simp only[cA,nA];have xM:=ik (y1:=y1) (y0:=y0) yC (show r1<y1*4294967296+y0 by omega);obtain⟨q0,a1m⟩:∃q0,q0=qt r1 n0 y1 y0:=⟨_,rfl⟩;obtain⟨r0,a2p⟩:∃r0,r0=(r1*4294967296+n0)%Y:=⟨_,rfl⟩;have hX0:r1*4294967296+n0=q0*Y+r0:=by
  rw[a1m,a2p];unfold qt;rw[hYs];exact(iV _ _).symm
 have hr0:r0<Y:=by rw[a2p];exact cO _ aA
 have a2q:=IZ (u:=r1) (n:=n0) (q:=q0) (y:=Y) aA aA;rw[show r1*4294967296+n0-q0*Y=r0 from aA]at a2q;obtain⟨f1,f2⟩:=L5 (U:=(hi*18446744073709551616+lo)*2^s) hX (by rw[hU,hnn];exact N0 u n1 n0) hX0 hr0;rw[<-hYd,mN _ _ tH]at f1;rw[<-hYd,Nat.mul_mod_mul_right]at f2;have f3:r0/2^s=(hi*18446744073709551616+lo)%y:=by rw[<-f2,Nat.mul_div_cancel _ tH]
 rw[<-a1m];have a4w:s<=64:=Nat.le_succ_of_le a0e;have a2r:q1<4294967296:=by rw[a1l];exact vB
 have a2s:q0<4294967296:=by rw[a1m];exact xM
 refine j3 ⟨_,rfl⟩ (j3 ⟨_,rfl⟩ (j3 ⟨_,rfl⟩ (j3 ⟨_,_,rfl⟩ (j3 ?_ (Db ?_ rfl)))))
 ·show(0:Int)<=(s:Int);omega
 ·simp only[rxs,Am,b32,Ox,a2q,Im,Bm (q1*4294967296) (JA a2r a2s).1,Bm (q1*4294967296+q0) (JA a2r a2s).2,Un r0 s a4w,f1,f3]
theorem JB (k:Nat) (hk:k<=9223372036854775807):wQ .i64 ((k:Int).tdiv 64)=((k/64:Nat):Int):=by
 rw[show(64:Int)=((64:Nat):Int)from rfl,<-oR,Rx _ aA]
theorem JC (k:Nat):(k:Int).tmod 64=((k%64:Nat):Int):=by
 rw[show(64:Int)=((64:Nat):Int)from rfl,<-oS]
theorem N2 (r:Nat) (h:r<64):wQ .u64 ((1:Int)*2^min r (IntKind.bits .u64))=((2^r:Nat):Int):=by
 have:=Yo 1 r aA;rw[cM,cP (by rw[Lu];exact dA aA h)]at this;exact this
theorem JD {A k:Nat} (h:A<PW k):blen A<=64*k:=blen_le (by rw[Yn]at h;exact h)
theorem N3 {x y q r:Int} (hy:y≠0) (he:x=q*y+r) (h0:0<=r) (h1:r<y.natAbs):x/y=q/\x%y=r:=by
 rcases Int.lt_or_lt_of_ne hy with h|h
 ·have:=(mZ (a:=x) (b:= -y) (q:= -q) (r:=r) aA).2 ⟨by rw[he,oN,pF];omega,h0,aA⟩;rw[Int.ediv_neg,Int.emod_neg]at this;exact⟨aA,this.2⟩
 ·exact(mZ (a:=x) (b:=y) (q:=q) (r:=r) h).2 ⟨by rw[he,pF];omega,h0,aA⟩
theorem Yp {z:Int} (h: -(HM:Int)<=z/\z<HM):told z= .tuple #[iw z,.int .i64 0]:=by unfold told;rw[if_pos h]
theorem Up {z:Int} (h:¬(-(HM:Int)<=z/\z<HM)):told z= .tuple #[wd 0,.int .i64 6]:=by unfold told;rw[if_neg h]
theorem mnn (a b:Nat):(-(a:Int))*(-(b:Int))=((a*b:Nat):Int):=by rw[oN,eG]
theorem mnp (a b:Nat):(-(a:Int))*(b:Int)= -((a*b:Nat):Int):=by rw[Int.neg_mul,eG]
theorem mpn (a b:Nat):(a:Int)*(-(b:Int))= -((a*b:Nat):Int):=by rw[Int.mul_neg,eG]
theorem JE (x y:Int) (Q R:Nat) (hy0:y≠0) (a4x:R<y.natAbs) (hQR:x.natAbs=Q*y.natAbs+R):
  x/y=(if(decide (x<0) !=decide (y<0))then -((if(decide (x<0)&& !decide (R=0))then Q+1 else Q:Nat):Int)else((if(decide (x<0)&& !decide (R=0))then Q+1 else Q:Nat):Int))/\
  x%y=((if(decide (x<0)&& !decide (R=0))then y.natAbs-R else R:Nat):Int):=by
 obtain⟨Y,hY⟩:=Int.eq_nat_or_neg y;have hYn:y.natAbs=Y:=by rcases hY with h|h<;>rw[h]<;>simp
 rw[hYn]at hQR a4x⊢;have hs:(Q+1)*Y=Q*Y+Y:=by rw[cK,cM]
 refine N3 hy0 ?_ ?_ ?_
 ·by_cases hx:x<0
  ·by_cases hR:R=0
   ·rcases hY with hY|hY
    ·have:¬y<0:=aA;simp only[hx,this,hR,decide_true,decide_false,oU,oO,bZ,if_false,if_true,bne_self_eq_false,oV,jZ];rw[hY,mnp];omega
    ·have:y<0:=aA;simp only[hx,this,hR,decide_true,oU,oO,bZ,if_false,bne_self_eq_false];rw[hY,mpn];omega
   ·rcases hY with hY|hY
    ·have:¬y<0:=aA;simp only[hx,this,hR,decide_true,decide_false,jZ,oW,if_true,oV];rw[hY,mnp,hs];omega
    ·have:y<0:=aA;simp only[hx,this,hR,decide_true,decide_false,jZ,oW,if_true,bne_self_eq_false,bZ,if_false];rw[hY,mpn,hs];omega
  ·rcases hY with hY|hY
   ·have:¬y<0:=aA;simp only[hx,this,decide_false,lP,bZ,if_false,bne_self_eq_false];rw[hY,Ox];omega
   ·have:y<0:=aA;simp only[hx,this,decide_true,decide_false,lP,bZ,if_false,Bool.bne_true,jZ,if_true];rw[hY,mnn];omega
 ·exact Int.natCast_nonneg _
 ·split
  ·rename_i h;simp at h;omega
  ·omega
end Go.Z
namespace Go.WD
open RX
theorem take_snoc {l:List UInt8} {p:Nat} (h:p<l.length):l.take (p+1)=l.take p++[l.getD p 0]:=by
 rw[List.take_succ_eq_append_getElem h,aK,aJ h];rfl
theorem N4 {a b k:Nat} (h:k=a+b):2^a*2^b=2^k:=by rw[h,fE]
theorem pow_HM {k:Nat} (h:k=511):HM=2^k:=by
 have e:=Yn 7;rw[Ru,e];generalize hb:64*7=b;exact N4 (a:=63) (b:=b) aA
theorem N5 {k:Nat} (h:k<=511):2^k<=HM:=by
 obtain⟨n,hn⟩:∃n:Nat,n=511:=⟨_,rfl⟩;rw[pow_HM hn];exact aR aA aA
end Go.WD
namespace Go.RX
open RowKit
theorem Sl.cells {H:PH} {sz n:Nat} {v:Value} {xs:List Value} (h:Sl H sz v n xs):v.cells= #[v]:=by
 obtain⟨_,a,c,h2,_⟩:=h;rw[h2];rfl
theorem Sl.one {H:PH} {sz n:Nat} {v:Value} {xs:List Value} (h:Sl H sz v n xs):v.cells.size=1/\o0 v.cells:=by
 rw[h.cells];obtain⟨_,a,c,h2,_⟩:=h;refine⟨rfl,fun c hc=> ?_⟩;simp at hc;rw[hc,h2];rfl
end Go.RX

/- Lemmas of the proof. -/
import Derived.Test.YtmannekkmdockaaGreatDoorRxX
open List renaming getElem?_set_ne->fP,getElem?_set_self->fJ
open Go.IntKind renaming wrap->wQ
namespace Go.GS
theorem b9N:∀(n:Nat) (l r:List Nat),l.length<=n->r.length<=n->Be (Av l r)=Av (Be l) (Be r):=by
 intro n;induction n using Nat.strongRecOn with
 |_ n ih=>
  intro l r hl hr
  match l,r with
  |[],[]=>simp[Av,Be]
  |[],[b]=>simp[Av,Be]
  |[],b::c::r=>simp[Av,Be]
  |[a],[]=>simp[Av,Be]
  |a::c::l,[]=>simp[Av,Be]
  |[a],[b]=>simp[Av,Be]
  |[a],b::c::r=>cases hh:Be r<;>simp[Av,Be,hh]
  |a::c::l,[b]=>cases hh:Be l<;>simp[Av,Be,hh]
  |a::c::l,b::d::r=>
   simp only[aO]at hl hr;simp only[Av,Be];rw[ih (n-2) aA l r aA aA]
def Nb (x:Nat):Nat:=(x/2&&&6148914691236517205)+(x&&&6148914691236517205)
def Rz (x:Nat):Nat:=(x/4&&&3689348814741910323)+(x&&&3689348814741910323)
def yo (x:Nat):Nat:=(x/16+x)&&&1085102592571150095
theorem e0c {x:Nat} (hx:x<M64):∃l,l.length=8/\(∀d∈l,d<=8)/\yo (Rz (Nb x))=Fd 8 l/\l.sum=card x/\Nb x<M64/\Rz (Nb x)<M64/\Rz (Nb x)/16+Rz (Nb x)<M64:=by
 have b1:=d3E x 64;have h1:=LO (s:=1) (n:=32) (B:=1) (l:=Fq x 64) (by rw[LN]) b1 aC (by rw[LM 64 x hx];exact hx);rw[LM 64 x hx]at h1;have l1:=ym 32 (Fq x 64) (LN x 64);have c1:∀d∈Ez (Fq x 64),d<=2:=yk (Zd b1) (Zd (yl 1 b1));have e1:Nb x=Fd 2 (Ez (Fq x 64)):=h1;have m1:Fd 2 (Ez (Fq x 64))<M64:=yn (m:=0) (by rw[l1.2];decide) fun d hd=>aZ (c1 d hd) aC;generalize Ez (Fq x 64)=q1 at*;have h2:=LO (s:=2) (n:=16) (B:=2) (l:=q1) l1.2 c1 aC m1;have l2:=ym 16 q1 l1.2;have c2:∀d∈Ez q1,d<=4:=yk (Zd c1) (Zd (yl 1 c1));have e2:Rz (Fd 2 q1)=Fd 4 (Ez q1):=h2;have m2:Fd 4 (Ez q1)<M64:=yn (m:=0) (by rw[l2.2];decide) fun d hd=>aZ (c2 d hd) aC;generalize Ez q1=q2 at*;have h3:Fd 4 q2/16=Fd 4 (q2.drop 1):=Zb 1 q2 fun d hd=>aZ (c2 d hd) aC;have l3:=ym 8 q2 l2.2;have c3:∀d∈Av q2 (q2.drop 1),d<=8:=yk c2 (yl 1 c2);have n3:(Av q2 (q2.drop 1)).length=16:=by rw[c8x _ _ aD,l2.2]
 have e3:Fd 4 q2/16+Fd 4 q2=Fd 4 (Av q2 (q2.drop 1)):=by rw[h3,Zc,Nat.add_comm]
 have m3:Fd 4 (Av q2 (q2.drop 1))<M64:=yn (m:=0) (by rw[n3];decide) fun d hd=>aZ (c3 d hd) aC;have h4:=yj (s:=4) 8 (Av q2 (q2.drop 1)) (fun d hd=>aZ (c3 d hd) aC) (by rw[n3];decide);have e4:Be (Av q2 (q2.drop 1))=Ez q2:=b9N 16 _ _ (by rw[l2.2];decide) (by simp[l2.2]);refine⟨Ez q2,l3.2,by rw[<-e4];exact Zd c3,?_,?_,by rw[e1];exact m1,by rw[e1,e2];exact m2,by rw[e1,e2,e3];exact m3⟩
 ·rw[e1,e2];unfold yo;rw[e3,<-e4];exact h4
 ·rw[l3.1,l2.1,l1.1,c2J]
def Dl (k x:Nat):Nat:=x+x/2^k
theorem e0d {l:List Nat} (hl:l.length=8) (hd:∀d∈l,d<=8):Dl 8 (Fd 8 l)<M64/\Dl 16 (Dl 8 (Fd 8 l))<M64/\Dl 32 (Dl 16 (Dl 8 (Fd 8 l)))<M64/\Dl 32 (Dl 16 (Dl 8 (Fd 8 l)))%128=l.sum:=by
 match l,hl with
 |[a,b,c,d,e,f,g,h],_=>
  simp only[aP,bP,or_false,forall_eq_or_imp,forall_eq]at hd;obtain⟨h1,h2,h3,h4,h5,h6,h7,h8⟩:=hd;have q1:Dl 8 (Fd 8 [a,b,c,d,e,f,g,h])=Fd 8 [a+b,b+c,c+d,d+e,e+f,f+g,g+h,h]:=by
   unfold Dl;rw[Zb 1 (s:=8) _ (by simp only[aP,bP,or_false,forall_eq_or_imp,forall_eq];omega),<-Zc];rfl
  have q2:Dl 16 (Fd 8 [a+b,b+c,c+d,d+e,e+f,f+g,g+h,h])=Fd 8 [a+b+(c+d),b+c+(d+e),c+d+(e+f),d+e+(f+g),e+f+(g+h),f+g+h,g+h,h]:=by
   unfold Dl;rw[Zb 2 (s:=8) _ (by simp only[aP,bP,or_false,forall_eq_or_imp,forall_eq];omega),<-Zc];rfl
  have q3:Dl 32 (Fd 8 [a+b+(c+d),b+c+(d+e),c+d+(e+f),d+e+(f+g),e+f+(g+h),f+g+h,g+h,h])=Fd 8 [a+b+(c+d)+(e+f+(g+h)),b+c+(d+e)+(f+g+h),c+d+(e+f)+(g+h),d+e+(f+g)+h,e+f+(g+h),f+g+h,g+h,h]:=by
   unfold Dl;rw[Zb 4 (s:=8) _ (by simp only[aP,bP,or_false,forall_eq_or_imp,forall_eq];omega),<-Zc];rfl
  rw[q1,q2,q3];simp only[Fd,M64,List.sum_cons,List.sum_nil,show(2:Nat)^8=256 from aC];refine⟨aA,aA,aA,aA⟩
end Go.GS
namespace Go.RX
open RowKit GS
section
variable {P:Program} {ρ:List Value} {a b:SV} {A B:Nat}
theorem Du (ha:D P ρ a=uv A) (hb:D P ρ b=uv B) (hA:A<M64) (hB:B<M64):D P ρ (.op2 .or .u64 a b)=uv (A|||B):=by
 show Aa .or .u64 (intOf (D P ρ a)) (intOf (D P ρ b))=_;rw[ha,hb];show Value.int .u64 _= .int .u64 _;congr 1;exact Go.GS.u64_or hA hB
theorem Gn (ha:D P ρ a=uv A) (hb:D P ρ b=uv B) (hA:A<M64) (hB:B<M64):D P ρ (.op2 .and .u64 a b)=uv (A&&&B):=by
 show Aa .and .u64 (intOf (D P ρ a)) (intOf (D P ρ b))=_;rw[ha,hb];show Value.int .u64 _= .int .u64 _;congr 1;exact Go.GS.u64_and hA hB
theorem Uy (ha:D P ρ a=uv A) (hb:D P ρ b=uv B) (hA:A<M64) (hB:B<M64):D P ρ (.op2 .andNot .u64 a b)=uv (sdf A B):=by
 show Aa .andNot .u64 (intOf (D P ρ a)) (intOf (D P ρ b))=_;rw[ha,hb];show Value.int .u64 _= .int .u64 _;congr 1;exact Go.GS.u64_andn hA hB
theorem Pn {n:Nat} {k:IntKind} (ha:D P ρ a=uv A) (hb:D P ρ b= .int k (n:Nat)) (hn:n<=64):D P ρ (.op2 .shr .u64 a b)=uv (A/2^n):=by
 show Aa .shr .u64 (intOf (D P ρ a)) (intOf (D P ρ b))=_;rw[ha,hb];show Value.int .u64 _= .int .u64 _;congr 1;have:=Go.GS.u64_shr (a:=A) (k:=n);rw[bY hn]at this;exact this
theorem d7r {n:Nat} {k:IntKind} (ha:D P ρ a=uv A) (hb:D P ρ b= .int k (n:Nat)) (hn:n<64):D P ρ (.op2 .shl .u64 a b)=uv (A*2^n%M64):=by
 show Aa .shl .u64 (intOf (D P ρ a)) (intOf (D P ρ b))=_;rw[ha,hb];show Value.int .u64 _= .int .u64 _;congr 1;exact Go.GS.u64_shl hn
theorem Hg {n:Nat} {k:IntKind} (hb:D P ρ b= .int k (n:Nat)) (hn:n<64):D P ρ (.op2 .shl .u64 (.k (.int .u64 1)) b)=uv (2^n):=by
 rw[d7r (A:=1) rfl hb hn,d3z hn]
theorem Uz (ha:D P ρ a=uv A) (hb:D P ρ b=uv B) (h:A+B<M64):D P ρ (.op2 .add .u64 a b)=uv (A+B):=by
 show Aa .add .u64 (intOf (D P ρ a)) (intOf (D P ρ b))=_;rw[ha,hb];show Value.int .u64 (wQ .u64 ((A:Int)+(B:Int)))= .int .u64 _;congr 1;rw[IntKind.wrap_u64];simp only[M64]at h;omega
theorem Zg (ha:D P ρ a=uv A) (hb:D P ρ b=uv B) (hA:A<M64) (h:B<=A):D P ρ (.op2 .sub .u64 a b)=uv (A-B):=by
 show Aa .sub .u64 (intOf (D P ρ a)) (intOf (D P ρ b))=_;rw[ha,hb];show Value.int .u64 _= .int .u64 _;congr 1;exact Go.GS.u64_sub hA h
theorem yp (ha:D P ρ a=uv A) (hA:A<M64):D P ρ (.op1 .neg .u64 a)=uv ((M64-A)%M64):=by
 show unV .neg .u64 (intOf (D P ρ a))=_;rw[ha];show Value.int .u64 _= .int .u64 _;congr 1;exact Go.GS.u64_neg hA
theorem Va {n:Nat} {k:IntKind} (ha:D P ρ a=uv A) (hA:A<M64) (hb:D P ρ b= .int k (n:Nat)) (hn:n<=64):D P ρ (.op2 .eql .u64 (.op2 .and .u64 (.op2 .shr .u64 a b) (.k (.int .u64 1))) (.k (.int .u64 1)))= .bool (Go.GS.bit A n):=by
 show Aa .eql .u64 (intOf (D P ρ (.op2 .and .u64 (.op2 .shr .u64 a b) (.k (.int .u64 1))))) 1=_;rw[Gn (B:=1) (Pn ha hb hn) rfl (yf hA) aC,d3B];cases Go.GS.bit A n<;>rfl
theorem Zh {x y:Int} (ha:D P ρ a=ii x) (hb:D P ρ b=ii y) (h1: -9223372036854775808<=x+y) (h2:x+y<9223372036854775808):D P ρ (.op2 .add .i64 a b)=ii (x+y):=by
 show Aa .add .i64 (intOf (D P ρ a)) (intOf (D P ρ b))=_;rw[ha,hb];show Value.int .i64 (wQ .i64 (x+y))= .int .i64 _;congr 1;rw[IntKind.wrap_i64];omega
theorem Ks {x y:Int} (ha:D P ρ a=ii x) (hb:D P ρ b=ii y) (h1: -9223372036854775808<=x-y) (h2:x-y<9223372036854775808):D P ρ (.op2 .sub .i64 a b)=ii (x-y):=by
 show Aa .sub .i64 (intOf (D P ρ a)) (intOf (D P ρ b))=_;rw[ha,hb];show Value.int .i64 (wQ .i64 (x-y))= .int .i64 _;congr 1;rw[IntKind.wrap_i64];omega
theorem d7s {m:Nat} (hm:m<M64):wQ .i64 ((BitVec.ofInt 64 (wQ .i64 (m:Int))&&&BitVec.ofInt 64 127).toNat:Nat)=((m%128:Nat):Int):=by
 have e:BitVec.ofInt 64 (wQ .i64 (m:Int))=BitVec.ofNat 64 m:=by
  apply BitVec.eq_of_toNat_eq;simp only[M64]at hm;rw[IntKind.wrap_i64,BitVec.toNat_ofInt,BitVec.toNat_ofNat,cP (show m<2^64 by omega)];omega
 have e2:BitVec.ofInt 64 127=BitVec.ofNat 64 127:=aC;rw[e,e2];have e3:(BitVec.ofNat 64 m&&&BitVec.ofNat 64 127).toNat=m%128:=by
  rw[BitVec.toNat_and,BitVec.toNat_ofNat,BitVec.toNat_ofNat,cP (show m<2^64 by simp only[M64]at hm;omega)];exact Nat.and_two_pow_sub_one_eq_mod m 7
 have e4:∀n:Nat,n<128->wQ .i64 (n:Int)=n:=fun n h=>by rw[IntKind.wrap_i64];omega
 rw[e3,e4 _ (cO _ aC)]
theorem e0e {m:Nat} {P:Program} {ρ:List Value} {y:SV} (hy:D P ρ y=uv m) (hm:m<M64):D P ρ (.op2 .and .i64 (.cv .i64 y) (.k (.int .i64 127)))=ii ((m%128:Nat):Int):=by
 show Aa .and .i64 (wQ .i64 (intOf (D P ρ y))) 127=_;rw[hy];have:=d7s hm;show Value.int .i64 _=Value.int .i64 _;exact congrArg (Value.int .i64) this
theorem i6 {n:Nat} (ha:D P ρ a=ii (n:Nat)) (h:n+1<9223372036854775808):D P ρ (.op2 .add .i64 a (.k (.int .i64 1)))=ii ((n+1:Nat):Int):=by
 rw[Zh ha (y:=1) rfl aA aA];rfl
end
theorem z8 {P:Program} {ρ:List Value} {a:SV} {x:Value} (h:D P ρ a=x):[a].map (D P ρ)=[x]:=by rw[aN,h];rfl
theorem i7 {P:Program} {ρ:List Value} {a b:SV} {x y:Value} (h:D P ρ a=x) (h2:D P ρ b=y):[a,b].map (D P ρ)=[x,y]:=by rw[aN,h,z8 h2]
theorem Bo {P:Program} {ρ:List Value} {a b c:SV} {x y z:Value} (h:D P ρ a=x) (h2:D P ρ b=y) (h3:D P ρ c=z):[a,b,c].map (D P ρ)=[x,y,z]:=by rw[aN,h,i7 h2 h3]
theorem Hz {P:Program} {ρ:List Value} {a b c d:SV} {x y z u:Value} (h:D P ρ a=x) (h2:D P ρ b=y) (h3:D P ρ c=z) (h4:D P ρ d=u):[a,b,c,d].map (D P ρ)=[x,y,z,u]:=by rw[aN,h,Bo h2 h3 h4]
end Go.RX
namespace Go.Z
open Proofs.Tryz RowKit RX GS
def SV1 (x:SV):SV:= .op2 .add .u64 (.op2 .and .u64 (.op2 .shr .u64 x (kU 1)) (kU 6148914691236517205)) (.op2 .and .u64 x (kU 6148914691236517205))
def SV2 (x:SV):SV:= .op2 .add .u64 (.op2 .and .u64 (.op2 .shr .u64 x (kU 2)) (kU 3689348814741910323)) (.op2 .and .u64 x (kU 3689348814741910323))
def SV3 (x:SV):SV:= .op2 .and .u64 (.op2 .add .u64 (.op2 .shr .u64 x (kU 4)) x) (kU 1085102592571150095)
def SV4 (k:Int) (x:SV):SV:= .op2 .add .u64 x (.op2 .shr .u64 x (.k (.int .u64 (k))))
theorem c8B {s:Nat} (hs:s<M64):Det prog 138 [uv s] (ii (card s)):=by
 obtain⟨l,h1,h2,h3,h4,h5,h6,h7⟩:=e0c hs;obtain⟨g1,g2,g3,g4⟩:=e0d h1 h2;refine Gz mixed d3c aB rfl (j3 ⟨_,rfl⟩ (Db ?_ rfl));have e1:D prog [uv s] (SV1 (.v 0))=uv (Nb s):=Uz (Gn (Pn (n:=1) rfl rfl aC) (B:=6148914691236517205) rfl (yf (x:=1) hs) aC) (Gn (B:=6148914691236517205) rfl rfl hs aC) h5;generalize tX:SV1 (.v 0)=x1 at e1;have e2:D prog [uv s] (SV2 x1)=uv (Rz (Nb s)):=Uz (Gn (Pn (n:=2) e1 rfl aC) (B:=3689348814741910323) rfl (yf (x:=2) h5) aC) (Gn (B:=3689348814741910323) e1 rfl h5 aC) h6;generalize rG:SV2 x1=x2 at e2;have e3:D prog [uv s] (SV3 x2)=uv (yo (Rz (Nb s))):=Gn (Uz (Pn (n:=4) e2 rfl aC) e2 h7) (B:=1085102592571150095) rfl h7 aC;generalize vY:SV3 x2=x3 at e3;rw[h3]at e3;have hF:Go.GS.Fd 8 l<M64:=aZ (Nat.le_add_right _ _) g1;have e4:D prog [uv s] (SV4 8 x3)=uv (Dl 8 (Go.GS.Fd 8 l)):=Uz e3 (Pn (n:=8) e3 rfl aC) g1;generalize hx4:SV4 8 x3=x4 at e4;have e5:D prog [uv s] (SV4 16 x4)=uv (Dl 16 (Dl 8 (Go.GS.Fd 8 l))):=Uz e4 (Pn (n:=16) e4 rfl aC) g2;generalize hx5:SV4 16 x4=x5 at e5;have e6:D prog [uv s] (SV4 32 x5)=uv (Dl 32 (Dl 16 (Dl 8 (Go.GS.Fd 8 l)))):=Uz e5 (Pn (n:=32) e5 rfl aC) g3;generalize hx6:SV4 32 x5=x6 at e6;generalize Dl 32 (Dl 16 (Dl 8 (Go.GS.Fd 8 l)))=m at e6 g3 g4;have e7:=e0e e6 g3;rw[g4,h4]at e7;rw[<-hx6,<-hx5,<-hx4,<-vY,<-rG,<-tX]at e7;exact e7
theorem LP (x:Int):Det prog 158 [ii x] (.bool false):=by
 refine Gz mixed d3f aB rfl (j3 ⟨_,rfl⟩ (Db ?_ rfl));show Value.bool (x !=x)=_;simp
def Dw (x y:Int):Int:=if x<y then -1 else if x>y then 1 else 0
theorem LQ (x y:Int):Det prog 93 [ii x,ii y] (ii (Dw x y)):=by
 refine Gz mixed d3e aB rfl (Oq (LP x) rfl (Oq (LP y) rfl ?_));refine j3 ⟨_,rfl⟩ (HA rfl (j3 ⟨_,rfl⟩ (HA rfl (j3 ⟨_,rfl⟩ (j3 ⟨_,rfl⟩ ?_)))));refine Ce (b:=decide (x<y)) rfl (fun h=> ?_) (fun h=> ?_)
 ·have h:=oDt h;refine Db ?_ rfl;unfold Dw;rw[if_pos h];rfl
 ·have h:=oDf h;refine Ce (b:=decide (x>y)) rfl (fun h'=>Db ?_ rfl) (fun h'=>Db ?_ rfl)
  ·have h':=oDt h';unfold Dw;rw[if_neg h,if_pos h'];rfl
  ·have h':=oDf h';unfold Dw;rw[if_neg h,if_neg h'];rfl
abbrev SI (H:PH) (v:Value) (l:List Int):Prop:=SE H 1 (fun z:Int=>[ii z]) v l
abbrev SU (H:PH) (v:Value) (l:List Nat):Prop:=SE H 1 (fun s:Nat=>[uv s]) v l
def s7:List Int->List Int->Int
 |[],[]=>0
 |[],_::_=> -1
 |_::_,[]=>1
 |x::l,y::m=>if Dw x y≠0 then Dw x y else s7 l m
theorem m7 {α:Type} {l:List α} {i:Nat} (h:i<l.length):∃x,l[i]? =some x/\l.drop i=x::l.drop (i+1):=
 ⟨l[i],aJ h,cV h⟩
section
variable {H:PH} {u v:Value} {l m:List Int}
theorem c8C (hu:SI H u l) (hv:SI H v m):Asks prog 174 [u,v] H (ii (s7 l m)):=by
 refine i9 mixed d3d ?_;have hl:=hu.len;have hm:=hv.len;refine j1 el_int hu ?_;refine Bf (α:=Nat×Int) (fun⟨i,p⟩=>[ii p,ii (i:Nat)]) (fun⟨i,p⟩=>i<=l.length/\s7 (l.drop i) (m.drop i)=s7 l m) (fun⟨i,p⟩=>l.length-i) ((0,0)) rfl (⟨bI _,rfl⟩) fun⟨i,p⟩ hQ=> ?_;obtain⟨hi,hc⟩:=hQ;refine d9 (d9 ?_);refine g7 (b:=decide (((i:Nat):Int)<(l.length:Nat))) rfl (fun h=> ?_) (fun h=> ?_)
 ·replace h:=oDt h;have qB:i<l.length:=aA;obtain⟨x,hx,tK⟩:=m7 qB;refine j4 el_int hu hx fun _=> ?_;refine j1 el_int hv ?_;refine d9 ?_;refine g7 (b:=decide (((i:Nat):Int)≥(m.length:Nat))) rfl (fun h2=> ?_) (fun h2=> ?_)
  ·replace h2:=oDt h2;have:m.drop i=[]:=eD aA;rw[tK,this]at hc;exact g6 rfl ⟨rfl,by rw[<-hc];rfl⟩
  ·replace h2:=oDf h2;obtain⟨y,hy,wO⟩:=m7 (l:=m) (i:=i) aA;refine j4 el_int hv hy fun _=> ?_;rw[tK,wO]at hc;refine y8 (LQ x y) rfl ?_;refine d9 ?_;refine j8 (p:=(Dw x y≠0)) (by show Value.bool (Dw x y !=0)=_;congr 1;by_cases e:Dw x y=0<;>simp[e]) (fun h3=> ?_) fun h3=> ?_
   ·exact g6 rfl ⟨rfl,by rw[<-hc];simp only[s7];rw[if_pos h3];rfl⟩
   ·exact⟨(i+1,p),by show l.length-(i+1)<l.length-i;omega,(i7 rfl (i6 rfl aA)),⟨⟨by show i+1<=_;omega,by rw[<-hc];simp only[s7];rw[if_neg h3]⟩,rfl⟩⟩
 ·replace h:=oDf h;have pY:i=l.length:=aA;subst pY;rw[List.drop_length]at hc;refine j1 el_int hu ?_;refine j1 el_int hv ?_;refine d9 (d9 ?_);refine g7 (b:=decide (((l.length:Nat):Int)<(m.length:Nat))) rfl (fun h2=> ?_) (fun h2=> ?_)
  ·replace h2:=oDt h2;obtain⟨y,hy,wO⟩:=m7 (l:=m) (i:=l.length) aA;rw[wO]at hc;exact g6 rfl ⟨rfl,by rw[<-hc];rfl⟩
  ·replace h2:=oDf h2;have:m.drop l.length=[]:=eD aA;rw[this]at hc;exact g6 rfl ⟨rfl,by rw[<-hc];rfl⟩
end
end Go.Z
namespace Go.GS
def elt (a b:Nat×Nat):Prop:=a.1<b.1\/(a.1=b.1/\a.2<b.2)
structure GV (n:Nat) (es:List (Nat×Nat)):Prop where
 n1:1<=n
 n64:n<=64
 len:es.length<=200
 ed:∀e∈es,e.1<e.2/\e.2<n
 ord:es.Pairwise elt
theorem GV.tail {n:Nat} {e:Nat×Nat} {es:List (Nat×Nat)} (h:GV n (e::es)):GV n es:=
 ⟨h.n1,h.n64,by have:=h.len;simp only[aO]at this;omega,fun x hx=>h.ed x (cF _ hx),(List.pairwise_cons.1 h.ord).2⟩
theorem GV.next {n:Nat} {es:List (Nat×Nat)} (h:GV n es) {i:Nat} {a b:Nat×Nat} (ha:es[i]? =some a) (hb:es[i+1]? =some b):elt a b:=by
 obtain⟨h1,rfl⟩:=aH.1 ha;obtain⟨h2,rfl⟩:=aH.1 hb;exact cU.1 h.ord i (i+1) h1 h2 aA
theorem GV.mem {n:Nat} {es:List (Nat×Nat)} (h:GV n es) {i:Nat} {a:Nat×Nat} (ha:es[i]? =some a):a.1<a.2/\a.2<n:=h.ed a (aG ha)
end Go.GS
namespace Go.Z
open Proofs.Tryz RowKit RX GS
theorem bF {p:Prop} [Decidable p] (h:¬p):Value.bool (decide p)= .bool false:=by rw[decide_eq_false h]
def gv (n:Nat) (w:Value):Value:= .agg #[ii n,w]
abbrev SG (H:PH) (w:Value) (es:List (Nat×Nat)):Prop:=SE H 2 ec w es
theorem t8 {H:PH} {n:Nat} {w:Value} {es:List (Nat×Nat)} (h:SG H w es):(gv n w).cells.size=2/\o0 (gv n w).cells:=by
 refine⟨rfl,fun c hc=> ?_⟩;rw[gv,Fj]at hc;simp only[aP,bP,or_false]at hc;rcases hc with rfl|rfl
 ·rfl
 ·exact h.one.2 _ (by rw[h.cells];simp)
theorem sc_int:Sc prog 3:=⟨aB,aB,aB⟩
theorem Nc:Sc prog 54:=⟨aB,aB,aB⟩
theorem ar_2:Ar prog 99 3 2:=⟨aB,aB,aB,aB,sc_int⟩
theorem kq:Ag prog 99 2:=⟨aB,aB,aB⟩
theorem z_2:r8 prog 99= .agg #[ii 0,ii 0]:=aB
theorem LR:(r8 prog 99).cells= #[ii 0,ii 0]:=by rw[z_2];rfl
def bef (es:List (Nat×Nat)):Nat->Int×Int
 |0=>(-1,-1)
 |i+1=>match es[i]? with|some e=>(e.1,e.2)|none=>(-1,-1)
theorem e1q {a b c d:Int} (h:a<c\/a=c/\b<d):s7 [a,b] [c,d]<0:=by
 rcases h with h|⟨rfl,h⟩
 ·have e:Dw a c= -1:=if_pos h;simp only[s7,e];rw[if_pos aC];decide
 ·have e:Dw a a=0:=by unfold Dw;rw[if_neg aA,if_neg aA]
  have e2:Dw b d= -1:=if_pos h;simp only[s7,e,e2];rw[if_neg aC,if_pos aC];decide
theorem d7t {n:Nat} {es:List (Nat×Nat)} (h:GV n es) {i:Nat} {a:Nat×Nat} (ha:es[i]? =some a):s7 [(bef es i).1,(bef es i).2] [(a.1:Int),(a.2:Int)]<0:=by
 apply e1q;cases i with
 |zero=>exact .inl (by simp only[bef];omega)
 |succ i=>
  obtain⟨hi,_⟩:=aH.1 ha;have hb:es[i]? =some es[i]:=aJ aA;have:=h.next hb ha;simp only[bef,hb];rcases this with h1|⟨h1,h2⟩
  ·exact .inl aA
  ·exact .inr ⟨aA,aA⟩
theorem e1r (ρ:List Value):D prog ρ (.put (.put (.z 99) 0 1 (kI (-1)) 0 noI) 1 1 (kI (-1)) 0 noI)= .agg #[ii (-1),ii (-1)]:=by
 show Value.agg (spl (Value.agg (spl (r8 prog 99).cells 0 [ii (-1)])).cells 1 [ii (-1)])=_;rw[z_2];rfl
section
variable {H:PH} {n:Nat} {w:Value} {es:List (Nat×Nat)}
theorem kr (hw:SG H w es) (hg:GV n es):Ae prog 103 [gv n w] H (ii 0):=by
 refine i9 mixed d3q ?_;have h1:=hg.n1;have h2:=hg.n64;have h3:=hg.len;refine d4 (t8 hw) ?_;refine d9 ?_;refine r9 (bF (p:=((n:Nat):Int)<1) aA) ?_;refine r9 (bF (p:=((n:Nat):Int)>64) aA) ?_;refine j1 el_edge hw ?_;refine d9 ?_;refine r9 (bF (p:=((es.length:Nat):Int)>200) aA) ?_;refine Gm (cs:= #[ii 0,ii 0]) LR fun b hb=> ?_;simp only[cA,nA];refine kh (vs:=[ii (-1),ii (-1)]) kq rfl rfl rfl (PH.put_self _ _ _) rfl (by intro c hc;simp at hc;rcases hc with rfl|rfl<;>rfl) (i7 rfl (e1r _)) (fun h=>(nomatch h)) ?_;simp only[cA,nA];have l1:=PH.le_put2 hb (.cells #[ii 0,ii 0] 99 (0,0)) (.cells #[ii (-1),ii (-1)] 99 (0,0));have b1:=PH.put_self (H.put b (.cells #[ii 0,ii 0] 99 (0,0))) b (.cells #[ii (-1),ii (-1)] 99 (0,0));generalize (H.put b (.cells #[ii 0,ii 0] 99 (0,0))).put b (.cells #[ii (-1),ii (-1)] 99 (0,0))=H1 at l1 b1;refine j1 el_edge (hw.mono l1) ?_;refine s8 (α:=Nat×Int) (fun⟨i,p⟩=>[ii p,ii (i:Nat)]) (fun⟨i,p⟩=>fun H'=>i<=es.length/\Pl H H'/\H' b=some (.cells #[ii (bef es i).1,ii (bef es i).2] 99 (0,0))) (fun⟨i,p⟩=>es.length-i) ((0,0)) rfl (⟨bI _,l1,b1⟩) fun⟨i,p⟩ H' hQ=> ?_;simp only[cA,nA];obtain⟨hi,l2,b2⟩:=hQ;refine d9 (d9 ?_);refine g7 (b:=decide (((i:Nat):Int)<(es.length:Nat))) rfl (fun h=> ?_) (fun h=> ?_)
 ·replace h:=oDt h;have qB:i<es.length:=aA;obtain⟨x,hx,tK⟩:=m7 qB;obtain⟨tX,rG⟩:=hg.mem hx;refine j4 el_edge (hw.mono l2) hx fun _=> ?_;simp only[cA,nA];refine Gm (cs:= #[ii 0,ii 0]) LR fun c hc=> ?_;simp only[cA,nA];refine kh (vs:=(ec x)) kq rfl rfl rfl (PH.put_self _ _ _) rfl (el_edge.one x) rfl (fun h=>(nomatch h)) ?_;simp only[cA,nA];have l3:=PH.le_put2 hc (.cells #[ii 0,ii 0] 99 (0,0)) (.cells (ec x).toArray 99 (0,0));have b3:=PH.put_self (H'.put c (.cells #[ii 0,ii 0] 99 (0,0))) c (.cells (ec x).toArray 99 (0,0));have rE:=l3 _ _ b2;generalize (H'.put c (.cells #[ii 0,ii 0] 99 (0,0))).put c (.cells (ec x).toArray 99 (0,0))=H2 at l3 b3 rE;refine km (m:=0) ar_2 rfl rfl rfl rfl rfl b3 aC rfl rfl rfl ?_;simp only[cA,nA];refine d9 ?_;refine r9 (bF (p:=((x.1:Nat):Int)<0) aA) ?_;refine km (m:=0) ar_2 rfl rfl rfl rfl rfl b3 aC rfl rfl rfl ?_;simp only[cA,nA];refine km (m:=1) ar_2 rfl rfl rfl rfl rfl b3 aC rfl rfl rfl ?_;simp only[cA,nA];refine d9 (d9 ?_);refine r9 (bF (p:=((x.1:Nat):Int)≥(x.2:Nat)) aA) ?_;refine km (m:=1) ar_2 rfl rfl rfl rfl rfl b3 aC rfl rfl rfl ?_;simp only[cA,nA];refine d9 ?_;refine r9 (bF (p:=((x.2:Nat):Int)≥(n:Nat)) aA) ?_;refine j7 ((Yb rfl rfl ar_2.und sc_int.has).rds _) rfl ?_;simp only[cA,nA];refine j7 ((Yb rfl rfl ar_2.und sc_int.has).rds _) rfl ?_;simp only[cA,nA];refine s6 (c8C (l:=[(bef es i).1,(bef es i).2]) (m:=[(x.1:Int),(x.2:Int)]) (Pm rE rfl rfl (show 2<=maxLen by decide)) (Pm b3 rfl rfl (show 2<=maxLen by decide))) rfl ?_;simp only[cA,nA];have pX:=d7t hg hx;refine d9 ?_;refine r9 (bF (p:=s7 [(bef es i).1,(bef es i).2] [(x.1:Int),(x.2:Int)]≥0) aA) ?_;refine Ux (vs:=ec x) kq rfl rfl b3 rfl aD rfl ?_;simp only[cA,nA];refine kh (vs:=(ec x)) kq rfl rfl rfl rE rfl (el_edge.one x) rfl (fun h=>(nomatch h)) ?_;simp only[cA,nA];exact⟨(i+1,p),by show es.length-(i+1)<es.length-i;omega,(i7 rfl (i6 rfl aA)),⟨by show i+1<=_;omega,PH.le_put_of (l2.trans l3) hb,by simp only[bef,hx];exact PH.put_self _ _ _⟩⟩
 ·replace h:=oDf h;exact g6 rfl ⟨l2,rfl⟩
end
end Go.Z
namespace Go.GS
theorem Po {α:Type} {p:List α->Prop} (nil:p []) (snoc:∀l a,p l->p (l++[a])) (l:List α):p l:=by
 have:∀l:List α,p l.reverse:=by
  intro l;induction l with
  |nil=>exact nil
  |cons a l ih=>rw[List.reverse_cons];exact snoc _ _ ih
 have h:=this l.reverse
 rwa[List.reverse_reverse]at h
def nb (es:List (Nat×Nat)) (x:Nat):Nat:=es.foldl (fun s e=>if e.1=x then s|||2^e.2 else if e.2=x then s|||2^e.1 else s) 0
theorem yq (es:List (Nat×Nat)) (e:Nat×Nat) (x:Nat):nb (es++[e]) x=if e.1=x then nb es x|||2^e.2 else if e.2=x then nb es x|||2^e.1 else nb es x:=by
 unfold nb;rw[dZ];rfl
def nbs (n:Nat) (es:List (Nat×Nat)):List Nat:=(List.range n).map (nb es)
theorem d3G (n:Nat):nbs n []=List.replicate n 0:=by
 unfold nbs;apply List.ext_getElem
 ·simp
 ·intro i h1 h2;simp[nb]
theorem Vb (n:Nat) (es:List (Nat×Nat)):(nbs n es).length=n:=by simp[nbs]
theorem Zi {n x:Nat} (es:List (Nat×Nat)) (h:x<n):(nbs n es)[x]? =some (nb es x):=by simp[nbs,h]
theorem c8D (n:Nat) (es:List (Nat×Nat)) (e:Nat×Nat) (h:e.1<e.2):((nbs n es).set e.1 (nb es e.1|||2^e.2)).set e.2 (nb es e.2|||2^e.1)=nbs n (es++[e]):=by
 apply bG;intro i;by_cases hi:i<n
 ·rw[Zi _ hi,yq];by_cases h2:e.2=i
  ·subst h2;rw[fJ (by simp[Vb,hi]),if_neg aA,if_pos rfl]
  ·rw[fP h2];by_cases h1:e.1=i
   ·subst h1;rw[fJ (by simp[Vb,hi]),if_pos rfl]
   ·rw[fP h1,Zi _ hi,if_neg h1,if_neg h2]
 ·rw[aW (by simp[Vb];omega),aW (by simp[Vb];omega)]
theorem d7u (es:List (Nat×Nat)) (x y:Nat):bit (nb es x) y=true↔∃e∈es,(e.1=x/\e.2=y)\/(e.1≠x/\e.2=x/\e.1=y):=by
 induction es using Po with
 |nil=>simp[nb,bit]
 |snoc es e ih=>
  rw[yq];simp only[aQ,aL];constructor
  ·intro h;split at h
   ·rename_i h1;rw[Ac,Ah,dB]at h;rcases h with h|h
    ·obtain⟨a,h2,h3⟩:=ih.1 h;exact⟨a,.inl h2,h3⟩
    ·exact⟨e,.inr rfl,.inl ⟨h1,by simpa using h⟩⟩
   ·split at h
    ·rename_i h1 h2;rw[Ac,Ah,dB]at h;rcases h with h|h
     ·obtain⟨a,h3,h4⟩:=ih.1 h;exact⟨a,.inl h3,h4⟩
     ·exact⟨e,.inr rfl,.inr ⟨h1,h2,by simpa using h⟩⟩
    ·obtain⟨a,h2,h3⟩:=ih.1 h;exact⟨a,.inl h2,h3⟩
  ·rintro⟨a,h2|rfl,h3⟩
   ·have:=ih.2 ⟨a,h2,h3⟩;split
    ·rw[Ac,this];rfl
    ·split
     ·rw[Ac,this];rfl
     ·exact this
   ·rcases h3 with⟨h3,h4⟩|⟨h3,h4,h5⟩
    ·rw[if_pos h3,Ac,Ah];simp[h4]
    ·rw[if_neg h3,if_pos h4,Ac,Ah];simp[h5]
theorem LS {n:Nat} {es:List (Nat×Nat)} (h:∀e∈es,e.1<e.2/\e.2<n) (hn:n<=64) (x:Nat):nb es x<M64:=by
 induction es using Po with
 |nil=>exact(aC:0<M64)
 |snoc es e ih=>
  have ih:=ih fun a ha=>h a (List.mem_append_left _ ha);have he:=h e (List.mem_append_right _ (aL.2 rfl));rw[yq];split
  ·exact Hy ih (Aq aA)
  ·split
   ·exact Hy ih (Aq aA)
   ·exact ih
end Go.GS
namespace Go.Z
open Proofs.Tryz RowKit RX GS
theorem LU:r8 prog 54=uv 0:=aB
theorem Vd:r8 prog 3=ii 0:=aB
theorem b2c {l:List Int} {x y:Int}:(l++[x]).contains y=(l.contains y||(y==x)):=by
 rw[bC];simp[List.contains_iff_mem]
theorem take_snoc {α:Type} {l:List α} {i:Nat} {x:α} (h:l[i]? =some x):l.take (i+1)=l.take i++[x]:=by rw[List.take_add_one,h];rfl
section
variable {H:PH} {n:Nat} {w:Value} {es:List (Nat×Nat)}
theorem d3H (hw:SG H w es) (hg:GV n es):Con prog 223 [gv n w] H fun u H'=>Pl H H'/\SO H H' 54 1 (fun s:Nat=>[uv s]) u (nbs n es):=by
 refine i9 mixed d7o ?_;have h1:=hg.n1;have h2:=hg.n64;have h3:=hg.len;have pX:∀i x,nb (es.take i) x<M64:=fun i x=>LS (fun e he=>hg.ed e (cG he)) h2 x;refine d4 (t8 hw) ?_;refine Uu el_u64 (z:=(0:Nat)) LU rfl rfl rfl aA rfl fun v H1 l1 o1 _=> ?_;simp only[cA,nA];rw[<-d3G]at o1;refine j1 el_edge (hw.mono l1) ?_;refine s8 (α:=Nat) (fun i=>[ii (i:Nat)]) (fun i=>fun H'=>i<=es.length/\Pl H H'/\SO H H' 54 1 (fun s:Nat=>[uv s]) v (nbs n (es.take i))) (fun i=>es.length-i) (0) rfl (⟨bI _,l1,o1⟩) fun i H' hQ=> ?_;simp only[cA,nA];obtain⟨hi,l2,o2⟩:=hQ;refine d9 (d9 ?_);refine g7 (b:=decide (((i:Nat):Int)<(es.length:Nat))) rfl (fun h=> ?_) (fun h=> ?_)
 ·replace h:=oDt h;have qB:i<es.length:=aA;obtain⟨x,hx,tK⟩:=m7 qB;obtain⟨tX,rG⟩:=hg.mem hx;refine j4 el_edge (hw.mono l2) hx fun _=> ?_;simp only[cA,nA];refine d4 (el_edge.vcells x) ?_;refine Ey el_u64 rfl rfl rfl rfl aE o2.se (Zi _ (show x.1<n by omega)) rfl aE fun _=> ?_;simp only[cA,nA];refine d4 ⟨_,_,rfl⟩ ?_;refine d4 (by show(0:Int)<=((x.2:Nat):Int);omega) ?_;refine d9 ?_;refine Dp el_u64 (a:=nb (es.take i) x.1|||2^x.2) rfl rfl rfl rfl aE aE l2 o2 (by rw[Vb];omega) rfl (fun _=>i7 rfl (Du rfl (Hg rfl aA) (pX _ _) (Aq aA))) rfl fun p u H2 l3 o3 _=> ?_;simp only[cA,nA];refine Ey el_u64 rfl rfl rfl rfl aE o3.se (show _=some (nb (es.take i) x.2) by rw[fP aA,Zi _ aA]) rfl aE fun _=> ?_;simp only[cA,nA];refine d4 ⟨_,_,rfl⟩ ?_;refine d4 (by show(0:Int)<=((x.1:Nat):Int);omega) ?_;refine d9 ?_;refine Dp el_u64 (a:=nb (es.take i) x.2|||2^x.1) rfl rfl rfl rfl aE aE l3 o3 (by rw[cJ,Vb];omega) rfl (fun _=>i7 rfl (Du rfl (Hg rfl aA) (pX _ _) (Aq aA))) rfl fun p2 u2 H3 l4 o4 _=> ?_;simp only[cA,nA];rw[c8D n _ x tX,<-take_snoc hx]at o4;exact⟨i+1,aA,(z8 (i6 rfl aA)),⟨aA,l4,o4⟩⟩
 ·replace h:=oDf h;rw[aF aA]at o2;exact g6 rfl ⟨l2,o2⟩
theorem c2N:Da prog 250=true:=aB
def Df (b s:Nat):PH:=PH.nil.put b (.cells #[uv s] 54 (0,0))
theorem c8E {s:Nat}:Con prog 224 [uv s] H fun u H'=>∃b,H b=none/\H'=H.or (Df b s)/\u= .func (.func 250) #[] #[.pointer (some ⟨b,0,none⟩)]:=by
 refine i9 mixed d3s ?_;refine d4 (el_u64.vcells s) ?_;refine Gm (cs:= #[uv s]) rfl fun b hb=> ?_;refine Na (Rm (vs:=[.pointer (some ⟨b,0,none⟩)]) rfl rfl) rfl ?_;exact g6 rfl ⟨b,hb,PH.put_or hb,rfl⟩
theorem bN (a b:Int):Value.bool (a !=b)= .bool (decide (a≠b)):=by
 by_cases h:a=b<;>simp[h]
theorem bE (a b:Int):Value.bool (a==b)= .bool (decide (a=b)):=by
 by_cases h:a=b<;>simp[h]
theorem bN0 (s:Nat):Value.bool (((s:Nat):Int) !=0)= .bool (decide (s≠0)):=by
 rw[bN];congr 1;apply decide_eq_decide.2;omega
theorem bE0 (s:Nat):Value.bool (((s:Nat):Int)==0)= .bool (decide (s=0)):=by
 rw[bE];congr 1;apply decide_eq_decide.2;omega
theorem ku (b s:Nat):Df b s b=some (.cells #[uv s] 54 (0,0)):=PH.put_self _ _ _
theorem c8F {X:PH} {b s t:Nat} (h:X b=none):(X.or (Df b s)).put b (.cells #[uv t] 54 (0,0))=X.or (Df b t):=by
 rw[PH.or_put h];unfold Df;rw[PH.put_put]
theorem yr {X:PH} {b:Nat} (s:Nat) (h:X b=none):Disj X (Df b s):=yc (LG X) h
theorem c2O {X:PH} {b s:Nat} (h:Disj X (Df b s)):X b=none:=Disj.none h (b:=b) (by rw[ku];exact fun h=>nomatch h)
abbrev nxs (s:Nat):List (List Value):=(els s).map fun x:Nat=>[ii (x:Int)]
theorem c2P {b s:Nat} {Ro:PH} (hs:s<M64) (hT:Tb Ro):ItC prog 250 [.pointer (some ⟨b,0,none⟩)] Ro (Df b s) (fun pre xs=>∃x,(els s)[pre.length]? =some x/\xs=[ii (x:Nat)]/\pre=((els s).take pre.length).map fun x:Nat=>[ii (x:Int)]) (fun xs _=>xs=nxs s) (fun _ _=>True):=by
 intro l J Jx hRo hr X hX hd w hw;refine(s9 (H:=X.or (Df b s)) (V:=fun _ H'=>∃X' K',Pl (X'.or K') H'/\Disj X' K'/\((∃xs,xs=nxs s/\J xs X')\/(∃pre,True/\Jx pre X'))) mixed c8u aB rfl ?_ w hw).mono fun e w' ⟨v,H',he,qI,hV⟩=>⟨v,H',he,qI,hV⟩;refine s8 (α:=Nat×Nat×PH) (fun⟨k,s',X'⟩=>[]) (fun⟨k,s',X'⟩=>fun H'=>k<=(els s).length/\s'<M64/\els s'=(els s).drop k/\H'=X'.or (Df b s')/\J (((els s).take k).map fun x:Nat=>[ii (x:Int)]) X'/\Disj X' (Df b s')) (fun⟨k,s',X'⟩=>(els s).length-k) ((0,s,X)) rfl (⟨bI _,hs,rfl,rfl,hX,hd⟩) fun⟨k,s',X'⟩ H' hQ=> ?_;obtain⟨hk,qV,he,rfl,hJ,qZ⟩:=hQ;have hb:=PH.or_right qZ (ku b s');refine Bn Nc rfl rfl hb rfl rfl ?_;refine d9 ?_;refine j8 (p:=(s'≠0)) (bN0 s') (fun h=> ?_) fun h=> ?_
 ·refine Bn Nc rfl rfl hb rfl rfl ?_;obtain⟨x,r,tB⟩:∃x r,els s'=x::r:=by
   cases tB:els s' with
   |nil=>exact absurd (Yz qV tB) h
   |cons x r=>exact⟨x,r,rfl⟩
  have htz:tz s'=x:=by simp[tz,tB]
  have qY:k<(els s).length:=by
   apply Nat.lt_of_not_le;intro hh;rw[eD hh,tB]at he;cases he
  obtain⟨y,hy,wO⟩:=m7 qY;rw[<-he,tB]at wO;obtain⟨rfl,hr'⟩:=List.cons.inj wO;refine s6 (kg ((hT.mono (hRo _ _ hJ)).mono (PH.le_or _ _)) qV) rfl ?_;rw[htz];refine yd (hr _ [ii (x:Nat)] X' (Df b s') ⟨x,by simp[bY hk,hy],rfl,by simp[bY hk]⟩ hJ qZ) rfl rfl rfl rfl rfl fun v X2 qL hV=> ?_;obtain⟨bb,rfl,qX,rE⟩:∃bb,v= .bool bb/\(bb=true->J ((((els s).take k).map fun x:Nat=>[ii (x:Int)])++[[ii (x:Nat)]]) X2)/\(bb=false->Jx ((((els s).take k).map fun x:Nat=>[ii (x:Int)])++[[ii (x:Nat)]]) X2):=by
   rcases hV with⟨rfl,h⟩|⟨rfl,h⟩
   ·exact⟨true,rfl,fun _=>h,(fun h=>nomatch h)⟩
   ·exact⟨false,rfl,(fun h=>nomatch h),fun _=>h⟩
  refine d9 ?_;refine g7 (b:= !bb) rfl (fun sD=> ?_) (fun sD=> ?_)
  ·skip
   exact g6 rfl ⟨X2,Df b s',Pl.refl _,qL,.inr ⟨_,trivial,rE (by simpa using sD)⟩⟩
  ·skip
   have sW:=c2O qL;have rE:=PH.or_right qL (ku b s');refine Bn Nc rfl rfl rE rfl rfl ?_;refine Bn Nc rfl rfl rE rfl rfl ?_;refine d9 (d9 ?_);refine Zf Nc rfl rfl rfl rE aD rfl rfl (i7 rfl (Gn rfl (Zg (B:=1) rfl rfl qV aA) qV (aZ (Nat.sub_le _ _) qV))) (fun h=>(nomatch h)) ?_;exact⟨(k+1,s'&&&(s'-1),X2),by show(els s).length-(k+1)<(els s).length-k;omega,rfl,⟨qY,jy qV,by rw[LJ qV tB,hr'],c8F sW,by rw[take_snoc hy,aT];exact qX (by simpa using sD),yr _ sW⟩⟩
 ·have h0:s'=0:=aA;rw[h0,yg]at he;have uA:(els s).length<=k:=by
   apply Nat.le_of_not_lt;intro hh;rw[cV hh]at he;cases he
  rw[aF uA]at hJ;exact g6 rfl ⟨X',Df b s',Pl.refl _,qZ,.inl ⟨_,rfl,hJ⟩⟩
end
end Go.Z

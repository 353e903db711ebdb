/- Lemmas of the proof. -/
import Derived.Test.YtmannekkmdockaaGreatDoorRxX
import Derived.Test.YtmannekkmdockaaGreatDoorWdK
open Bool renaming or_eq_true->bW
open List renaming drop_eq_getElem_cons->dI,drop_eq_nil_of_le->dW,getElem?_eq_getElem->aA,getElem?_eq_none->aW,getElem?_eq_some_iff->aC,getElem?_set_ne->iE,getElem?_set_self->jA,map_cons->aM,mem_cons->aL,mem_singleton->aQ,not_mem_nil->cF,take_of_length_le->aK
open Nat renaming lt_of_le_of_lt->aY,min_eq_left->cD,mod_eq_of_lt->bR,zero_le->bI
namespace Go.GS
theorem b9f:∀(n:Nat) (l r:List Nat),l.length<=n->r.length<=n->Bn (Bg l r)=Bg (Bn l) (Bn r):=by
 intro n;induction n using Nat.strongRecOn with
 |_ n ih=>
  intro l r hl hr
  match l,r with
  |[],[]=>simp[Bg,Bn]
  |[],[b]=>simp[Bg,Bn]
  |[],b::c::r=>simp[Bg,Bn]
  |[a],[]=>simp[Bg,Bn]
  |a::c::l,[]=>simp[Bg,Bn]
  |[a],[b]=>simp[Bg,Bn]
  |[a],b::c::r=>cases hh:Bn r<;>simp[Bg,Bn,hh]
  |a::c::l,[b]=>cases hh:Bn l<;>simp[Bg,Bn,hh]
  |a::c::l,b::d::r=>
   simp only[List.length_cons]at hl hr;simp only[Bg,Bn];rw[ih (n-2) (by omega) l r (by omega) (by omega)]
def Lx (x:Nat):Nat:=(x/2&&&6148914691236517205)+(x&&&6148914691236517205)
def Rj (x:Nat):Nat:=(x/4&&&3689348814741910323)+(x&&&3689348814741910323)
def wo (x:Nat):Nat:=(x/16+x)&&&1085102592571150095
theorem d9I {x:Nat} (hx:x<M64):∃l,l.length=8/\(∀d∈l,d<=8)/\wo (Rj (Lx x))=Fd 8 l/\l.sum=card x/\Lx x<M64/\Rj (Lx x)<M64/\Rj (Lx x)/16+Rj (Lx x)<M64:=by
 have b1:=d2z x 64;have h1:=JS (s:=1) (n:=32) (B:=1) (l:=Gg x 64) (by rw[JR]) b1 (by decide) (by rw[JQ 64 x hx];exact hx);rw[JQ 64 x hx]at h1;have l1:=wk 32 (Gg x 64) (JR x 64);have c1:∀d∈Fh (Gg x 64),d<=2:=wi (Yx b1) (Yx (wj 1 b1));have e1:Lx x=Fd 2 (Fh (Gg x 64)):=h1;have m1:Fd 2 (Fh (Gg x 64))<M64:=wn (m:=0) (by rw[l1.2];decide) fun d hd=>aY (c1 d hd) (by decide);generalize Fh (Gg x 64)=q1 at*;have h2:=JS (s:=2) (n:=16) (B:=2) (l:=q1) l1.2 c1 (by decide) m1;have l2:=wk 16 q1 l1.2;have c2:∀d∈Fh q1,d<=4:=wi (Yx c1) (Yx (wj 1 c1));have e2:Rj (Fd 2 q1)=Fd 4 (Fh q1):=h2;have m2:Fd 4 (Fh q1)<M64:=wn (m:=0) (by rw[l2.2];decide) fun d hd=>aY (c2 d hd) (by decide);generalize Fh q1=q2 at*;have h3:Fd 4 q2/16=Fd 4 (q2.drop 1):=Yv 1 q2 fun d hd=>aY (c2 d hd) (by decide);have l3:=wk 8 q2 l2.2;have c3:∀d∈Bg q2 (q2.drop 1),d<=8:=wi c2 (wj 1 c2);have n3:(Bg q2 (q2.drop 1)).length=16:=by rw[c6P _ _ (by simp),l2.2]
 have e3:Fd 4 q2/16+Fd 4 q2=Fd 4 (Bg q2 (q2.drop 1)):=by rw[h3,Yw,Nat.add_comm]
 have m3:Fd 4 (Bg q2 (q2.drop 1))<M64:=wn (m:=0) (by rw[n3];decide) fun d hd=>aY (c3 d hd) (by decide);have h4:=wh (s:=4) 8 (Bg q2 (q2.drop 1)) (fun d hd=>aY (c3 d hd) (by decide)) (by rw[n3];decide);have e4:Bn (Bg q2 (q2.drop 1))=Fh q2:=b9f 16 _ _ (by rw[l2.2];decide) (by simp[l2.2]);refine⟨Fh q2,l3.2,by rw[<-e4];exact Yx c3,?_,?_,by rw[e1];exact m1,by rw[e1,e2];exact m2,by rw[e1,e2,e3];exact m3⟩
 ·rw[e1,e2];unfold wo;rw[e3,<-e4];exact h4
 ·rw[l3.1,l2.1,l1.1,c1N]
def Dm (k x:Nat):Nat:=x+x/2^k
theorem d9J {l:List Nat} (hl:l.length=8) (hd:∀d∈l,d<=8):Dm 8 (Fd 8 l)<M64/\Dm 16 (Dm 8 (Fd 8 l))<M64/\Dm 32 (Dm 16 (Dm 8 (Fd 8 l)))<M64/\Dm 32 (Dm 16 (Dm 8 (Fd 8 l)))%128=l.sum:=by
 match l,hl with
 |[a,b,c,d,e,f,g,h],_=>
  simp only[aL,cF,or_false,forall_eq_or_imp,forall_eq]at hd;obtain⟨h1,h2,h3,h4,h5,h6,h7,h8⟩:=hd;have q1:Dm 8 (Fd 8 [a,b,c,d,e,f,g,h])=Fd 8 [a+b,b+c,c+d,d+e,e+f,f+g,g+h,h]:=by
   unfold Dm;rw[Yv 1 (s:=8) _ (by simp only[aL,cF,or_false,forall_eq_or_imp,forall_eq];omega),<-Yw];rfl
  have q2:Dm 16 (Fd 8 [a+b,b+c,c+d,d+e,e+f,f+g,g+h,h])=Fd 8 [a+b+(c+d),b+c+(d+e),c+d+(e+f),d+e+(f+g),e+f+(g+h),f+g+h,g+h,h]:=by
   unfold Dm;rw[Yv 2 (s:=8) _ (by simp only[aL,cF,or_false,forall_eq_or_imp,forall_eq];omega),<-Yw];rfl
  have q3:Dm 32 (Fd 8 [a+b+(c+d),b+c+(d+e),c+d+(e+f),d+e+(f+g),e+f+(g+h),f+g+h,g+h,h])=Fd 8 [a+b+(c+d)+(e+f+(g+h)),b+c+(d+e)+(f+g+h),c+d+(e+f)+(g+h),d+e+(f+g)+h,e+f+(g+h),f+g+h,g+h,h]:=by
   unfold Dm;rw[Yv 4 (s:=8) _ (by simp only[aL,cF,or_false,forall_eq_or_imp,forall_eq];omega),<-Yw];rfl
  rw[q1,q2,q3];simp only[Fd,M64,List.sum_cons,List.sum_nil,show(2:Nat)^8=256 from by decide];refine⟨by omega,by omega,by omega,by omega⟩
end Go.GS
namespace Go.RX
open Go.RowKit Go.GS
section
variable {P:Program} {ρ:List Value} {a b:SV} {A B:Nat}
theorem Cb (ha:D P ρ a=uv A) (hb:D P ρ b=uv B) (hA:A<M64) (hB:B<M64):D P ρ (.op2 .or .u64 a b)=uv (A|||B):=by
 show t8 .or .u64 (intOf (D P ρ a)) (intOf (D P ρ b))=_;rw[ha,hb];show Value.int .u64 _= .int .u64 _;congr 1;exact Go.GS.u64_or hA hB
theorem Ej (ha:D P ρ a=uv A) (hb:D P ρ b=uv B) (hA:A<M64) (hB:B<M64):D P ρ (.op2 .and .u64 a b)=uv (A&&&B):=by
 show t8 .and .u64 (intOf (D P ρ a)) (intOf (D P ρ b))=_;rw[ha,hb];show Value.int .u64 _= .int .u64 _;congr 1;exact Go.GS.u64_and hA hB
theorem Rk (ha:D P ρ a=uv A) (hb:D P ρ b=uv B) (hA:A<M64) (hB:B<M64):D P ρ (.op2 .andNot .u64 a b)=uv (sdf A B):=by
 show t8 .andNot .u64 (intOf (D P ρ a)) (intOf (D P ρ b))=_;rw[ha,hb];show Value.int .u64 _= .int .u64 _;congr 1;exact Go.GS.u64_andn hA hB
theorem Ja {n:Nat} {k:IntKind} (ha:D P ρ a=uv A) (hb:D P ρ b= .int k (n:Nat)) (hn:n<=64):D P ρ (.op2 .shr .u64 a b)=uv (A/2^n):=by
 show t8 .shr .u64 (intOf (D P ρ a)) (intOf (D P ρ b))=_;rw[ha,hb];show Value.int .u64 _= .int .u64 _;congr 1;have:=Go.GS.u64_shr (a:=A) (k:=n);rw[cD hn]at this;exact this
theorem d6X {n:Nat} {k:IntKind} (ha:D P ρ a=uv A) (hb:D P ρ b= .int k (n:Nat)) (hn:n<64):D P ρ (.op2 .shl .u64 a b)=uv (A*2^n%M64):=by
 show t8 .shl .u64 (intOf (D P ρ a)) (intOf (D P ρ b))=_;rw[ha,hb];show Value.int .u64 _= .int .u64 _;congr 1;exact Go.GS.u64_shl hn
theorem Ez {n:Nat} {k:IntKind} (hb:D P ρ b= .int k (n:Nat)) (hn:n<64):D P ρ (.op2 .shl .u64 (.k (.int .u64 1)) b)=uv (2^n):=by
 rw[d6X (A:=1) rfl hb hn,d2w hn]
theorem Vd (ha:D P ρ a=uv A) (hb:D P ρ b=uv B) (h:A+B<M64):D P ρ (.op2 .add .u64 a b)=uv (A+B):=by
 show t8 .add .u64 (intOf (D P ρ a)) (intOf (D P ρ b))=_;rw[ha,hb];show Value.int .u64 (IntKind.u64.wrap ((A:Int)+(B:Int)))= .int .u64 _;congr 1;rw[IntKind.wrap_u64];simp only[M64]at h;omega
theorem Yz (ha:D P ρ a=uv A) (hb:D P ρ b=uv B) (hA:A<M64) (h:B<=A):D P ρ (.op2 .sub .u64 a b)=uv (A-B):=by
 show t8 .sub .u64 (intOf (D P ρ a)) (intOf (D P ρ b))=_;rw[ha,hb];show Value.int .u64 _= .int .u64 _;congr 1;exact Go.GS.u64_sub hA h
theorem Ve (ha:D P ρ a=uv A) (hA:A<M64):D P ρ (.op1 .neg .u64 a)=uv ((M64-A)%M64):=by
 show unV .neg .u64 (intOf (D P ρ a))=_;rw[ha];show Value.int .u64 _= .int .u64 _;congr 1;exact Go.GS.u64_neg hA
theorem Rm {n:Nat} {k:IntKind} (ha:D P ρ a=uv A) (hA:A<M64) (hb:D P ρ b= .int k (n:Nat)) (hn:n<=64):D P ρ (.op2 .eql .u64 (.op2 .and .u64 (.op2 .shr .u64 a b) (.k (.int .u64 1))) (.k (.int .u64 1)))= .bool (Go.GS.bit A n):=by
 show t8 .eql .u64 (intOf (D P ρ (.op2 .and .u64 (.op2 .shr .u64 a b) (.k (.int .u64 1))))) 1=_;rw[Ej (B:=1) (Ja ha hb hn) rfl (vz hA) (by decide),JL];cases Go.GS.bit A n<;>rfl
theorem ik {x y:Int} (ha:D P ρ a=ii x) (hb:D P ρ b=ii y) (h1: -9223372036854775808<=x+y) (h2:x+y<9223372036854775808):D P ρ (.op2 .add .i64 a b)=ii (x+y):=by
 show t8 .add .i64 (intOf (D P ρ a)) (intOf (D P ρ b))=_;rw[ha,hb];show Value.int .i64 (IntKind.i64.wrap (x+y))= .int .i64 _;congr 1;rw[IntKind.wrap_i64];omega
theorem Rn {x y:Int} (ha:D P ρ a=ii x) (hb:D P ρ b=ii y) (h1: -9223372036854775808<=x-y) (h2:x-y<9223372036854775808):D P ρ (.op2 .sub .i64 a b)=ii (x-y):=by
 show t8 .sub .i64 (intOf (D P ρ a)) (intOf (D P ρ b))=_;rw[ha,hb];show Value.int .i64 (IntKind.i64.wrap (x-y))= .int .i64 _;congr 1;rw[IntKind.wrap_i64];omega
theorem d6Y {m:Nat} (hm:m<M64):IntKind.i64.wrap ((BitVec.ofInt 64 (IntKind.i64.wrap (m:Int))&&&BitVec.ofInt 64 127).toNat:Nat)=((m%128:Nat):Int):=by
 have e:BitVec.ofInt 64 (IntKind.i64.wrap (m:Int))=BitVec.ofNat 64 m:=by
  apply BitVec.eq_of_toNat_eq;simp only[M64]at hm;rw[IntKind.wrap_i64,BitVec.toNat_ofInt,BitVec.toNat_ofNat,bR (show m<2^64 by omega)];omega
 have e2:BitVec.ofInt 64 127=BitVec.ofNat 64 127:=by decide
 rw[e,e2];have e3:(BitVec.ofNat 64 m&&&BitVec.ofNat 64 127).toNat=m%128:=by
  rw[BitVec.toNat_and,BitVec.toNat_ofNat,BitVec.toNat_ofNat,bR (show m<2^64 by simp only[M64]at hm;omega)];exact Nat.and_two_pow_sub_one_eq_mod m 7
 have e4:∀n:Nat,n<128->IntKind.i64.wrap (n:Int)=n:=fun n h=>by rw[IntKind.wrap_i64];omega
 rw[e3,e4 _ (Nat.mod_lt _ (by decide))]
theorem d9K {m:Nat} {P:Program} {ρ:List Value} {y:SV} (hy:D P ρ y=uv m) (hm:m<M64):D P ρ (.op2 .and .i64 (.cv .i64 y) (.k (.int .i64 127)))=ii ((m%128:Nat):Int):=by
 show t8 .and .i64 (IntKind.i64.wrap (intOf (D P ρ y))) 127=_;rw[hy];have:=d6Y hm;show Value.int .i64 _=Value.int .i64 _;exact congrArg (Value.int .i64) this
theorem i9 {n:Nat} (ha:D P ρ a=ii (n:Nat)) (h:n+1<9223372036854775808):D P ρ (.op2 .add .i64 a (.k (.int .i64 1)))=ii ((n+1:Nat):Int):=by
 rw[ik ha (y:=1) rfl (by omega) (by omega)];rfl
end
theorem z8 {P:Program} {ρ:List Value} {a:SV} {x:Value} (h:D P ρ a=x):[a].map (D P ρ)=[x]:=by rw[aM,h];rfl
theorem j4 {P:Program} {ρ:List Value} {a b:SV} {x y:Value} (h:D P ρ a=x) (h2:D P ρ b=y):[a,b].map (D P ρ)=[x,y]:=by rw[aM,h,z8 h2]
theorem Cc {P:Program} {ρ:List Value} {a b c:SV} {x y z:Value} (h:D P ρ a=x) (h2:D P ρ b=y) (h3:D P ρ c=z):[a,b,c].map (D P ρ)=[x,y,z]:=by rw[aM,h,j4 h2 h3]
theorem Ot {P:Program} {ρ:List Value} {a b c d:SV} {x y z u:Value} (h:D P ρ a=x) (h2:D P ρ b=y) (h3:D P ρ c=z) (h4:D P ρ d=u):[a,b,c,d].map (D P ρ)=[x,y,z,u]:=by rw[aM,h,Cc h2 h3 h4]
end Go.RX
/- Chapter 32: contracts of the library, part 2. -/
namespace Go.Proofs.Z
open Go.Proofs.Tryz
open Go.RowKit Go.RX Go.GS
def SV1 (x:SV):SV:= .op2 .add .u64 (.op2 .and .u64 (.op2 .shr .u64 x (kU 1)) (kU 6148914691236517205)) (.op2 .and .u64 x (kU 6148914691236517205))
def SV2 (x:SV):SV:= .op2 .add .u64 (.op2 .and .u64 (.op2 .shr .u64 x (kU 2)) (kU 3689348814741910323)) (.op2 .and .u64 x (kU 3689348814741910323))
def SV3 (x:SV):SV:= .op2 .and .u64 (.op2 .add .u64 (.op2 .shr .u64 x (kU 4)) x) (kU 1085102592571150095)
def SV4 (k:Int) (x:SV):SV:= .op2 .add .u64 x (.op2 .shr .u64 x (.k (.int .u64 (k))))
theorem c6T {s:Nat} (hs:s<M64):Det prog 138 [uv s] (ii (card s)):=by
 obtain⟨l,h1,h2,h3,h4,h5,h6,h7⟩:=d9I hs;obtain⟨g1,g2,g3,g4⟩:=d9J h1 h2;refine Fv mixed U4 (by kernel_rfl) rfl (j6 ⟨_,rfl⟩ (Cf ?_ rfl));have e1:D prog [uv s] (SV1 (.v 0))=uv (Lx s):=Vd (Ej (Ja (n:=1) rfl rfl (by decide)) (B:=6148914691236517205) rfl (vz (x:=1) hs) (by decide)) (Ej (B:=6148914691236517205) rfl rfl hs (by decide)) h5;generalize sZ:SV1 (.v 0)=x1 at e1;have e2:D prog [uv s] (SV2 x1)=uv (Rj (Lx s)):=Vd (Ej (Ja (n:=2) e1 rfl (by decide)) (B:=3689348814741910323) rfl (vz (x:=2) h5) (by decide)) (Ej (B:=3689348814741910323) e1 rfl h5 (by decide)) h6;generalize rR:SV2 x1=x2 at e2;have e3:D prog [uv s] (SV3 x2)=uv (wo (Rj (Lx s))):=Ej (Vd (Ja (n:=4) e2 rfl (by decide)) e2 h7) (B:=1085102592571150095) rfl h7 (by decide);generalize yL:SV3 x2=x3 at e3;rw[h3]at e3;have hF:Go.GS.Fd 8 l<M64:=aY (Nat.le_add_right _ _) g1;have e4:D prog [uv s] (SV4 8 x3)=uv (Dm 8 (Go.GS.Fd 8 l)):=Vd e3 (Ja (n:=8) e3 rfl (by decide)) g1;generalize hx4:SV4 8 x3=x4 at e4;have e5:D prog [uv s] (SV4 16 x4)=uv (Dm 16 (Dm 8 (Go.GS.Fd 8 l))):=Vd e4 (Ja (n:=16) e4 rfl (by decide)) g2;generalize hx5:SV4 16 x4=x5 at e5;have e6:D prog [uv s] (SV4 32 x5)=uv (Dm 32 (Dm 16 (Dm 8 (Go.GS.Fd 8 l)))):=Vd e5 (Ja (n:=32) e5 rfl (by decide)) g3;generalize hx6:SV4 32 x5=x6 at e6;generalize Dm 32 (Dm 16 (Dm 8 (Go.GS.Fd 8 l)))=m at e6 g3 g4;have e7:=d9K e6 g3;rw[g4,h4]at e7;rw[<-hx6,<-hx5,<-hx4,<-yL,<-rR,<-sZ]at e7;exact e7
theorem wq (x:Int):Det prog 158 [ii x] (.bool false):=by
 refine Fv mixed U7 (by kernel_rfl) rfl (j6 ⟨_,rfl⟩ (Cf ?_ rfl));show Value.bool (x !=x)=_;simp
def Fa (x y:Int):Int:=if x<y then -1 else if x>y then 1 else 0
theorem JU (x y:Int):Det prog 93 [ii x,ii y] (ii (Fa x y)):=by
 refine Fv mixed U6 (by kernel_rfl) rfl (Jt (wq x) rfl (Jt (wq y) rfl ?_));refine j6 ⟨_,rfl⟩ (rh rfl (j6 ⟨_,rfl⟩ (rh rfl (j6 ⟨_,rfl⟩ (j6 ⟨_,rfl⟩ ?_)))));refine Da (b:=decide (x<y)) rfl (fun h=> ?_) (fun h=> ?_)
 ·have h:=oDt h;refine Cf ?_ rfl;unfold Fa;rw[if_pos h];rfl
 ·have h:=oDf h;refine Da (b:=decide (x>y)) rfl (fun h'=>Cf ?_ rfl) (fun h'=>Cf ?_ rfl)
  ·have h':=oDt h';unfold Fa;rw[if_neg h,if_pos h'];rfl
  ·have h':=oDf h';unfold Fa;rw[if_neg h,if_neg h'];rfl
abbrev SI (H:PH) (v:Value) (l:List Int):Prop:=SE H 1 (fun z:Int=>[ii z]) v l
abbrev SU (H:PH) (v:Value) (l:List Nat):Prop:=SE H 1 (fun s:Nat=>[uv s]) v l
def Aj:List Int->List Int->Int
 |[],[]=>0
 |[],_::_=> -1
 |_::_,[]=>1
 |x::l,y::m=>if Fa x y≠0 then Fa x y else Aj l m
theorem t7 {α:Type} {l:List α} {i:Nat} (h:i<l.length):∃x,l[i]? =some x/\l.drop i=x::l.drop (i+1):=
 ⟨l[i],aA h,dI h⟩
section
variable {H:PH} {u v:Value} {l m:List Int}
theorem c6U (hu:SI H u l) (hv:SI H v m):Asks prog 174 [u,v] H (ii (Aj l m)):=by
 refine j3 mixed U5 ?_;have hl:=hu.len;have hm:=hv.len;refine j7 el_int hu ?_;refine Dq (α:=Nat×Int) (fun⟨i,p⟩=>[ii p,ii (i:Nat)]) (fun⟨i,p⟩=>i<=l.length/\Aj (l.drop i) (m.drop i)=Aj l m) (fun⟨i,p⟩=>l.length-i) ((0,0)) rfl (⟨bI _,rfl⟩) fun⟨i,p⟩ hQ=> ?_;obtain⟨hi,hc⟩:=hQ;refine d4 (d4 ?_);refine i0 (b:=decide (((i:Nat):Int)<(l.length:Nat))) rfl (fun h=> ?_) (fun h=> ?_)
 ·replace h:=oDt h;have pW:i<l.length:=by omega
  obtain⟨x,hx,tB⟩:=t7 pW;refine j8 el_int hu hx fun _=> ?_;refine j7 el_int hv ?_;refine d4 ?_;refine i0 (b:=decide (((i:Nat):Int)≥(m.length:Nat))) rfl (fun h2=> ?_) (fun h2=> ?_)
  ·replace h2:=oDt h2;have:m.drop i=[]:=dW (by omega);rw[tB,this]at hc;exact g8 rfl ⟨rfl,by rw[<-hc];rfl⟩
  ·replace h2:=oDf h2;obtain⟨y,hy,vC⟩:=t7 (l:=m) (i:=i) (by omega);refine j8 el_int hv hy fun _=> ?_;rw[tB,vC]at hc;refine Am (JU x y) rfl ?_;refine d4 ?_;refine r9 (p:=(Fa x y≠0)) (by show Value.bool (Fa x y !=0)=_;congr 1;by_cases e:Fa x y=0<;>simp[e]) (fun h3=> ?_) fun h3=> ?_
   ·exact g8 rfl ⟨rfl,by rw[<-hc];simp only[Aj];rw[if_pos h3];rfl⟩
   ·exact⟨(i+1,p),by show l.length-(i+1)<l.length-i;omega,(j4 rfl (i9 rfl (by omega))),⟨⟨by show i+1<=_;omega,by rw[<-hc];simp only[Aj];rw[if_neg h3]⟩,rfl⟩⟩
 ·replace h:=oDf h;have pP:i=l.length:=by omega
  subst pP;rw[List.drop_length]at hc;refine j7 el_int hu ?_;refine j7 el_int hv ?_;refine d4 (d4 ?_);refine i0 (b:=decide (((l.length:Nat):Int)<(m.length:Nat))) rfl (fun h2=> ?_) (fun h2=> ?_)
  ·replace h2:=oDt h2;obtain⟨y,hy,vC⟩:=t7 (l:=m) (i:=l.length) (by omega);rw[vC]at hc;exact g8 rfl ⟨rfl,by rw[<-hc];rfl⟩
  ·replace h2:=oDf h2;have:m.drop l.length=[]:=dW (by omega);rw[this]at hc;exact g8 rfl ⟨rfl,by rw[<-hc];rfl⟩
end
end Go.Proofs.Z
/- Graphs. -/
namespace Go.GS
def elt (a b:Nat×Nat):Prop:=a.1<b.1\/(a.1=b.1/\a.2<b.2)
structure GV (n:Nat) (es:List (Nat×Nat)):Prop where
 n1:1<=n
 n64:n<=64
 len:es.length<=200
 ed:∀e∈es,e.1<e.2/\e.2<n
 ord:es.Pairwise elt
theorem GV.next {n:Nat} {es:List (Nat×Nat)} (h:GV n es) {i:Nat} {a b:Nat×Nat} (ha:es[i]? =some a) (hb:es[i+1]? =some b):elt a b:=by
 obtain⟨h1,rfl⟩:=aC.1 ha;obtain⟨h2,rfl⟩:=aC.1 hb;exact List.pairwise_iff_getElem.1 h.ord i (i+1) h1 h2 (by omega)
theorem GV.mem {n:Nat} {es:List (Nat×Nat)} (h:GV n es) {i:Nat} {a:Nat×Nat} (ha:es[i]? =some a):a.1<a.2/\a.2<n:=h.ed a (List.mem_of_getElem? ha)
end Go.GS
/- Chapter 32: graphs. -/
namespace Go.Proofs.Z
open Go.Proofs.Tryz
open Go.RowKit Go.RX Go.GS
theorem bT {p:Prop} [Decidable p] (h:p):Value.bool (decide p)= .bool true:=by rw[oDd h]
theorem bF {p:Prop} [Decidable p] (h:¬p):Value.bool (decide p)= .bool false:=by rw[decide_eq_false h]
def gv (n:Nat) (w:Value):Value:= .agg #[ii n,w]
abbrev SG (H:PH) (w:Value) (es:List (Nat×Nat)):Prop:=SE H 2 ec w es
theorem Ap {H:PH} {n:Nat} {w:Value} {es:List (Nat×Nat)} (h:SG H w es):(gv n w).cells.size=2/\s8 (gv n w).cells:=by
 refine⟨rfl,fun c hc=> ?_⟩;rw[gv,It]at hc;simp only[aL,cF,or_false]at hc;rcases hc with rfl|rfl
 ·rfl
 ·exact h.one.2 _ (by rw[h.cells];simp)
theorem sc_int:Sc prog 3:=⟨by kernel_rfl,by kernel_rfl,by kernel_rfl⟩
theorem Hw:Sc prog 54:=⟨by kernel_rfl,by kernel_rfl,by kernel_rfl⟩
theorem ar_2:Ar prog 99 3 2:=⟨by kernel_rfl,by kernel_rfl,by kernel_rfl,by kernel_rfl,sc_int⟩
theorem il:Ag prog 99 2:=⟨by kernel_rfl,by kernel_rfl,by kernel_rfl⟩
theorem z_2:s7 prog 99= .agg #[ii 0,ii 0]:=by kernel_rfl
theorem JV:(s7 prog 99).cells= #[ii 0,ii 0]:=by rw[z_2];rfl
def bef (es:List (Nat×Nat)):Nat->Int×Int
 |0=>(-1,-1)
 |i+1=>match es[i]? with|some e=>(e.1,e.2)|none=>(-1,-1)
theorem e1c {a b c d:Int} (h:a<c\/a=c/\b<d):Aj [a,b] [c,d]<0:=by
 rcases h with h|⟨rfl,h⟩
 ·have e:Fa a c= -1:=if_pos h;simp only[Aj,e];rw[if_pos (by decide)];decide
 ·have e:Fa a a=0:=by unfold Fa;rw[if_neg (by omega),if_neg (by omega)]
  have e2:Fa b d= -1:=if_pos h;simp only[Aj,e,e2];rw[if_neg (by decide),if_pos (by decide)];decide
theorem d6Z {n:Nat} {es:List (Nat×Nat)} (h:GV n es) {i:Nat} {a:Nat×Nat} (ha:es[i]? =some a):Aj [(bef es i).1,(bef es i).2] [(a.1:Int),(a.2:Int)]<0:=by
 apply e1c;cases i with
 |zero=>exact .inl (by simp only[bef];omega)
 |succ i=>
  obtain⟨hi,_⟩:=aC.1 ha;have hb:es[i]? =some es[i]:=aA (by omega);have:=h.next hb ha;simp only[bef,hb];rcases this with h1|⟨h1,h2⟩
  ·exact .inl (by omega)
  ·exact .inr ⟨by omega,by omega⟩
theorem e1d (ρ:List Value):D prog ρ (.put (.put (.z 99) 0 1 (kI (-1)) 0 noI) 1 1 (kI (-1)) 0 noI)= .agg #[ii (-1),ii (-1)]:=by
 show Value.agg (spl (Value.agg (spl (s7 prog 99).cells 0 [ii (-1)])).cells 1 [ii (-1)])=_;rw[z_2];rfl
section
variable {H:PH} {n:Nat} {w:Value} {es:List (Nat×Nat)}
theorem Za (hw:SG H w es) (hg:GV n es):Ao prog 103 [gv n w] H (ii 0):=by
 refine j3 mixed Y9 ?_;have h1:=hg.n1;have h2:=hg.n64;have h3:=hg.len;refine d9 (Ap hw) ?_;refine d4 ?_;refine t6 (bF (p:=((n:Nat):Int)<1) (by omega)) ?_;refine t6 (bF (p:=((n:Nat):Int)>64) (by omega)) ?_;refine j7 el_edge hw ?_;refine d4 ?_;refine t6 (bF (p:=((es.length:Nat):Int)>200) (by omega)) ?_;refine Ee (cs:= #[ii 0,ii 0]) JV fun b hb=> ?_;simp only[cA,nA];refine gz (vs:=[ii (-1),ii (-1)]) il rfl rfl rfl (PH.put_self _ _ _) rfl (by intro c hc;simp at hc;rcases hc with rfl|rfl<;>rfl) (j4 rfl (e1d _)) (fun h=>(nomatch h)) ?_;simp only[cA,nA];have l1:=PH.le_put2 hb (.cells #[ii 0,ii 0] 99 (0,0)) (.cells #[ii (-1),ii (-1)] 99 (0,0));have b1:=PH.put_self (H.put b (.cells #[ii 0,ii 0] 99 (0,0))) b (.cells #[ii (-1),ii (-1)] 99 (0,0));generalize (H.put b (.cells #[ii 0,ii 0] 99 (0,0))).put b (.cells #[ii (-1),ii (-1)] 99 (0,0))=H1 at l1 b1;refine j7 el_edge (hw.mono l1) ?_;refine s9 (α:=Nat×Int) (fun⟨i,p⟩=>[ii p,ii (i:Nat)]) (fun⟨i,p⟩=>fun H'=>i<=es.length/\PH.le H H'/\H' b=some (.cells #[ii (bef es i).1,ii (bef es i).2] 99 (0,0))) (fun⟨i,p⟩=>es.length-i) ((0,0)) rfl (⟨bI _,l1,b1⟩) fun⟨i,p⟩ H' hQ=> ?_;simp only[cA,nA];obtain⟨hi,l2,b2⟩:=hQ;refine d4 (d4 ?_);refine i0 (b:=decide (((i:Nat):Int)<(es.length:Nat))) rfl (fun h=> ?_) (fun h=> ?_)
 ·replace h:=oDt h;have pW:i<es.length:=by omega
  obtain⟨x,hx,tB⟩:=t7 pW;obtain⟨sZ,rR⟩:=hg.mem hx;refine j8 el_edge (hw.mono l2) hx fun _=> ?_;simp only[cA,nA];refine Ee (cs:= #[ii 0,ii 0]) JV fun c hc=> ?_;simp only[cA,nA];refine gz (vs:=(ec x)) il rfl rfl rfl (PH.put_self _ _ _) rfl (el_edge.one x) rfl (fun h=>(nomatch h)) ?_;simp only[cA,nA];have l3:=PH.le_put2 hc (.cells #[ii 0,ii 0] 99 (0,0)) (.cells (ec x).toArray 99 (0,0));have b3:=PH.put_self (H'.put c (.cells #[ii 0,ii 0] 99 (0,0))) c (.cells (ec x).toArray 99 (0,0));have qR:=l3 _ _ b2;generalize (H'.put c (.cells #[ii 0,ii 0] 99 (0,0))).put c (.cells (ec x).toArray 99 (0,0))=H2 at l3 b3 qR;refine ic (m:=0) ar_2 rfl rfl rfl rfl rfl b3 (by decide) rfl rfl rfl ?_;simp only[cA,nA];refine d4 ?_;refine t6 (bF (p:=((x.1:Nat):Int)<0) (by omega)) ?_;refine ic (m:=0) ar_2 rfl rfl rfl rfl rfl b3 (by decide) rfl rfl rfl ?_;simp only[cA,nA];refine ic (m:=1) ar_2 rfl rfl rfl rfl rfl b3 (by decide) rfl rfl rfl ?_;simp only[cA,nA];refine d4 (d4 ?_);refine t6 (bF (p:=((x.1:Nat):Int)≥(x.2:Nat)) (by omega)) ?_;refine ic (m:=1) ar_2 rfl rfl rfl rfl rfl b3 (by decide) rfl rfl rfl ?_;simp only[cA,nA];refine d4 ?_;refine t6 (bF (p:=((x.2:Nat):Int)≥(n:Nat)) (by omega)) ?_;refine r7 ((Xy rfl rfl ar_2.und sc_int.has).rds _) rfl ?_;simp only[cA,nA];refine r7 ((Xy rfl rfl ar_2.und sc_int.has).rds _) rfl ?_;simp only[cA,nA];refine Aq (c6U (l:=[(bef es i).1,(bef es i).2]) (m:=[(x.1:Int),(x.2:Int)]) (ig qR rfl rfl (show 2<=maxLen by decide)) (ig b3 rfl rfl (show 2<=maxLen by decide))) rfl ?_;simp only[cA,nA];have pO:=d6Z hg hx;refine d4 ?_;refine t6 (bF (p:=Aj [(bef es i).1,(bef es i).2] [(x.1:Int),(x.2:Int)]≥0) (by omega)) ?_;refine Fj (vs:=ec x) il rfl rfl b3 rfl (by simp) rfl ?_;simp only[cA,nA];refine gz (vs:=(ec x)) il rfl rfl rfl qR rfl (el_edge.one x) rfl (fun h=>(nomatch h)) ?_;simp only[cA,nA];exact⟨(i+1,p),by show es.length-(i+1)<es.length-i;omega,(j4 rfl (i9 rfl (by omega))),⟨by show i+1<=_;omega,PH.le_put_of (l2.trans l3) hb,by simp only[bef,hx];exact PH.put_self _ _ _⟩⟩
 ·replace h:=oDf h;exact g8 rfl ⟨l2,rfl⟩
end
end Go.Proofs.Z
/- Neighbours. -/
namespace Go.GS
theorem Hy {α:Type} {p:List α->Prop} (nil:p []) (snoc:∀l a,p l->p (l++[a])) (l:List α):p l:=by
 have:∀l:List α,p l.reverse:=by
  intro l;induction l with
  |nil=>exact nil
  |cons a l ih=>rw[List.reverse_cons];exact snoc _ _ ih
 have h:=this l.reverse
 rwa[List.reverse_reverse]at h
def nb (es:List (Nat×Nat)) (x:Nat):Nat:=es.foldl (fun s e=>if e.1=x then s|||2^e.2 else if e.2=x then s|||2^e.1 else s) 0
theorem im (es:List (Nat×Nat)) (e:Nat×Nat) (x:Nat):nb (es++[e]) x=if e.1=x then nb es x|||2^e.2 else if e.2=x then nb es x|||2^e.1 else nb es x:=by
 unfold nb;rw[List.foldl_append];rfl
def nbs (n:Nat) (es:List (Nat×Nat)):List Nat:=(List.range n).map (nb es)
theorem d2B (n:Nat):nbs n []=List.replicate n 0:=by
 unfold nbs;apply List.ext_getElem
 ·simp
 ·intro i h1 h2;simp[nb]
theorem Vf (n:Nat) (es:List (Nat×Nat)):(nbs n es).length=n:=by simp[nbs]
theorem Zb {n x:Nat} (es:List (Nat×Nat)) (h:x<n):(nbs n es)[x]? =some (nb es x):=by simp[nbs,h]
theorem c6V (n:Nat) (es:List (Nat×Nat)) (e:Nat×Nat) (h:e.1<e.2):((nbs n es).set e.1 (nb es e.1|||2^e.2)).set e.2 (nb es e.2|||2^e.1)=nbs n (es++[e]):=by
 apply List.ext_getElem?;intro i;by_cases hi:i<n
 ·rw[Zb _ hi,im];by_cases h2:e.2=i
  ·subst h2;rw[jA (by simp[Vf,hi]),if_neg (by omega),if_pos rfl]
  ·rw[iE h2];by_cases h1:e.1=i
   ·subst h1;rw[jA (by simp[Vf,hi]),if_pos rfl]
   ·rw[iE h1,Zb _ hi,if_neg h1,if_neg h2]
 ·rw[aW (by simp[Vf];omega),aW (by simp[Vf];omega)]
theorem JW (es:List (Nat×Nat)) (x y:Nat):bit (nb es x) y=true↔∃e∈es,(e.1=x/\e.2=y)\/(e.1≠x/\e.2=x/\e.1=y):=by
 induction es using Hy with
 |nil=>simp[nb,bit]
 |snoc es e ih=>
  rw[im];simp only[List.mem_append,aQ];constructor
  ·intro h;split at h
   ·rename_i h1;rw[Ac,Ae,bW]at h;rcases h with h|h
    ·obtain⟨a,h2,h3⟩:=ih.1 h;exact⟨a,.inl h2,h3⟩
    ·exact⟨e,.inr rfl,.inl ⟨h1,by simpa using h⟩⟩
   ·split at h
    ·rename_i h1 h2;rw[Ac,Ae,bW]at h;rcases h with h|h
     ·obtain⟨a,h3,h4⟩:=ih.1 h;exact⟨a,.inl h3,h4⟩
     ·exact⟨e,.inr rfl,.inr ⟨h1,h2,by simpa using h⟩⟩
    ·obtain⟨a,h2,h3⟩:=ih.1 h;exact⟨a,.inl h2,h3⟩
  ·rintro⟨a,h2|rfl,h3⟩
   ·have:=ih.2 ⟨a,h2,h3⟩;split
    ·rw[Ac,this];rfl
    ·split
     ·rw[Ac,this];rfl
     ·exact this
   ·rcases h3 with⟨h3,h4⟩|⟨h3,h4,h5⟩
    ·rw[if_pos h3,Ac,Ae];simp[h4]
    ·rw[if_neg h3,if_pos h4,Ac,Ae];simp[h5]
theorem ww {n:Nat} {es:List (Nat×Nat)} (h:∀e∈es,e.1<e.2/\e.2<n) (hn:n<=64) (x:Nat):nb es x<M64:=by
 induction es using Hy with
 |nil=>exact(by decide:0<M64)
 |snoc es e ih=>
  have ih:=ih fun a ha=>h a (List.mem_append_left _ ha);have he:=h e (List.mem_append_right _ (aQ.2 rfl));rw[im];split
  ·exact Hv ih (An (by omega))
  ·split
   ·exact Hv ih (An (by omega))
   ·exact ih
end Go.GS
/- Chapter 32: graphs, part 2. -/
namespace Go.Proofs.Z
open Go.Proofs.Tryz
open Go.RowKit Go.RX Go.GS
theorem wz:s7 prog 54=uv 0:=by kernel_rfl
theorem Rr:s7 prog 3=ii 0:=by kernel_rfl
theorem b1w {l:List Int} {x y:Int}:(l++[x]).contains y=(l.contains y||(y==x)):=by
 rw[Bool.eq_iff_iff];simp[List.contains_iff_mem]
theorem take_snoc {α:Type} {l:List α} {i:Nat} {x:α} (h:l[i]? =some x):l.take (i+1)=l.take i++[x]:=by rw[List.take_add_one,h];rfl
section
variable {H:PH} {n:Nat} {w:Value} {es:List (Nat×Nat)}
theorem d2E (hw:SG H w es) (hg:GV n es):Con prog 223 [gv n w] H fun u H'=>PH.le H H'/\SO H H' 54 1 (fun s:Nat=>[uv s]) u (nbs n es):=by
 refine j3 mixed Z2 ?_;have h1:=hg.n1;have h2:=hg.n64;have h3:=hg.len;have pO:∀i x,nb (es.take i) x<M64:=fun i x=>ww (fun e he=>hg.ed e (List.mem_of_mem_take he)) h2 x;refine d9 (Ap hw) ?_;refine Ux el_u64 (z:=(0:Nat)) wz rfl rfl rfl (by omega) rfl fun v H1 l1 o1 _=> ?_;simp only[cA,nA];rw[<-d2B]at o1;refine j7 el_edge (hw.mono l1) ?_;refine s9 (α:=Nat) (fun i=>[ii (i:Nat)]) (fun i=>fun H'=>i<=es.length/\PH.le H H'/\SO H H' 54 1 (fun s:Nat=>[uv s]) v (nbs n (es.take i))) (fun i=>es.length-i) (0) rfl (⟨bI _,l1,o1⟩) fun i H' hQ=> ?_;simp only[cA,nA];obtain⟨hi,l2,o2⟩:=hQ;refine d4 (d4 ?_);refine i0 (b:=decide (((i:Nat):Int)<(es.length:Nat))) rfl (fun h=> ?_) (fun h=> ?_)
 ·replace h:=oDt h;have pW:i<es.length:=by omega
  obtain⟨x,hx,tB⟩:=t7 pW;obtain⟨sZ,rR⟩:=hg.mem hx;refine j8 el_edge (hw.mono l2) hx fun _=> ?_;simp only[cA,nA];refine d9 (el_edge.vcells x) ?_;refine Do el_u64 rfl rfl rfl rfl (fun _=>rfl) o2.se (Zb _ (show x.1<n by omega)) rfl (fun _=>rfl) fun _=> ?_;simp only[cA,nA];refine d9 ⟨_,_,rfl⟩ ?_;refine d9 (by show(0:Int)<=((x.2:Nat):Int);omega) ?_;refine d4 ?_;refine Dp el_u64 (a:=nb (es.take i) x.1|||2^x.2) rfl rfl rfl rfl (fun _=>rfl) (fun _=>rfl) l2 o2 (by rw[Vf];omega) rfl (fun _=>j4 rfl (Cb rfl (Ez rfl (by omega)) (pO _ _) (An (by omega)))) rfl fun p u H2 l3 o3 _=> ?_;simp only[cA,nA];refine Do el_u64 rfl rfl rfl rfl (fun _=>rfl) o3.se (show _=some (nb (es.take i) x.2) by rw[iE (by omega),Zb _ (by omega)]) rfl (fun _=>rfl) fun _=> ?_;simp only[cA,nA];refine d9 ⟨_,_,rfl⟩ ?_;refine d9 (by show(0:Int)<=((x.1:Nat):Int);omega) ?_;refine d4 ?_;refine Dp el_u64 (a:=nb (es.take i) x.2|||2^x.1) rfl rfl rfl rfl (fun _=>rfl) (fun _=>rfl) l3 o3 (by rw[List.length_set,Vf];omega) rfl (fun _=>j4 rfl (Cb rfl (Ez rfl (by omega)) (pO _ _) (An (by omega)))) rfl fun p2 u2 H3 l4 o4 _=> ?_;simp only[cA,nA];rw[c6V n _ x sZ,<-take_snoc hx]at o4;exact⟨i+1,by omega,(z8 (i9 rfl (by omega))),⟨by omega,l4,o4⟩⟩
 ·replace h:=oDf h;rw[aK (by omega)]at o2;exact g8 rfl ⟨l2,o2⟩
theorem c1Q:Au prog 250=true:=by kernel_rfl
def Dh (b s:Nat):PH:=PH.nil.put b (.cells #[uv s] 54 (0,0))
theorem c6W {s:Nat}:Con prog 224 [uv s] H fun u H'=>∃b,H b=none/\H'=H.or (Dh b s)/\u= .func (.func 250) #[] #[.pointer (some ⟨b,0,none⟩)]:=by
 refine j3 mixed Z4 ?_;refine d9 (el_u64.vcells s) ?_;refine Ee (cs:= #[uv s]) rfl fun b hb=> ?_;refine He (La (vs:=[.pointer (some ⟨b,0,none⟩)]) rfl rfl) rfl ?_;exact g8 rfl ⟨b,hb,PH.put_or hb,rfl⟩
theorem bN (a b:Int):Value.bool (a !=b)= .bool (decide (a≠b)):=by
 by_cases h:a=b<;>simp[h]
theorem bE (a b:Int):Value.bool (a==b)= .bool (decide (a=b)):=by
 by_cases h:a=b<;>simp[h]
theorem bN0 (s:Nat):Value.bool (((s:Nat):Int) !=0)= .bool (decide (s≠0)):=by
 rw[bN];congr 1;apply decide_eq_decide.2;omega
theorem bE0 (s:Nat):Value.bool (((s:Nat):Int)==0)= .bool (decide (s=0)):=by
 rw[bE];congr 1;apply decide_eq_decide.2;omega
theorem ip (b s:Nat):Dh b s b=some (.cells #[uv s] 54 (0,0)):=PH.put_self _ _ _
theorem c6X {X:PH} {b s t:Nat} (h:X b=none):(X.or (Dh b s)).put b (.cells #[uv t] 54 (0,0))=X.or (Dh b t):=by
 rw[PH.or_put h];unfold Dh;rw[PH.put_put]
theorem xa {X:PH} {b:Nat} (s:Nat) (h:X b=none):Disj X (Dh b s):=Yr (vv X) h
theorem c1R {X:PH} {b s:Nat} (h:Disj X (Dh b s)):X b=none:=Disj.none h (b:=b) (by rw[ip];exact fun h=>nomatch h)
abbrev nxs (s:Nat):List (List Value):=(els s).map fun x:Nat=>[ii (x:Int)]
theorem c1S {b s:Nat} {Ro:PH} (hs:s<M64) (hT:Tb Ro):ItC prog 250 [.pointer (some ⟨b,0,none⟩)] Ro (Dh b s) (fun pre xs=>∃x,(els s)[pre.length]? =some x/\xs=[ii (x:Nat)]/\pre=((els s).take pre.length).map fun x:Nat=>[ii (x:Int)]) (fun xs _=>xs=nxs s) (fun _ _=>True):=by
 intro l J Jx vR hr X hX hd w hw;refine(Aa (H:=X.or (Dh b s)) (V:=fun _ H'=>∃X' K',PH.le (X'.or K') H'/\Disj X' K'/\((∃xs,xs=nxs s/\J xs X')\/(∃pre,True/\Jx pre X'))) mixed Z5 (by kernel_rfl) rfl ?_ w hw).mono fun e w' ⟨v,H',he,qA,hV⟩=>⟨v,H',he,qA,hV⟩;refine s9 (α:=Nat×Nat×PH) (fun⟨k,s',X'⟩=>[]) (fun⟨k,s',X'⟩=>fun H'=>k<=(els s).length/\s'<M64/\els s'=(els s).drop k/\H'=X'.or (Dh b s')/\J (((els s).take k).map fun x:Nat=>[ii (x:Int)]) X'/\Disj X' (Dh b s')) (fun⟨k,s',X'⟩=>(els s).length-k) ((0,s,X)) rfl (⟨bI _,hs,rfl,rfl,hX,hd⟩) fun⟨k,s',X'⟩ H' hQ=> ?_;obtain⟨hk,qF,he,rfl,hJ,qB⟩:=hQ;have hb:=PH.or_right qB (ip b s');refine w9 Hw rfl rfl hb rfl rfl ?_;refine d4 ?_;refine r9 (p:=(s'≠0)) (bN0 s') (fun h=> ?_) fun h=> ?_
 ·refine w9 Hw rfl rfl hb rfl rfl ?_;obtain⟨x,r,rJ⟩:∃x r,els s'=x::r:=by
   cases rJ:els s' with
   |nil=>exact absurd (Uz qF rJ) h
   |cons x r=>exact⟨x,r,rfl⟩
  have htz:tz s'=x:=by simp[tz,rJ]
  have qO:k<(els s).length:=by
   apply Nat.lt_of_not_le;intro hh;rw[dW hh,rJ]at he;cases he
  obtain⟨y,hy,vC⟩:=t7 qO;rw[<-he,rJ]at vC;obtain⟨rfl,hr'⟩:=List.cons.inj vC;refine Aq (Yu ((hT.mono (vR _ _ hJ)).mono (PH.le_or _ _)) qF) rfl ?_;rw[htz];refine Ys (hr _ [ii (x:Nat)] X' (Dh b s') ⟨x,by simp[cD hk,hy],rfl,by simp[cD hk]⟩ hJ qB) rfl rfl rfl rfl rfl fun v X2 qE hV=> ?_;obtain⟨bb,rfl,qQ,qR⟩:∃bb,v= .bool bb/\(bb=true->J ((((els s).take k).map fun x:Nat=>[ii (x:Int)])++[[ii (x:Nat)]]) X2)/\(bb=false->Jx ((((els s).take k).map fun x:Nat=>[ii (x:Int)])++[[ii (x:Nat)]]) X2):=by
   rcases hV with⟨rfl,h⟩|⟨rfl,h⟩
   ·exact⟨true,rfl,fun _=>h,(fun h=>nomatch h)⟩
   ·exact⟨false,rfl,(fun h=>nomatch h),fun _=>h⟩
  refine d4 ?_;refine i0 (b:= !bb) rfl (fun qZ=> ?_) (fun qZ=> ?_)
  ·skip
   exact g8 rfl ⟨X2,Dh b s',PH.le.refl _,qE,.inr ⟨_,trivial,qR (by simpa using qZ)⟩⟩
  ·skip
   have rW:=c1R qE;have qR:=PH.or_right qE (ip b s');refine w9 Hw rfl rfl qR rfl rfl ?_;refine w9 Hw rfl rfl qR rfl rfl ?_;refine d4 (d4 ?_);refine Oq Hw rfl rfl rfl qR (by simp) rfl rfl (j4 rfl (Ej rfl (Yz (B:=1) rfl rfl qF (by omega)) qF (aY (Nat.sub_le _ _) qF))) (fun h=>(nomatch h)) ?_;exact⟨(k+1,s'&&&(s'-1),X2),by show(els s).length-(k+1)<(els s).length-k;omega,rfl,⟨qO,gw qF,by rw[wc qF rJ,hr'],c6X rW,by rw[take_snoc hy,List.map_append];exact qQ (by simpa using qZ),xa _ rW⟩⟩
 ·have h0:s'=0:=by omega
  rw[h0,wa]at he;have sV:(els s).length<=k:=by
   apply Nat.le_of_not_lt;intro hh;rw[dI hh]at he;cases he
  rw[aK sV]at hJ;exact g8 rfl ⟨X',Dh b s',PH.le.refl _,qB,.inl ⟨_,rfl,hJ⟩⟩
end
end Go.Proofs.Z

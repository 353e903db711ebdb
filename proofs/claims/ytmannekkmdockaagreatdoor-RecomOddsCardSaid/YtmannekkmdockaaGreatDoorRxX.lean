/- Lemmas of the proof. -/
import Derived.Test.YtmannekkmdockaaGreatDoorGaT
import Derived.Test.YtmannekkmdockaaGreatDoorWdK
open Int renaming emod_eq_of_lt->jR,fdiv_eq_ediv_of_nonneg->jM
open List renaming drop_succ_cons->jF,mem_of_mem_drop->mP,pairwise_cons->fG,pairwise_lt_range->lY,range->eP,size_toArray->iR,sum_cons->kM
open Nat renaming add_comm->fL,and_le_left->jG,and_two_pow_sub_one_eq_mod->kW,eq_of_testBit_eq->iZ,mod_two_eq_zero_or_one->lM,mul_add->eS,or_lt_two_pow->kX,pow_add->fE,pow_succ->jN,testBit_and->iH,testBit_lt_two_pow->mH,testBit_two_pow->kJ,testBit_two_pow_mul_add->gJ,two_mul->pM,two_pow_pos->iQ
open Go.IntKind renaming wrap->wQ
namespace Go.GS
open RX
def uv (s:Nat):Value:= .int .u64 (s:Nat)
def ii (z:Int):Value:= .int .i64 z
abbrev M64:Nat:=18446744073709551616
theorem Uw {a:Nat} (h:a<M64):(BitVec.ofInt 64 (a:Int)).toNat=a:=by
 have h:a<18446744073709551616:=h;rw[BitVec.toNat_ofInt];simp;omega
theorem u64_and {a b:Nat} (ha:a<M64) (hb:b<M64):wQ .u64 ((BitVec.ofInt (IntKind.bits .u64) (a:Int)&&&BitVec.ofInt (IntKind.bits .u64) (b:Int)).toNat:Int)=((a&&&b:Nat):Int):=by
 have e:(BitVec.ofInt 64 (a:Int)&&&BitVec.ofInt 64 (b:Int)).toNat=a&&&b:=by rw[BitVec.toNat_and,Uw ha,Uw hb]
 show wQ .u64 ((BitVec.ofInt 64 (a:Int)&&&BitVec.ofInt 64 (b:Int)).toNat:Int)=_;rw[e,IntKind.wrap_u64];have:=Nat.and_lt_two_pow a (n:=64) (y:=b) (by simpa using hb);exact jR aA aA
theorem u64_or {a b:Nat} (ha:a<M64) (hb:b<M64):wQ .u64 ((BitVec.ofInt (IntKind.bits .u64) (a:Int)|||BitVec.ofInt (IntKind.bits .u64) (b:Int)).toNat:Int)=((a|||b:Nat):Int):=by
 have e:(BitVec.ofInt 64 (a:Int)|||BitVec.ofInt 64 (b:Int)).toNat=a|||b:=by rw[BitVec.toNat_or,Uw ha,Uw hb]
 show wQ .u64 ((BitVec.ofInt 64 (a:Int)|||BitVec.ofInt 64 (b:Int)).toNat:Int)=_;rw[e,IntKind.wrap_u64];have:=kX (n:=64) (x:=a) (y:=b) (by simpa using ha) (by simpa using hb);exact jR aA aA
def sdf (a b:Nat):Nat:=a^^^(a&&&b)
theorem LH (a b i:Nat):(sdf a b).testBit i=(a.testBit i&& !b.testBit i):=by
 unfold sdf;rw[Nat.testBit_xor,iH];cases a.testBit i<;>cases b.testBit i<;>rfl
theorem sdf_lt {a b:Nat} (ha:a<M64):sdf a b<M64:=by
 have h1:a&&&b<2^64:=aZ jG (by simpa using ha);exact Nat.xor_lt_two_pow (n:=64) (by simpa using ha) h1
theorem u64_andn {a b:Nat} (ha:a<M64) (hb:b<M64):wQ .u64 ((BitVec.ofInt (IntKind.bits .u64) (a:Int)&&& ~~~BitVec.ofInt (IntKind.bits .u64) (b:Int)).toNat:Int)=((sdf a b:Nat):Int):=by
 have e:(BitVec.ofInt 64 (a:Int)&&& ~~~BitVec.ofInt 64 (b:Int)).toNat=sdf a b:=by
  apply iZ;intro i;rw[BitVec.toNat_and,LH,iH,Uw ha,<-BitVec.getLsbD,BitVec.getLsbD_not,BitVec.getLsbD,Uw hb];by_cases hi:i<64
  ·simp[hi]
  ·have:a.testBit i=false:=mH (aU (by simpa using ha:a<2^64) (aR aA aA));simp[this]
 show wQ .u64 ((BitVec.ofInt 64 (a:Int)&&& ~~~BitVec.ofInt 64 (b:Int)).toNat:Int)=_;rw[e,IntKind.wrap_u64];have:=sdf_lt (b:=b) ha;exact jR aA (by simp only[M64]at this;omega)
theorem u64_shl {a k:Nat} (hk:k<64):wQ .u64 ((a:Int)*2^(min ((k:Nat):Int).toNat (IntKind.bits .u64)))=((a*2^k%M64:Nat):Int):=by
 have e:min ((k:Nat):Int).toNat (IntKind.bits .u64)=k:=by show min ((k:Nat):Int).toNat 64=k;rw[aV];omega
 rw[e,IntKind.wrap_u64];simp[M64]
theorem u64_shr {a k:Nat}:(a:Int).fdiv (2^(min ((k:Nat):Int).toNat (IntKind.bits .u64)))=((a/2^(min k 64):Nat):Int):=by
 show(a:Int).fdiv (2^(min ((k:Nat):Int).toNat 64))=_;rw[aV,show(2:Int)^(min k 64)=((2^(min k 64):Nat):Int)from aD,jM _ (Int.natCast_nonneg _)];simp
theorem u64_neg {a:Nat} (ha:a<M64):wQ .u64 (0-(a:Int))=(((M64-a)%M64:Nat):Int):=by
 rw[IntKind.wrap_u64];simp only[M64]at*;omega
theorem u64_sub {a b:Nat} (ha:a<M64) (hb:b<=a):wQ .u64 ((a:Int)-(b:Int))=((a-b:Nat):Int):=by
 rw[IntKind.wrap_u64];simp only[M64]at*;omega
def bit (s x:Nat):Bool:=s.testBit x
theorem ye {s x:Nat} (hs:s<M64) (hx:64<=x):bit s x=false:=
 mH (aU (by simpa using hs:s<2^64) (aR aA hx))
theorem Bz {s x:Nat} (hs:s<M64) (h:bit s x=true):x<64:=by
 rcases dV x 64 with h1|h1
 ·exact h1
 ·rw[ye hs h1]at h;cases h
theorem Gl (a b x:Nat):bit (a&&&b) x=(bit a x&&bit b x):=iH ..
theorem Ac (a b x:Nat):bit (a|||b) x=(bit a x||bit b x):=Nat.testBit_or ..
theorem z6 (a b x:Nat):bit (sdf a b) x=(bit a x&& !bit b x):=LH ..
theorem Ah (k x:Nat):bit (2^k) x=decide (k=x):=kJ ..
theorem Dc (x:Nat):bit 0 x=false:=Nat.zero_testBit x
theorem Ao {a b:Nat} (h:∀x,bit a x=bit b x):a=b:=iZ h
theorem c2D {a b:Nat} (ha:a<M64) (hb:b<M64) (h:∀x,x<64->bit a x=bit b x):a=b:=Ao fun x=>by
 rcases dV x 64 with h1|h1
 ·exact h x h1
 ·rw[ye ha h1,ye hb h1]
theorem Aq {k:Nat} (h:k<64):2^k<M64:=by
 have:=dA (a:=2) aA h;exact this
theorem d3z {k:Nat} (h:k<64):1*2^k%M64=2^k:=by rw[cM,cP (Aq h)]
theorem Hy {a b:Nat} (ha:a<M64) (hb:b<M64):a|||b<M64:=kX (n:=64) (by simpa using ha) (by simpa using hb)
theorem jy {a b:Nat} (ha:a<M64):a&&&b<M64:=aZ jG ha
theorem d3A {a b:Nat} (hb:b<M64):a&&&b<M64:=aZ Nat.and_le_right hb
theorem d3B {s x:Nat}:((s/2^x)&&&1:Nat)=if bit s x then 1 else 0:=by
 have h1:bit s x=((s/2^x)&&&1 !=0):=by
  unfold bit Nat.testBit;rw[Nat.shiftRight_eq_div_pow,Nat.and_comm]
 rw[h1,Nat.and_one_is_mod];rcases lM (s/2^x)with h|h<;>simp[h]
theorem yf {s x:Nat} (h:s<M64):s/2^x<M64:=aZ (Nat.div_le_self _ _) h
def els (s:Nat):List Nat:=(eP 64).filter (bit s)
theorem Jj {s x:Nat} (hs:s<M64):x∈els s↔bit s x=true:=by
 unfold els;rw[bT,bR];exact⟨fun h=>h.2,fun h=>⟨Bz hs h,h⟩⟩
theorem c8v {s x:Nat} (h:x∈els s):x<64/\bit s x=true:=by
 unfold els at h;rw[bT,bR]at h;exact h
theorem yg:els 0=[]:=by
 unfold els;rw[List.filter_eq_nil_iff];intro x _;simp[Dc]
theorem Yz {s:Nat} (hs:s<M64) (h:els s=[]):s=0:=c2D hs aC fun x hx=>by
 rw[Dc];cases e:bit s x with
 |false=>rfl
 |true=>have:=(Jj hs).2 e;rw[h]at this;cases this
theorem LI {s k:Nat} (hk:bit s k=true) (hl:∀j,j<k->bit s j=false):s=2^(k+1)*(s/2^(k+1))+2^k:=by
 have h:=Nat.div_add_mod s (2^(k+1));have e:s%2^(k+1)=2^k:=by
  apply iZ;intro i;rw[Nat.testBit_mod_two_pow,kJ];by_cases h1:i<k
  ·have:=hl i h1;unfold bit at this;simp[this,show ¬k=i from aA]
  ·by_cases h2:i=k
   ·subst h2;unfold bit at hk;simp[hk]
   ·simp[show ¬i<k+1 from aA,show ¬k=i from fun e=>h2 e.symm]
 rw[e]at h;exact h.symm
theorem jz {s k:Nat} (hk:bit s k=true) (hl:∀j,j<k->bit s j=false) (i:Nat):bit (s-1) i=if i<k then true else if i=k then false else bit s i:=by
 have h:=LI hk hl;have h2:=iQ k;generalize s/2^(k+1)=q at h;have e1:s-1=2^(k+1)*q+(2^k-1):=aA;have pX:2^k-1<2^(k+1):=by rw[jN];omega
 have a1i:2^k<2^(k+1):=by rw[jN];omega
 unfold bit;rw[e1,gJ _ pX];rw[h,gJ _ a1i,Nat.testBit_two_pow_sub_one,kJ];by_cases c1:i<k
 ·simp[c1,show i<k+1 from aA]
 ·by_cases c2:i=k
  ·subst c2;simp
  ·simp[c1,c2,show ¬i<k+1 from aA]
theorem Za {s x:Nat} {r:List Nat} (h:els s=x::r):bit s x=true/\x<64/\∀j,j<x->bit s j=false:=by
 have hm:=c8v (s:=s) (x:=x) (by rw[h];simp);refine⟨hm.2,hm.1,fun j hj=> ?_⟩;cases e:bit s j with
 |false=>rfl
 |true=>
  have hp:(els s).Pairwise (· < ·):=lY.filter _;have sU:j∈els s:=by unfold els;rw[bT,bR];exact⟨aA,e⟩
  rw[h]at sU hp;rcases aP.1 sU with rfl|sU
  ·omega
  ·have:=(fG.1 hp).1 j sU;omega
theorem yh (s:Nat):(els s).Pairwise (· < ·):=lY.filter _
theorem b9M:∀{a b:List Nat},a.Pairwise (· < ·)->b.Pairwise (· < ·)->(∀x,x∈a↔x∈b)->a=b:=by
 intro a;induction a with
 |nil=>intro b _ _ h;cases b with
  |nil=>rfl
  |cons y b=>exact absurd ((h y).2 aD) aD
 |cons x a ih=>
  intro b ha hb h;cases b with
  |nil=>exact absurd ((h x).1 aD) aD
  |cons y b=>
   rw[fG]at ha hb;have e:x=y:=by
    rcases aP.1 ((h x).1 aD)with h1|h1
    ·exact h1
    ·rcases aP.1 ((h y).2 aD)with h2|h2
     ·exact h2.symm
     ·have:=ha.1 y h2;have:=hb.1 x h1;omega
   subst e;rw[ih ha.2 hb.2 fun z=> ?_];constructor
   ·intro hz;rcases aP.1 ((h z).1 (by simp[hz]))with h1|h1
    ·have:=ha.1 z hz;omega
    ·exact h1
   ·intro hz;rcases aP.1 ((h z).2 (by simp[hz]))with h1|h1
    ·have:=hb.1 z hz;omega
    ·exact h1
theorem LJ {s x:Nat} {r:List Nat} (hs:s<M64) (h:els s=x::r):els (s&&&(s-1))=r:=by
 obtain⟨h1,h2,h3⟩:=Za h;have hp:=yh s;rw[h,fG]at hp;refine b9M (yh _) hp.2 fun y=> ?_;rw[Jj (jy hs),Gl,jz h1 h3];have hy:=Jj (x:=y) hs;rw[h]at hy;constructor
 ·intro hh;rw[bA]at hh;rcases aP.1 (hy.2 hh.1)with rfl|h4
  ·simp at hh
  ·exact h4
 ·intro hh;have h4:=hp.1 y hh;rw[hy.1 (by simp[hh])];simp[show ¬y<x from aA,show ¬y=x from aA]
theorem kf {s x:Nat} {r:List Nat} (hs:s<M64) (h:els s=x::r):s&&&((M64-s)%M64)=2^x:=by
 obtain⟨h1,h2,h3⟩:=Za h;have h0:s≠0:=fun e=>by rw[e,Dc]at h1;cases h1
 apply Ao;intro i;have e1:(M64-s)%M64=2^64-((s-1)+1):=by
  rw[cP aA];show 2^64-s=_;congr 1;omega
 have e2:bit (2^64-((s-1)+1)) i=(decide (i<64)&& !bit (s-1) i):=Nat.testBit_two_pow_sub_succ (by simp only[M64]at hs;omega) i;rw[Gl,e1,e2,jz h1 h3,Ah];by_cases c1:i<x
 ·simp[c1,show ¬x=i from aA]
 ·by_cases c2:i=x
  ·subst c2;simp[h1,h2]
  ·simp[c1,c2,show ¬x=i from fun e=>c2 e.symm];intro h5 _;exact h5
def card (s:Nat):Nat:=(els s).length
end Go.GS
namespace Go.Z
open Proofs.Tryz RowKit RX WD GS
theorem el_int:El prog 32 3 1 false (fun z:Int=>[ii z]) ii where
 und:=aB
 has:=aB
 cel:=aB
 agg:=aB
 pos:=aC
 one1:=fun _=>rfl
 small:=aC
 inf:=⟨(prog.info? 3).getD default,ii 0,aB,aB,aB,rfl,oDt aB⟩
 len:=fun _=>rfl
 val:=fun _=>rfl
 cells:=fun _=>rfl
 one:=fun x c hc=>by simp at hc;subst hc;rfl
theorem el_plan:El prog 33 3 1 false (fun z:Int=>[ii z]) ii where
 und:=aB
 has:=aB
 cel:=aB
 agg:=aB
 pos:=aC
 one1:=fun _=>rfl
 small:=aC
 inf:=⟨(prog.info? 3).getD default,ii 0,aB,aB,aB,rfl,oDt aB⟩
 len:=fun _=>rfl
 val:=fun _=>rfl
 cells:=fun _=>rfl
 one:=fun x c hc=>by simp at hc;subst hc;rfl
theorem el_u64:El prog 76 54 1 false (fun s:Nat=>[uv s]) uv where
 und:=aB
 has:=aB
 cel:=aB
 agg:=aB
 pos:=aC
 one1:=fun _=>rfl
 small:=aC
 inf:=⟨(prog.info? 54).getD default,uv 0,aB,aB,aB,rfl,oDt aB⟩
 len:=fun _=>rfl
 val:=fun _=>rfl
 cells:=fun _=>rfl
 one:=fun x c hc=>by simp at hc;subst hc;rfl
def ec (e:Nat×Nat):List Value:=[ii e.1,ii e.2]
def ev2 (e:Nat×Nat):Value:= .agg #[ii e.1,ii e.2]
theorem el_edge:El prog 35 99 2 true ec ev2 where
 und:=aB
 has:=aB
 cel:=aB
 agg:=aB
 pos:=aC
 one1:=fun h=>by cases h
 small:=aC
 inf:=⟨(prog.info? 99).getD default,.agg #[ii 0,ii 0],aB,aB,aB,rfl,oDt aB⟩
 len:=fun _=>rfl
 val:=fun _=>rfl
 cells:=fun _=>rfl
 one:=fun x c hc=>by simp[ec]at hc;rcases hc with rfl|rfl<;>rfl
theorem LK {n:Nat} (h:n<9223372036854775808):wQ .i64 (n:Int)=n:=by rw[IntKind.wrap_i64];omega
theorem d3C (k:IntKind) (a:Int):unV .neg k a= .int k (k.wrap (0-a)):=rfl
theorem c2E (k:IntKind) (a:Int):intOf (.int k a)=a:=rfl
def tabL:List Nat:=[0,1,56,2,57,49,28,3,61,58,42,50,38,29,17,4,62,47,59,36,45,43,51,22,53,39,33,30,24,18,12,5,63,55,48,27,60,41,37,16,46,35,44,21,52,32,23,11,54,26,40,15,34,20,31,10,25,14,19,9,13,8,7,6]
def Tb (H:PH):Prop:=∃T fz,H 0=some (.cells (tabL.map fun n=>Value.int .u8 (n:Nat)).toArray T fz)
theorem Tb.mono {H H':PH} (h:Tb H) (hl:Pl H H'):Tb H':=by
 obtain⟨T,fz,h⟩:=h;exact⟨T,fz,hl _ _ h⟩
def tz (s:Nat):Nat:=(els s).headD 64
theorem d7p:∀k,k<64->tabL[(2^k*285870213051353865%18446744073709551616)/288230376151711744]? =some k:=aC
section
variable {H:PH} {s:Nat}
theorem kg (hT:Tb H) (hs:s<M64):Con prog 122 [uv s] H fun u H'=>H'=H/\u=ii (tz s):=by
 obtain⟨T,fz,hT⟩:=hT;refine s9 mixed d9Z aB rfl (d4 ⟨_,rfl⟩ (g7 (b:=decide (s=0)) ?_ (fun h=> ?_) (fun h=> ?_)))
 ·simp only[rxs,uv];congr 1;rw[bC];simp
 ·have h:=oDt h;subst h;refine g6 rfl ⟨rfl,?_⟩;simp only[rxs,Am,tz,yg];rfl
 ·have h:=oDf h;cases he:els s with
  |nil=>exact absurd (Yz hs he) h
  |cons x r=>
   have hn:=kf hs he;have hx:=(Za he).2.1;have htz:tz s=x:=by simp[tz,he]
   have a1p:=d7p x hx;have pX:=(aH.1 a1p).1;obtain⟨m,hm⟩:∃m,m=(2^x*285870213051353865%18446744073709551616)/288230376151711744:=⟨_,rfl⟩;rw[<-hm]at a1p pX;have pX:m<64:=pX;have e1:((M64-s)%M64:Nat)<M64:=cO _ aC;have ea:[SV.k (Value.pointer (some ⟨0,0,none⟩)),SV.op2 .shr .u64 (.op2 .mul .u64 (.op2 .and .u64 (.v 0) (.op1 .neg .u64 (.v 0))) (.k (.int .u64 285870213051353865))) (.k (.int .u64 58))].map (D prog [uv s])=[.pointer (some ⟨0,0,none⟩),.int .u64 ((m:Nat):Int)]:=by
    simp only[rxs,uv];congr 2;rw[IntKind.wrap_u64];have e58:(2:Int)^min (Int.toNat 58) (IntKind.bits .u64)=288230376151711744:=aC;have e2:∀n:Nat,(n:Int)*285870213051353865%18446744073709551616/288230376151711744=((n*285870213051353865%18446744073709551616/288230376151711744:Nat):Int):=fun n=>by omega
    rw[e58,d3C,c2E,Go.GS.u64_neg hs,Go.GS.u64_and hs e1,hn,jM _ aC,e2,<-hm]
   refine j7 ((fx (P:=prog) (len:=64) (e:=5) rfl rfl rfl aB aB aA aA).rds H) ea ?_;have sL:prog.cellsOf 5=1:=aB;have uW:An prog 5=false:=aB;rw[aV,sL,bK,dN];have hl:=Rk (P:=prog) (o:=opr f122 3 7) (H:=H) (T:=5) c2B rfl hT aB (q:=m) (by rw[sL];simp only[iR,aX];show _<=64;omega) (fun _=>by simp only[iR,aX];show _<64;omega);rw[uW]at hl;have hv:((tabL.map fun n=>Value.int .u8 (n:Nat)).toArray).getD m undef= .int .u8 (x:Nat):=by
    rw[cR,List.getElem?_toArray,bO,a1p];rfl
   simp only[bZ,if_false,hv]at hl;simp only[cA,nA];refine j7 hl rfl ?_;refine d4 ⟨_,rfl⟩ (g6 rfl ⟨rfl,?_⟩);simp only[rxs,Am,htz,ii];rw[LK aA]
end
theorem yi {P:Program} {ρ:List Value} {a:SV} {n:Nat} {k:IntKind} (ha:D P ρ a= .int k (n:Nat)) (h:n<M64):D P ρ (.cv .u64 a)= .int .u64 (n:Nat):=by
 show Value.int .u64 (wQ .u64 (intOf (D P ρ a)))=_;rw[ha];show Value.int .u64 (wQ .u64 (n:Int))= .int .u64 _;congr 1;rw[IntKind.wrap_u64];simp only[M64]at h;omega
end Go.Z
namespace Go.GS
def Fd (s:Nat):List Nat->Nat
 |[]=>0
 |d::l=>d+2^s*Fd s l
def Be:List Nat->List Nat
 |[]=>[]
 |[a]=>[a]
 |a::_::l=>a::Be l
def Mk (s:Nat):Nat->Nat
 |0=>0
 |n+1=>(2^s-1)+2^(2*s)*Mk s n
def Av:List Nat->List Nat->List Nat
 |a::l,b::r=>(a+b)::Av l r
 |l,[]=>l
 |[],r=>r
theorem LL {k p q r t:Nat} (hp:p<2^k) (hr:r<2^k):(p+2^k*q)&&&(r+2^k*t)=(p&&&r)+2^k*(q&&&t):=by
 have h1:p&&&r<2^k:=aZ jG hp;apply iZ;intro i;rw[iH,fL p,fL r,fL (p&&&r),gJ _ hp,gJ _ hr,gJ _ h1];split
 ·rw[iH]
 ·rw[iH]
theorem yj {s:Nat}:∀(n:Nat) (l:List Nat),(∀d∈l,d<2^s)->l.length<=2*n->Fd s l&&&Mk s n=Fd (2*s) (Be l):=by
 intro n;induction n with
 |zero=>
  intro l _ hl;have:l=[]:=aI aA;subst this;simp[Fd,Be,Mk]
 |succ n ih=>
  intro l hd hl;have hp:=iQ s;have hm:2^s-1<2^(2*s):=by
   have:2^s<=2^(2*s):=aR aA aA;omega
  cases l with
  |nil=>simp[Fd,Be]
  |cons a l=>
   have ha:=hd a aD;have ham:a&&&(2^s-1)=a:=by rw[kW,cP ha]
   cases l with
   |nil=>
    have rI:a<2^(2*s):=aA;have:=LL (q:=0) (t:=Mk s n) rI hm;simp only[Fd,Be,Mk,Nat.mul_zero,eF]at this⊢;rw[this,ham];simp
   |cons b l=>
    have hb:=hd b aD;have uD:a+2^s*b<2^(2*s):=by
     rw[pM,fE];have:2^s*(b+1)<=2^s*2^s:=cE _ hb;rw[eS]at this;omega
    have e:Fd s (a::b::l)=(a+2^s*b)+2^(2*s)*Fd s l:=by
     simp only[Fd,eS,<-cY,<-fE,pM,Nat.add_assoc]
    have e2:(a+2^s*b)&&&(2^s-1)=a:=by
     rw[kW,Nat.add_mul_mod_self_left,cP ha]
    rw[e];simp only[Mk,Be,Fd];rw[LL uD hm,e2,ih l (fun d h=>hd d (by simp[h])) (by simp at hl;omega)]
theorem c8w {s d:Nat} {l:List Nat} (hd:d<2^s):Fd s (d::l)/2^s=Fd s l:=by
 simp only[Fd];rw[Nat.add_mul_div_left _ _ (iQ s),Nat.div_eq_of_lt hd,bK]
theorem Zb {s:Nat}:∀(k:Nat) (l:List Nat),(∀d∈l,d<2^s)->Fd s l/2^(k*s)=Fd s (l.drop k):=by
 intro k;induction k with
 |zero=>intro l _;simp
 |succ k ih=>
  intro l hd;cases l with
  |nil=>simp[Fd]
  |cons a l=>rw[cK,cM,fL,fE,<-Nat.div_div_eq_div_mul,c8w (hd a aD),ih l (fun d h=>hd d (by simp[h])),jF]
theorem Zc {s:Nat}:∀(l r:List Nat),Fd s (Av l r)=Fd s l+Fd s r:=by
 intro l;induction l with
 |nil=>intro r;cases r<;>simp[Av,Fd]
 |cons a l ih=>
  intro r;cases r with
  |nil=>simp[Av,Fd]
  |cons b r=>simp only[Av,Fd,ih,eS];omega
theorem e0a {s:Nat}:∀(l:List Nat),(∀d∈l,d<2^s)->Fd s l<2^(s*l.length):=by
 intro l;induction l with
 |nil=>intro _;simp[Fd]
 |cons a l ih=>
  intro hd;have h1:=ih fun d h=>hd d (by simp[h]);have h2:=hd a aD;simp only[Fd,aO];rw[eS,dN,fL (s*l.length),fE];have:2^s*(Fd s l+1)<=2^s*2^(s*l.length):=cE _ h1;rw[eS]at this;omega
theorem yk {B C:Nat}:∀{l r:List Nat},(∀d∈l,d<=B)->(∀d∈r,d<=C)->∀d∈Av l r,d<=B+C:=by
 intro l;induction l with
 |nil=>intro r _ hr d hd;cases r with
  |nil=>simp[Av]at hd
  |cons b r=>simp only[Av]at hd;have:=hr d hd;omega
 |cons a l ih=>
  intro r hl hr d hd;cases r with
  |nil=>simp only[Av]at hd;have:=hl d hd;omega
  |cons b r=>
   simp only[Av,aP]at hd;rcases hd with rfl|hd
   ·have:=hl a aD;have:=hr b aD;omega
   ·exact ih (fun x h=>hl x (by simp[h])) (fun x h=>hr x (by simp[h])) d hd
theorem c2G:∀{n:Nat} {l:List Nat},l.length<=n->∀d∈Be l,d∈l:=by
 intro n;induction n with
 |zero=>intro l hl d hd;have:l=[]:=aI aA;subst this;simp[Be]at hd
 |succ n ih=>
  intro l hl d hd
  match l,hl,hd with
  |[],_,hd=>simp[Be]at hd
  |[a],_,hd=>simpa[Be]using hd
  |a::b::l,hl,hd=>
   simp only[Be,aP]at hd;rcases hd with rfl|hd
   ·simp
   ·have:=ih (l:=l) (by simp at hl;omega) d hd;simp[this]
theorem Zd {B:Nat} {l:List Nat} (h:∀d∈l,d<=B):∀d∈Be l,d<=B:=fun d hd=>h d (c2G (aS _) d hd)
theorem yl {B:Nat} {l:List Nat} (k:Nat) (h:∀d∈l,d<=B):∀d∈l.drop k,d<=B:=fun d hd=>h d (mP hd)
theorem c8x:∀(l r:List Nat),r.length<=l.length->(Av l r).length=l.length:=by
 intro l;induction l with
 |nil=>intro r h;cases r with
  |nil=>rfl
  |cons b r=>simp at h
 |cons a l ih=>intro r h;cases r with
  |nil=>rfl
  |cons b r=>simp only[Av,aO];rw[ih r (by simpa using h)]
def Ez (l:List Nat):List Nat:=Av (Be l) (Be (l.drop 1))
theorem ym:∀(n:Nat) (l:List Nat),l.length=2*n->(Ez l).sum=l.sum/\(Ez l).length=n:=by
 intro n;induction n with
 |zero=>intro l h;have:l=[]:=aI aA;subst this;exact⟨rfl,rfl⟩
 |succ n ih=>
  intro l h
  match l,h with
  | [a, b], h => simp only [aO, bX] at h; obtain rfl : n = 0 := aA
                 simp[Ez,Be,Av]
  |a::b::c::l,h=>
   have:=ih (c::l) (by simp at h⊢;omega);have e:Ez (a::b::c::l)=(a+b)::Ez (c::l):=by
    simp only[Ez,jF,cH,Be,Av]
   rw[e];simp only[kM,aO]at this⊢;omega
def Fq (x n:Nat):List Nat:=(eP n).map fun i=>if x.testBit i then 1 else 0
theorem c2H (x n:Nat):Fq x (n+1)=(if x.testBit 0 then 1 else 0)::Fq (x/2) n:=by
 unfold Fq;rw[List.range_succ_eq_map,aN,cZ];congr 1;apply bW;intro i _;simp only[Function.comp,Nat.testBit_succ]
theorem LM:∀(n x:Nat),x<2^n->Fd 1 (Fq x n)=x:=by
 intro n;induction n with
 |zero=>intro x h;simp at h;subst h;rfl
 |succ n ih=>
  intro x h;rw[c2H];simp only[Fd,Nat.pow_one];rw[ih (x/2) (by rw[jN]at h;omega),Nat.testBit_zero];rcases lM x with h1|h1
  ·simp[h1];omega
  ·simp[h1];omega
theorem d3E (x n:Nat):∀d∈Fq x n,d<=1:=by
 intro d hd;unfold Fq at hd;rw[aY]at hd;obtain⟨i,_,rfl⟩:=hd;split<;>omega
theorem LN (x n:Nat):(Fq x n).length=n:=by simp[Fq]
theorem c2J (x:Nat):(Fq x 64).sum=card x:=by
 unfold Fq card els bit;generalize eP 64=l;induction l with
 |nil=>rfl
 |cons i l ih=>
  rw[aN,kM,ih,List.filter_cons];split
  ·simp;omega
  ·simp
theorem LO {s n B:Nat} {l:List Nat} (hl:l.length=2*n) (hB:∀d∈l,d<=B) (hs:B<2^s) (hx:Fd s l<M64):(Fd s l/2^s&&&Mk s n)+(Fd s l&&&Mk s n)=Fd (2*s) (Ez l):=by
 have hd:∀d∈l,d<2^s:=fun d h=>aZ (hB d h) hs;have h1:=Zb 1 l hd;rw[cM]at h1;rw[h1,yj n _ (fun d h=>hd d (mP h)) (by rw[List.length_drop];omega),yj n l hd aA,fL,<-Zc];rfl
theorem yn {l:List Nat} {s m:Nat} (hl:s*l.length<=64) (h:∀d∈l,d<2^s):Fd s l<M64:=by
 have h1:=e0a l h;have h2:2^(s*l.length)<=2^64:=aR aA hl;exact aU h1 h2
end Go.GS
namespace Go.RX
open RowKit
def Asks (P:Program) (f:FuncId) (args:List Value) (H:PH) (v:Value):Prop:=Con P f args H fun u H'=>H'=H/\u=v
section
variable {P:Program} {G:Value->PH->Prop} {nx:List (List Value->PH->Prop)} {ρ:List Value} {H:PH}
theorem s6 {pf:Bool} {f:FuncId} {args:List SV} {t:Tree} {vs:List Value} {v:Value} (hd:Asks P f vs H v) (ha:args.map (D P ρ)=vs) (n:den P G t nx (ρ++[v]) H):den P G (.call pf f args t) nx ρ H:=
 g9 hd ha fun u H' ⟨h1,h2⟩=>by subst h1;subst h2;exact⟨fun _=>Pl.refl _,n⟩
theorem Ze {F:List Value->PH->Prop} {nx nx':List (List Value->PH->Prop)} {a b:List Value->PH->Prop} (hl:nx.length=nx'.length) (h:∀d l h,nx.getD d F l h->nx'.getD d F l h) (uD:∀l h,a l h->b l h):
  (nx++[a]).length=(nx'++[b]).length/\∀d l h,(nx++[a]).getD d F l h->(nx'++[b]).getD d F l h:=by
 refine⟨by simp[hl],fun d l h' hx=> ?_⟩;rw[aK]at hx⊢;by_cases hd:d<nx.length
 ·rw[bS hd]at hx;rw[bS aA];have:=h d l h';rw[aK,aK]at this;exact this hx
 ·rw[bV aA]at hx;rw[bV aA];rw[<-hl];cases e:d-nx.length with
  |zero=>rw[e]at hx;exact uD l h' hx
  |succ n=>rw[e]at hx;exact hx
theorem c8y:∀(t:Tree) (nx nx':List (List Value->PH->Prop)) (ρ:List Value) (H:PH),nx.length=nx'.length->(∀d l h,nx.getD d (fun _ _=>False) l h->nx'.getD d (fun _ _=>False) l h)->den P G t nx ρ H->den P G t nx' ρ H:=by
 intro t;induction t with
 |ret l=>intro nx nx' ρ H _ _ h;exact h
 |rq r t ih=>intro nx nx' ρ H hl hn h;exact⟨h.1,ih _ _ _ _ hl hn h.2⟩
 |br c t e ih1 ih2=>intro nx nx' ρ H hl hn h;exact⟨fun hc=>ih1 _ _ _ _ hl hn (h.1 hc),fun hc=>ih2 _ _ _ _ hl hn (h.2 hc)⟩
 |call pf f args t ih=>
  intro nx nx' ρ H hl hn h w hw;exact(h w hw).mono fun e w' ⟨v,H',he,hs,hp,hd⟩=>⟨v,H',he,hs,hp,ih _ _ _ _ hl hn hd⟩
 |prim id i o args t ih=>
  intro nx nx' ρ H hl hn h;obtain⟨v,hd,h⟩:=h;exact⟨v,hd,ih _ _ _ _ hl hn h⟩
 |eff pf id i o args t ih=>
  intro nx nx' ρ H hl hn h w hw;exact(h w hw).mono fun u w' ⟨H',hs,hp,hd⟩=>⟨H',hs,hp,ih _ _ _ _ hl hn hd⟩
 |ext f args t ih=>
  intro nx nx' ρ H hl hn h;obtain⟨v,hd,h⟩:=h;exact⟨v,hd,ih _ _ _ _ hl hn h⟩
 |pub T c t ih=>intro nx nx' ρ H hl hn h b hb;exact ih _ _ _ _ hl hn (h b hb)
 |dead n=>intro nx nx' ρ H _ _ h;exact h
 |both t u ih1 ih2=>intro nx nx' ρ H hl hn h;exact⟨ih1 _ _ _ _ hl hn h.1,ih2 _ _ _ _ hl hn h.2⟩
 |rf g np ini tb ta te ih1 ih2 ih3=>
  intro nx nx' ρ H hl hn h;obtain⟨f,caps,X,K,Ro,E,S,Sp,I,Ix,h1,h2,h3,h4,h5,h6,h7,h8,h9,vT⟩:=h;refine⟨f,caps,X,K,Ro,E,S,Sp,I,Ix,h1,h2,h3,h4,h5,h6,h7,fun pre xs vals X' a b c=>⟨(h8 pre xs vals X' a b c).1,?_⟩,fun xs vals X' K' a b c d=>ih2 _ _ _ _ hl hn (h9 xs vals X' K' a b c d),fun pre vals X' K' a b c d=>ih3 _ _ _ _ hl hn (vT pre vals X' K' a b c d)⟩;have e1:=Ze (F:=fun _ _=>False) hl hn (a:=fun v h=>I (pre++[xs]) v h) (b:=fun v h=>I (pre++[xs]) v h) (fun _ _ h=>h);have e2:=Ze (F:=fun _ _=>False) e1.1 e1.2 (a:=fun v h=>Ix (pre++[xs]) v h) (b:=fun v h=>Ix (pre++[xs]) v h) (fun _ _ h=>h);simp only[bH,cL,cB]at e2;exact ih1 _ _ _ _ e2.1 e2.2 (h8 pre xs vals X' a b c).2
 |mk id i o args t ih=>
  intro nx nx' ρ H hl hn h;obtain⟨mk,ob,h1,h2⟩:=h;exact⟨mk,ob,h1,fun b hb=>ih _ _ _ _ hl hn (h2 b hb)⟩
 |loop ini t ih=>
  intro nx nx' ρ H hl hn h;obtain⟨I,μ,h0,h1⟩:=h;refine⟨I,μ,h0,fun vals H' hv hI=> ?_⟩;have e:=Ze (F:=fun _ _=>False) hl hn (a:=fun l h=>I l h/\μ l h<μ vals H') (b:=fun l h=>I l h/\μ l h<μ vals H') (fun _ _ h=>h);exact ih _ _ _ _ e.1 e.2 (h1 vals H' hv hI)
 |next d l=>intro nx nx' ρ H hl hn h;exact hn d _ _ h
 |join n t u ih1 ih2=>
  intro nx nx' ρ H hl hn h;obtain⟨J,h1,h2⟩:=h;have e:=Ze (F:=fun _ _=>False) hl hn (a:=J) (b:=J) (fun _ _ h=>h);exact⟨J,ih1 _ _ _ _ e.1 e.2 h1,fun vals H' hv hJ=>ih2 _ _ _ _ hl hn (h2 vals H' hv hJ)⟩
theorem c2L {p:Nat->Prop}:∀n,p n->∃m,p m/\∀k,p k->m<=k:=by
 intro n;induction n using Nat.strongRecOn with
 |_ n ih=>
  intro hp;by_cases h:∃k,k<n/\p k
  ·obtain⟨k,h1,h2⟩:=h;exact ih k h1 h2
  ·exact⟨n,hp,fun k hk=>Nat.le_of_not_lt fun pX=>h ⟨k,pX,hk⟩⟩
theorem s8 {ini:List SV} {t:Tree} {α:Type} (f:α->List Value) (Q:α->PH->Prop) (m:α->Nat) (a0:α) (h0:ini.map (D P ρ)=f a0) (hQ:Q a0 H)
  (hs:∀a H',Q a H'->den P G t (nx++[fun l h=>∃b,m b<m a/\l=f b/\Q b h]) (ρ++f a) H'):den P G (.loop ini t) nx ρ H:=by
 classical
 have key:∀(l:List Value) (h:PH),(∃a,l=f a/\Q a h)->∃a,(l=f a/\Q a h)/\∀b,(l=f b/\Q b h)->m a<=m b:=by
  intro l h ⟨a,ha⟩;obtain⟨n,⟨a',e1,e2⟩,e3⟩:=c2L (p:=fun n=>∃a,m a=n/\l=f a/\Q a h) (m a) ⟨a,rfl,ha⟩;exact⟨a',e2,fun b hb=>by rw[e1];exact e3 _ ⟨b,rfl,hb⟩⟩
 refine⟨fun l h=>∃a,l=f a/\Q a h,fun l h=>if hx:∃a,l=f a/\Q a h then m (key l h hx).choose else 0,⟨a0,h0,hQ⟩,?_⟩;intro vals H' _ hI;obtain⟨⟨e1,e2⟩,e3⟩:=(key vals H' hI).choose_spec;have hm:(if hx:∃a,vals=f a/\Q a H' then m (key vals H' hx).choose else 0)=m (key vals H' hI).choose:=dif_pos hI;have h:=hs _ H' e2;rw[<-e1]at h;have e:=Ze (F:=fun _ _=>False) (nx:=nx) (nx':=nx) rfl (fun _ _ _ h=>h) (a:=fun l h=>∃b,m b<m (key vals H' hI).choose/\l=f b/\Q b h)
  (b:=fun l h=>(∃a,l=f a/\Q a h)/\(if hx:∃a,l=f a/\Q a h then m (key l h hx).choose else 0)<(if hx:∃a,vals=f a/\Q a H' then m (key vals H' hx).choose else 0)) (by
   rintro l h' ⟨b,qX,rE,yB⟩;have hx:∃a,l=f a/\Q a h':=⟨b,rE,yB⟩;refine⟨hx,?_⟩;rw[hm,dif_pos hx];exact aZ ((key l h' hx).choose_spec.2 b ⟨rE,yB⟩) qX)
 exact c8y _ _ _ _ _ e.1 e.2 h
theorem Bf {ini:List SV} {t:Tree} {α:Type} (f:α->List Value) (Q:α->Prop) (m:α->Nat) (a0:α) (h0:ini.map (D P ρ)=f a0) (hQ:Q a0)
  (hs:∀a,Q a->den P G t (nx++[fun l h=>∃b,m b<m a/\l=f b/\Q b/\h=H]) (ρ++f a) H):den P G (.loop ini t) nx ρ H:=
 s8 f (fun a h=>Q a/\h=H) m a0 h0 ⟨hQ,rfl⟩ fun a H' ⟨h1,h2⟩=>by subst h2;exact hs a h1
theorem PH.le_put_of {H H':PH} {b:Nat} {o:Obj} (h:Pl H H') (hb:H b=none):Pl H (H'.put b o):=fun k ob hk=>by
 unfold PH.put;split
 ·rename_i e;subst e;rw[hb]at hk;cases hk
 ·exact h k ob hk
theorem PH.le_put2 {H:PH} {b:Nat} (hb:H b=none) (o o2:Obj):Pl H ((H.put b o).put b o2):=PH.le_put_of (PH.le_put hb _) hb
structure Sc (P:Program) (T:TypeId):Prop where
 has:w9 P T=true
 agg:An P T=false
 cel:P.cellsOf T=1
structure Ag (P:Program) (T:TypeId) (n:Nat):Prop where
 has:w9 P T=true
 agg:An P T=true
 cel:P.cellsOf T=n
structure Ar (P:Program) (T e:TypeId) (n:Nat):Prop where
 und:P.underlying T=some (.array n e)
 has:w9 P T=true
 agg:An P T=true
 cel:P.cellsOf T=n
 sc:Sc P e
section
variable {o o1 o2:Oper} {x y x2:Operand} {id i id2 i2:Nat} {args args2:List SV} {t:Tree} {pf:Bool} {b q:Nat} {T T' e:TypeId} {fz:Nat×Nat} {cs:Array Value} {u:Value} {n:Nat}
theorem Bn (hT:Sc P T) (ho:o.op= .load T x) (hx:g8 [x] [.pointer (some ⟨b,q,none⟩)] x= .pointer (some ⟨b,q,none⟩)) (hH:H b=some (.cells cs T' fz)) (hv:cs[q]? =some u) (ha:args.map (D P ρ)=[.pointer (some ⟨b,q,none⟩)]) (n:den P G t nx (ρ++[u]) H):den P G (.prim id i o args t) nx ρ H:=by
 have hq:=(Array.getElem?_eq_some_iff.1 hv).1;have h:=Rk ho hx hH hT.has (by rw[hT.cel];omega) (fun _=>hq);rw[hT.agg]at h;simp only[bZ,if_false,cR,hv,Option.getD_some]at h;exact j7 h ha n
theorem Ux {vs:List Value} (hT:Ag P T vs.length) (ho:o.op= .load T x) (hx:g8 [x] [.pointer (some ⟨b,q,none⟩)] x= .pointer (some ⟨b,q,none⟩)) (hH:H b=some (.cells cs T' fz)) (hv:(cs.toList.drop q).take vs.length=vs) (hq:q+vs.length<=cs.size) (ha:args.map (D P ρ)=[.pointer (some ⟨b,q,none⟩)]) (n:den P G t nx (ρ++[.agg vs.toArray]) H):den P G (.prim id i o args t) nx ρ H:=by
 have h:=Rk ho hx hH hT.has (by rw[hT.cel];exact hq) (fun h=>by rw[hT.agg]at h;cases h);rw[hT.agg,hT.cel]at h;simp only[if_true]at h;have:cs.extract q (q+vs.length)=vs.toArray:=by rw[<-cI,Array.toList_extract,List.extract_eq_take_drop,Nat.add_sub_cancel_left,hv]
 rw[this]at h;exact j7 h ha n
theorem Zf (hT:Sc P T) (ho:o.op= .store T x y) (hx:g8 [x,y] [.pointer (some ⟨b,q,none⟩),u] x= .pointer (some ⟨b,q,none⟩)) (hy:g8 [x,y] [.pointer (some ⟨b,q,none⟩),u] y=u) (hH:H b=some (.cells cs T' (0,0))) (hq:q<cs.size) (hu:u.cells= #[u]) (h1:Dm u=true) (ha:args.map (D P ρ)=[.pointer (some ⟨b,q,none⟩),u]) (uT:pf=true->Pl H (H.put b (.cells (cs.setIfInBounds q u) T' (0,0))))
  (n:den P G t nx (ρ++[undef]) (H.put b (.cells (cs.setIfInBounds q u) T' (0,0)))):den P G (.eff pf id i o args t) nx ρ H:=by
 refine t7 (Uf ho hx hy hH hT.has (by rw[hT.cel];omega) (by rw[hu,hT.cel];rfl) (fun c hc=> ?_)) ha ?_
 ·rw[hu]at hc;simp at hc;subst hc;exact h1
 ·rintro v H' ⟨rfl,rfl⟩;rw[hu];exact⟨uT,n⟩
theorem c8z:∀(vs cs:List Value) (q:Nat) (a:Array Value),a.size=q+vs.length->(spl a q vs).toList=a.toList.take q++vs:=by
 intro vs;induction vs with
 |nil=>intro cs q a h;simp only[spl];rw[aF (by simp at h⊢;omega),bQ]
 |cons v vs ih=>
  intro cs q a h;simp only[spl];simp only[aO]at h;rw[ih cs (q+1) _ (by simp;omega),Array.toList_setIfInBounds];rw[List.take_add_one,List.take_set_of_le (aS _),bH];congr 1;rw[List.getElem?_set_self (by simp;omega)];rfl
theorem kh {vs:List Value} (hT:Ag P T vs.length) (ho:o.op= .store T x y) (hx:g8 [x,y] [.pointer (some ⟨b,0,none⟩),.agg vs.toArray] x= .pointer (some ⟨b,0,none⟩)) (hy:g8 [x,y] [.pointer (some ⟨b,0,none⟩),.agg vs.toArray] y= .agg vs.toArray) (hH:H b=some (.cells cs T' (0,0))) (hq:cs.size=vs.length) (h1:∀c∈vs,Dm c=true) (ha:args.map (D P ρ)=[.pointer (some ⟨b,0,none⟩),.agg vs.toArray]) (uT:pf=true->Pl H (H.put b (.cells vs.toArray T' (0,0))))
  (n:den P G t nx (ρ++[undef]) (H.put b (.cells vs.toArray T' (0,0)))):den P G (.eff pf id i o args t) nx ρ H:=by
 refine t7 (Uf ho hx hy hH hT.has (by rw[hT.cel];omega) (by rw[hT.cel];rfl) (fun c hc=>h1 c (by simpa[Fj]using hc))) ha ?_;rintro v H' ⟨rfl,rfl⟩;have:spl cs 0 (Value.agg vs.toArray).cells.toList=vs.toArray:=by
  rw[<-cI,Fj];have:=c8z vs [] 0 cs aA;simpa using this
 rw[this];exact⟨uT,n⟩
theorem km {len m:Nat} {k:IntKind} (hT:Ar P T e len) (sR:o1.op= .indexAddr T x y) (sS:o2.op= .load e x2) (hx:g8 [x,y] [.pointer (some ⟨b,0,none⟩),.int k (m:Nat)] x= .pointer (some ⟨b,0,none⟩)) (hy:g8 [x,y] [.pointer (some ⟨b,0,none⟩),.int k (m:Nat)] y= .int k (m:Nat)) (rG:g8 [x2] [.pointer (some ⟨b,m,none⟩)] x2= .pointer (some ⟨b,m,none⟩))
  (hH:H b=some (.cells cs T' fz)) (hm:m<len) (hv:cs[m]? =some u) (ha:args.map (D P ρ)=[.pointer (some ⟨b,0,none⟩),.int k (m:Nat)]) (rI:args2.map (D P (ρ++[.pointer (some ⟨b,m,none⟩)]))=[.pointer (some ⟨b,m,none⟩)]) (n:den P G t nx (ρ++[.pointer (some ⟨b,m,none⟩)]++[u]) H):den P G (.prim id i o1 args (.prim id2 i2 o2 args2 t)) nx ρ H:=by
 have h:=(fx (len:=len) (q:=0) sR hx hy hT.und hT.sc.has aA aA).rds H;rw[hT.sc.cel,aV,bK,dN]at h;exact j7 h ha (Bn hT.sc sS rG hH hv rI n)
structure FA (P:Program) (S:TypeId) (i off:Nat):Prop where
 und:P.underlying S=some (.struct (fieldsOf P S))
 lt:i<(fieldsOf P S).size
 off:(fieldAt P S i).offset=off
 has:w9 P (fieldAt P S i).type=true
 ne:P.cellsOf (fieldAt P S i).type≠0
theorem ko {S i' off:Nat} (hF:FA P S i' off) (ho:o.op= .fieldAddr S x i') (hx:g8 [x] [.pointer (some ⟨b,q,none⟩)] x= .pointer (some ⟨b,q,none⟩)) (ha:args.map (D P ρ)=[.pointer (some ⟨b,q,none⟩)]) (n:den P G t nx (ρ++[.pointer (some ⟨b,q+off,none⟩)]) H):den P G (.prim id i o args t) nx ρ H:=
 j7 ((vd ho hx hF.und hF.lt rfl hF.off hF.has hF.ne).rds H) ha n
theorem Hf {S i' off:Nat} (hF:FA P S i' off) (n:den P G t nx (ρ++[.pointer (some ⟨b,q+off,none⟩)]) H) (ho:o.op= .fieldAddr S x i':=by exact rfl) (ha:args.map (D P ρ)=[.pointer (some ⟨b,q,none⟩)]:=by exact rfl) (hx:g8 [x] [.pointer (some ⟨b,q,none⟩)] x= .pointer (some ⟨b,q,none⟩):=by exact rfl):den P G (.prim id i o args t) nx ρ H:=ko hF ho hx ha n
theorem Pm {α:Type} {ce:α->List Value} {sz:Nat} {l:List α} (hH:H b=some (.cells cs T' fz)) (hl:cs.toList=l.flatMap ce) (hs:cs.size=l.length*sz) (hm:l.length<=maxLen):SE H sz ce (.slice (some ⟨b,0,none⟩) l.length l.length) l:=by
 refine⟨by rw[<-hl,dC,hs],_,_,rfl,aS _,hm,.inr ⟨b,0,cs,T',fz,rfl,hH,?_⟩⟩;rw[<-hl,cH];exact aF (by simp[hs])
end
theorem Na {pf:Bool} {id i:Nat} {o:Oper} {args:List SV} {t:Tree} {vs:List Value} {v:Value} (hd:Run P o vs v) (ha:args.map (D P ρ)=vs) (n:den P G t nx (ρ++[v]) H):den P G (.eff pf id i o args t) nx ρ H:=
 t7 (hd.opn H) ha fun u H' ⟨h1,h2⟩=>by subst h1;subst h2;exact⟨fun _=>Pl.refl _,n⟩
theorem Gm {T:TypeId} {c:SV} {t:Tree} {cs:Array Value} (hz:(D P ρ c).cells=cs) (n:∀b,H b=none->den P G t nx (ρ++[.pointer (some ⟨b,0,none⟩)]) (H.put b (.cells cs T (0,0)))):den P G (.pub T c t) nx ρ H:=by
 subst hz;exact n
def Ae (P:Program) (f:FuncId) (args:List Value) (H:PH) (v:Value):Prop:=Con P f args H fun u H'=>Pl H H'/\u=v
theorem Asks.give {f:FuncId} {args:List Value} {v:Value} (h:Asks P f args H v):Ae P f args H v:=h.mono fun u H' ⟨h1,h2⟩=>by subst h1;exact⟨Pl.refl _,h2⟩
theorem y9 {pf:Bool} {f:FuncId} {args:List SV} {t:Tree} {vs:List Value} {v:Value} (hd:Ae P f vs H v) (ha:args.map (D P ρ)=vs) (n:∀H',Pl H H'->den P G t nx (ρ++[v]) H'):den P G (.call pf f args t) nx ρ H:=
 g9 hd ha fun u H' ⟨h1,h2⟩=>by subst h2;exact⟨fun _=>h1,n H' h1⟩
end
end Go.RX

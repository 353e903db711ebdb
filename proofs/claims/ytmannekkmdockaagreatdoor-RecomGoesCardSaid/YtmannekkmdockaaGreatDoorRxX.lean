/- Lemmas of the proof. -/
import Derived.Test.YtmannekkmdockaaGreatDoorGaT
import Derived.Test.YtmannekkmdockaaGreatDoorWdB
open Array renaming getD_eq_getD_getElem?->dD,toList_inj->eZ
open Bool renaming false_eq_true->cN
open Int renaming emod_eq_of_lt->fR,fdiv_eq_ediv_of_nonneg->iO,toNat_natCast->bB
open List renaming append_assoc->bG,drop_succ_cons->jP,drop_zero->dH,eq_nil_of_length_eq_zero->aZ,getD_eq_getElem?_getD->aB,getElem?_append_left->dB,getElem?_append_right->cQ,length_cons->bA,length_map->aR,map_cons->aM,mem_cons->aL,mem_filter->bJ,mem_of_mem_drop->mA,mem_range->cK,pairwise_cons->gG,pairwise_lt_range->lJ,range->bL,size_toArray->iP,sum_cons->gB,take_of_length_le->aK
open Nat renaming add_comm->eI,and_le_left->gC,and_two_pow_sub_one_eq_mod->kE,eq_of_testBit_eq->iD,le_refl->aN,lt_of_le_of_lt->aY,lt_of_lt_of_le->bK,lt_or_ge->eV,mod_eq_of_lt->bR,mod_two_eq_zero_or_one->kX,mul_add->cS,mul_le_mul_left->dA,mul_one->eS,one_mul->dS,or_lt_two_pow->kG,pow_add->dG,pow_le_pow_right->aU,pow_succ->kH,testBit_and->fY,testBit_lt_two_pow->jE,testBit_two_pow->jN,testBit_two_pow_mul_add->eM,two_mul->pB,two_pow_pos->fF,zero_add->bM
namespace Go.GS
open Go.RX
def uv (s:Nat):Value:= .int .u64 (s:Nat)
def ii (z:Int):Value:= .int .i64 z
abbrev M64:Nat:=18446744073709551616
theorem Oo {a:Nat} (h:a<M64):(BitVec.ofInt 64 (a:Int)).toNat=a:=by
 have h:a<18446744073709551616:=h;rw[BitVec.toNat_ofInt];simp;omega
theorem u64_and {a b:Nat} (ha:a<M64) (hb:b<M64):IntKind.u64.wrap ((BitVec.ofInt (IntKind.bits .u64) (a:Int)&&&BitVec.ofInt (IntKind.bits .u64) (b:Int)).toNat:Int)=((a&&&b:Nat):Int):=by
 have e:(BitVec.ofInt 64 (a:Int)&&&BitVec.ofInt 64 (b:Int)).toNat=a&&&b:=by rw[BitVec.toNat_and,Oo ha,Oo hb]
 show IntKind.u64.wrap ((BitVec.ofInt 64 (a:Int)&&&BitVec.ofInt 64 (b:Int)).toNat:Int)=_;rw[e,IntKind.wrap_u64];have:=Nat.and_lt_two_pow a (n:=64) (y:=b) (by simpa using hb);exact fR (by omega) (by omega)
theorem u64_or {a b:Nat} (ha:a<M64) (hb:b<M64):IntKind.u64.wrap ((BitVec.ofInt (IntKind.bits .u64) (a:Int)|||BitVec.ofInt (IntKind.bits .u64) (b:Int)).toNat:Int)=((a|||b:Nat):Int):=by
 have e:(BitVec.ofInt 64 (a:Int)|||BitVec.ofInt 64 (b:Int)).toNat=a|||b:=by rw[BitVec.toNat_or,Oo ha,Oo hb]
 show IntKind.u64.wrap ((BitVec.ofInt 64 (a:Int)|||BitVec.ofInt 64 (b:Int)).toNat:Int)=_;rw[e,IntKind.wrap_u64];have:=kG (n:=64) (x:=a) (y:=b) (by simpa using ha) (by simpa using hb);exact fR (by omega) (by omega)
def sdf (a b:Nat):Nat:=a^^^(a&&&b)
theorem JK (a b i:Nat):(sdf a b).testBit i=(a.testBit i&& !b.testBit i):=by
 unfold sdf;rw[Nat.testBit_xor,fY];cases a.testBit i<;>cases b.testBit i<;>rfl
theorem sdf_lt {a b:Nat} (ha:a<M64):sdf a b<M64:=by
 have h1:a&&&b<2^64:=aY gC (by simpa using ha);exact Nat.xor_lt_two_pow (n:=64) (by simpa using ha) h1
theorem u64_andn {a b:Nat} (ha:a<M64) (hb:b<M64):IntKind.u64.wrap ((BitVec.ofInt (IntKind.bits .u64) (a:Int)&&& ~~~BitVec.ofInt (IntKind.bits .u64) (b:Int)).toNat:Int)=((sdf a b:Nat):Int):=by
 have e:(BitVec.ofInt 64 (a:Int)&&& ~~~BitVec.ofInt 64 (b:Int)).toNat=sdf a b:=by
  apply iD;intro i;rw[BitVec.toNat_and,JK,fY,Oo ha,<-BitVec.getLsbD,BitVec.getLsbD_not,BitVec.getLsbD,Oo hb];by_cases hi:i<64
  ·simp[hi]
  ·have:a.testBit i=false:=jE (bK (by simpa using ha:a<2^64) (aU (by omega) (by omega)));simp[this]
 show IntKind.u64.wrap ((BitVec.ofInt 64 (a:Int)&&& ~~~BitVec.ofInt 64 (b:Int)).toNat:Int)=_;rw[e,IntKind.wrap_u64];have:=sdf_lt (b:=b) ha;exact fR (by omega) (by simp only[M64]at this;omega)
theorem u64_shl {a k:Nat} (hk:k<64):IntKind.u64.wrap ((a:Int)*2^(min ((k:Nat):Int).toNat (IntKind.bits .u64)))=((a*2^k%M64:Nat):Int):=by
 have e:min ((k:Nat):Int).toNat (IntKind.bits .u64)=k:=by show min ((k:Nat):Int).toNat 64=k;rw[bB];omega
 rw[e,IntKind.wrap_u64];simp[M64]
theorem u64_shr {a k:Nat}:(a:Int).fdiv (2^(min ((k:Nat):Int).toNat (IntKind.bits .u64)))=((a/2^(min k 64):Nat):Int):=by
 show(a:Int).fdiv (2^(min ((k:Nat):Int).toNat 64))=_;rw[bB,show(2:Int)^(min k 64)=((2^(min k 64):Nat):Int)from by simp,iO _ (Int.natCast_nonneg _)];simp
theorem u64_neg {a:Nat} (ha:a<M64):IntKind.u64.wrap (0-(a:Int))=(((M64-a)%M64:Nat):Int):=by
 rw[IntKind.wrap_u64];simp only[M64]at*;omega
theorem u64_sub {a b:Nat} (ha:a<M64) (hb:b<=a):IntKind.u64.wrap ((a:Int)-(b:Int))=((a-b:Nat):Int):=by
 rw[IntKind.wrap_u64];simp only[M64]at*;omega
def bit (s x:Nat):Bool:=s.testBit x
theorem vw {s x:Nat} (hs:s<M64) (hx:64<=x):bit s x=false:=
 jE (bK (by simpa using hs:s<2^64) (aU (by omega) hx))
theorem Db {s x:Nat} (hs:s<M64) (h:bit s x=true):x<64:=by
 rcases eV x 64 with h1|h1
 ·exact h1
 ·rw[vw hs h1]at h;cases h
theorem Gq (a b x:Nat):bit (a&&&b) x=(bit a x&&bit b x):=fY ..
theorem Ac (a b x:Nat):bit (a|||b) x=(bit a x||bit b x):=Nat.testBit_or ..
theorem Ad (a b x:Nat):bit (sdf a b) x=(bit a x&& !bit b x):=JK ..
theorem Ae (k x:Nat):bit (2^k) x=decide (k=x):=jN ..
theorem Bz (x:Nat):bit 0 x=false:=Nat.zero_testBit x
theorem Ax {a b:Nat} (h:∀x,bit a x=bit b x):a=b:=iD h
theorem c1F {a b:Nat} (ha:a<M64) (hb:b<M64) (h:∀x,x<64->bit a x=bit b x):a=b:=Ax fun x=>by
 rcases eV x 64 with h1|h1
 ·exact h x h1
 ·rw[vw ha h1,vw hb h1]
theorem An {k:Nat} (h:k<64):2^k<M64:=by
 have:=Nat.pow_lt_pow_right (a:=2) (by omega) h;exact this
theorem d2w {k:Nat} (h:k<64):1*2^k%M64=2^k:=by rw[dS,bR (An h)]
theorem Hv {a b:Nat} (ha:a<M64) (hb:b<M64):a|||b<M64:=kG (n:=64) (by simpa using ha) (by simpa using hb)
theorem gw {a b:Nat} (ha:a<M64):a&&&b<M64:=aY gC ha
theorem d2x {a b:Nat} (hb:b<M64):a&&&b<M64:=aY Nat.and_le_right hb
theorem JL {s x:Nat}:((s/2^x)&&&1:Nat)=if bit s x then 1 else 0:=by
 have h1:bit s x=((s/2^x)&&&1 !=0):=by
  unfold bit Nat.testBit;rw[Nat.shiftRight_eq_div_pow,Nat.and_comm]
 rw[h1,Nat.and_one_is_mod];rcases kX (s/2^x)with h|h<;>simp[h]
theorem vz {s x:Nat} (h:s<M64):s/2^x<M64:=aY (Nat.div_le_self _ _) h
def els (s:Nat):List Nat:=(bL 64).filter (bit s)
theorem Gf {s x:Nat} (hs:s<M64):x∈els s↔bit s x=true:=by
 unfold els;rw[bJ,cK];exact⟨fun h=>h.2,fun h=>⟨Db hs h,h⟩⟩
theorem c6M {s x:Nat} (h:x∈els s):x<64/\bit s x=true:=by
 unfold els at h;rw[bJ,cK]at h;exact h
theorem wa:els 0=[]:=by
 unfold els;rw[List.filter_eq_nil_iff];intro x _;simp[Bz]
theorem Uz {s:Nat} (hs:s<M64) (h:els s=[]):s=0:=c1F hs (by decide) fun x hx=>by
 rw[Bz];cases e:bit s x with
 |false=>rfl
 |true=>have:=(Gf hs).2 e;rw[h]at this;cases this
theorem JM {s k:Nat} (hk:bit s k=true) (hl:∀j,j<k->bit s j=false):s=2^(k+1)*(s/2^(k+1))+2^k:=by
 have h:=Nat.div_add_mod s (2^(k+1));have e:s%2^(k+1)=2^k:=by
  apply iD;intro i;rw[Nat.testBit_mod_two_pow,jN];by_cases h1:i<k
  ·have:=hl i h1;unfold bit at this;simp[this,show ¬k=i from by omega]
  ·by_cases h2:i=k
   ·subst h2;unfold bit at hk;simp[hk]
   ·simp[show ¬i<k+1 from by omega,show ¬k=i from fun e=>h2 e.symm]
 rw[e]at h;exact h.symm
theorem gx {s k:Nat} (hk:bit s k=true) (hl:∀j,j<k->bit s j=false) (i:Nat):bit (s-1) i=if i<k then true else if i=k then false else bit s i:=by
 have h:=JM hk hl;have h2:=fF k;generalize s/2^(k+1)=q at h;have e1:s-1=2^(k+1)*q+(2^k-1):=by omega
 have pO:2^k-1<2^(k+1):=by rw[kH];omega
 have a0z:2^k<2^(k+1):=by rw[kH];omega
 unfold bit;rw[e1,eM _ pO];rw[h,eM _ a0z,Nat.testBit_two_pow_sub_one,jN];by_cases c1:i<k
 ·simp[c1,show i<k+1 from by omega]
 ·by_cases c2:i=k
  ·subst c2;simp
  ·simp[c1,c2,show ¬i<k+1 from by omega]
theorem Va {s x:Nat} {r:List Nat} (h:els s=x::r):bit s x=true/\x<64/\∀j,j<x->bit s j=false:=by
 have hm:=c6M (s:=s) (x:=x) (by rw[h];simp);refine⟨hm.2,hm.1,fun j hj=> ?_⟩;cases e:bit s j with
 |false=>rfl
 |true=>
  have hp:(els s).Pairwise (· < ·):=lJ.filter _;have rG:j∈els s:=by unfold els;rw[bJ,cK];exact⟨by omega,e⟩
  rw[h]at rG hp;rcases aL.1 rG with rfl|rG
  ·omega
  ·have:=(gG.1 hp).1 j rG;omega
theorem Vb (s:Nat):(els s).Pairwise (· < ·):=lJ.filter _
theorem wb:∀{a b:List Nat},a.Pairwise (· < ·)->b.Pairwise (· < ·)->(∀x,x∈a↔x∈b)->a=b:=by
 intro a;induction a with
 |nil=>intro b _ _ h;cases b with
  |nil=>rfl
  |cons y b=>exact absurd ((h y).2 (by simp)) (by simp)
 |cons x a ih=>
  intro b ha hb h;cases b with
  |nil=>exact absurd ((h x).1 (by simp)) (by simp)
  |cons y b=>
   rw[gG]at ha hb;have e:x=y:=by
    rcases aL.1 ((h x).1 (by simp))with h1|h1
    ·exact h1
    ·rcases aL.1 ((h y).2 (by simp))with h2|h2
     ·exact h2.symm
     ·have:=ha.1 y h2;have:=hb.1 x h1;omega
   subst e;rw[ih ha.2 hb.2 fun z=> ?_];constructor
   ·intro hz;rcases aL.1 ((h z).1 (by simp[hz]))with h1|h1
    ·have:=ha.1 z hz;omega
    ·exact h1
   ·intro hz;rcases aL.1 ((h z).2 (by simp[hz]))with h1|h1
    ·have:=hb.1 z hz;omega
    ·exact h1
theorem wc {s x:Nat} {r:List Nat} (hs:s<M64) (h:els s=x::r):els (s&&&(s-1))=r:=by
 obtain⟨h1,h2,h3⟩:=Va h;have hp:=Vb s;rw[h,gG]at hp;refine wb (Vb _) hp.2 fun y=> ?_;rw[Gf (gw hs),Gq,gx h1 h3];have hy:=Gf (x:=y) hs;rw[h]at hy;constructor
 ·intro hh;rw[Bool.and_eq_true]at hh;rcases aL.1 (hy.2 hh.1)with rfl|h4
  ·simp at hh
  ·exact h4
 ·intro hh;have h4:=hp.1 y hh;rw[hy.1 (by simp[hh])];simp[show ¬y<x from by omega,show ¬y=x from by omega]
theorem Yt {s x:Nat} {r:List Nat} (hs:s<M64) (h:els s=x::r):s&&&((M64-s)%M64)=2^x:=by
 obtain⟨h1,h2,h3⟩:=Va h;have h0:s≠0:=fun e=>by rw[e,Bz]at h1;cases h1
 apply Ax;intro i;have e1:(M64-s)%M64=2^64-((s-1)+1):=by
  rw[bR (by omega)];show 2^64-s=_;congr 1;omega
 have e2:bit (2^64-((s-1)+1)) i=(decide (i<64)&& !bit (s-1) i):=Nat.testBit_two_pow_sub_succ (by simp only[M64]at hs;omega) i;rw[Gq,e1,e2,gx h1 h3,Ae];by_cases c1:i<x
 ·simp[c1,show ¬x=i from by omega]
 ·by_cases c2:i=x
  ·subst c2;simp[h1,h2]
  ·simp[c1,c2,show ¬x=i from fun e=>c2 e.symm];intro h5 _;exact h5
def card (s:Nat):Nat:=(els s).length
end Go.GS
/- Chapter 32: contracts of the library. -/
namespace Go.Proofs.Z
open Go.Proofs.Tryz
open Go.RowKit Go.RX Go.WD Go.GS
theorem el_int:El prog 32 3 1 false (fun z:Int=>[ii z]) ii where
 und:=by kernel_rfl
 has:=by kernel_rfl
 cel:=by kernel_rfl
 agg:=by kernel_rfl
 pos:=by decide
 one1:=fun _=>rfl
 small:=by decide
 inf:=⟨(prog.info? 3).getD default,ii 0,by kernel_rfl,by kernel_rfl,by kernel_rfl,rfl,oDt (by kernel_rfl)⟩
 len:=fun _=>rfl
 val:=fun _=>rfl
 cells:=fun _=>rfl
 one:=fun x c hc=>by simp at hc;subst hc;rfl
theorem el_plan:El prog 33 3 1 false (fun z:Int=>[ii z]) ii where
 und:=by kernel_rfl
 has:=by kernel_rfl
 cel:=by kernel_rfl
 agg:=by kernel_rfl
 pos:=by decide
 one1:=fun _=>rfl
 small:=by decide
 inf:=⟨(prog.info? 3).getD default,ii 0,by kernel_rfl,by kernel_rfl,by kernel_rfl,rfl,oDt (by kernel_rfl)⟩
 len:=fun _=>rfl
 val:=fun _=>rfl
 cells:=fun _=>rfl
 one:=fun x c hc=>by simp at hc;subst hc;rfl
theorem el_u64:El prog 76 54 1 false (fun s:Nat=>[uv s]) uv where
 und:=by kernel_rfl
 has:=by kernel_rfl
 cel:=by kernel_rfl
 agg:=by kernel_rfl
 pos:=by decide
 one1:=fun _=>rfl
 small:=by decide
 inf:=⟨(prog.info? 54).getD default,uv 0,by kernel_rfl,by kernel_rfl,by kernel_rfl,rfl,oDt (by kernel_rfl)⟩
 len:=fun _=>rfl
 val:=fun _=>rfl
 cells:=fun _=>rfl
 one:=fun x c hc=>by simp at hc;subst hc;rfl
def ec (e:Nat×Nat):List Value:=[ii e.1,ii e.2]
def ev2 (e:Nat×Nat):Value:= .agg #[ii e.1,ii e.2]
theorem el_edge:El prog 35 99 2 true ec ev2 where
 und:=by kernel_rfl
 has:=by kernel_rfl
 cel:=by kernel_rfl
 agg:=by kernel_rfl
 pos:=by decide
 one1:=fun h=>by cases h
 small:=by decide
 inf:=⟨(prog.info? 99).getD default,.agg #[ii 0,ii 0],by kernel_rfl,by kernel_rfl,by kernel_rfl,rfl,oDt (by kernel_rfl)⟩
 len:=fun _=>rfl
 val:=fun _=>rfl
 cells:=fun _=>rfl
 one:=fun x c hc=>by simp[ec]at hc;rcases hc with rfl|rfl<;>rfl
theorem we {n:Nat} (h:n<9223372036854775808):IntKind.i64.wrap (n:Int)=n:=by rw[IntKind.wrap_i64];omega
theorem JO {z:Int} (h1: -9223372036854775808<=z) (h2:z<9223372036854775808):IntKind.i64.wrap z=z:=by rw[IntKind.wrap_i64];omega
theorem d2y (k:IntKind) (a:Int):unV .neg k a= .int k (k.wrap (0-a)):=rfl
theorem c1I (k:IntKind) (a:Int):intOf (.int k a)=a:=rfl
def tabL:List Nat:=[0,1,56,2,57,49,28,3,61,58,42,50,38,29,17,4,62,47,59,36,45,43,51,22,53,39,33,30,24,18,12,5,63,55,48,27,60,41,37,16,46,35,44,21,52,32,23,11,54,26,40,15,34,20,31,10,25,14,19,9,13,8,7,6]
def Tb (H:PH):Prop:=∃T fz,H 0=some (.cells (tabL.map fun n=>Value.int .u8 (n:Nat)).toArray T fz)
theorem Tb.mono {H H':PH} (h:Tb H) (hl:PH.le H H'):Tb H':=by
 obtain⟨T,fz,h⟩:=h;exact⟨T,fz,hl _ _ h⟩
def tz (s:Nat):Nat:=(els s).headD 64
theorem d6U:∀k,k<64->tabL[(2^k*285870213051353865%18446744073709551616)/288230376151711744]? =some k:=by decide
section
variable {H:PH} {s:Nat}
theorem Yu (hT:Tb H) (hs:s<M64):Con prog 122 [uv s] H fun u H'=>H'=H/\u=ii (tz s):=by
 obtain⟨T,fz,hT⟩:=hT;refine Aa mixed U2 (by kernel_rfl) rfl (d9 ⟨_,rfl⟩ (i0 (b:=decide (s=0)) ?_ (fun h=> ?_) (fun h=> ?_)))
 ·simp only[rxs,uv];congr 1;rw[Bool.eq_iff_iff];simp
 ·have h:=oDt h;subst h;refine g8 rfl ⟨rfl,?_⟩;simp only[rxs,Bv,tz,wa];rfl
 ·have h:=oDf h;cases he:els s with
  |nil=>exact absurd (Uz hs he) h
  |cons x r=>
   have hn:=Yt hs he;have hx:=(Va he).2.1;have htz:tz s=x:=by simp[tz,he]
   have a1j:=d6U x hx;have pO:=(List.getElem?_eq_some_iff.1 a1j).1;obtain⟨m,hm⟩:∃m,m=(2^x*285870213051353865%18446744073709551616)/288230376151711744:=⟨_,rfl⟩;rw[<-hm]at a1j pO;have pO:m<64:=pO;have e1:((M64-s)%M64:Nat)<M64:=Nat.mod_lt _ (by decide);have ea:[SV.k (Value.pointer (some ⟨0,0,none⟩)),SV.op2 .shr .u64 (.op2 .mul .u64 (.op2 .and .u64 (.v 0) (.op1 .neg .u64 (.v 0))) (.k (.int .u64 285870213051353865))) (.k (.int .u64 58))].map (D prog [uv s])=[.pointer (some ⟨0,0,none⟩),.int .u64 ((m:Nat):Int)]:=by
    simp only[rxs,uv];congr 2;rw[IntKind.wrap_u64];have e58:(2:Int)^min (Int.toNat 58) (IntKind.bits .u64)=288230376151711744:=by decide
    have e2:∀n:Nat,(n:Int)*285870213051353865%18446744073709551616/288230376151711744=((n*285870213051353865%18446744073709551616/288230376151711744:Nat):Int):=fun n=>by omega
    rw[e58,d2y,c1I,Go.GS.u64_neg hs,Go.GS.u64_and hs e1,hn,iO _ (by decide),e2,<-hm]
   refine r7 ((fh (P:=prog) (len:=64) (e:=5) rfl rfl rfl (by kernel_rfl) (by kernel_rfl) (by omega) (by omega)).rds H) ea ?_;have sG:prog.cellsOf 5=1:=by kernel_rfl
   have uB:Aw prog 5=false:=by kernel_rfl
   rw[bB,sG,bM,eS];have hl:=Qs (P:=prog) (o:=opr f122 3 7) (H:=H) (T:=5) U3 rfl hT (by kernel_rfl) (q:=m) (by rw[sG];simp only[iP,aR];show _<=64;omega) (fun _=>by simp only[iP,aR];show _<64;omega);rw[uB]at hl;have hv:((tabL.map fun n=>Value.int .u8 (n:Nat)).toArray).getD m undef= .int .u8 (x:Nat):=by
    rw[dD,List.getElem?_toArray,List.getElem?_map,a1j];rfl
   simp only[cN,if_false,hv]at hl;simp only[cA,nA];refine r7 hl rfl ?_;refine d9 ⟨_,rfl⟩ (g8 rfl ⟨rfl,?_⟩);simp only[rxs,Bv,htz,ii];rw[we (by omega)]
end
theorem gy {P:Program} {ρ:List Value} {a:SV} {n:Nat} {k:IntKind} (ha:D P ρ a= .int k (n:Nat)) (h:n<M64):D P ρ (.cv .u64 a)= .int .u64 (n:Nat):=by
 show Value.int .u64 (IntKind.u64.wrap (intOf (D P ρ a)))=_;rw[ha];show Value.int .u64 (IntKind.u64.wrap (n:Int))= .int .u64 _;congr 1;rw[IntKind.wrap_u64];simp only[M64]at h;omega
end Go.Proofs.Z
/- How many bits: plain. -/
namespace Go.GS
def Fd (s:Nat):List Nat->Nat
 |[]=>0
 |d::l=>d+2^s*Fd s l
def Bn:List Nat->List Nat
 |[]=>[]
 |[a]=>[a]
 |a::_::l=>a::Bn l
def Mk (s:Nat):Nat->Nat
 |0=>0
 |n+1=>(2^s-1)+2^(2*s)*Mk s n
def Bg:List Nat->List Nat->List Nat
 |a::l,b::r=>(a+b)::Bg l r
 |l,[]=>l
 |[],r=>r
theorem JP {k p q r t:Nat} (hp:p<2^k) (hr:r<2^k):(p+2^k*q)&&&(r+2^k*t)=(p&&&r)+2^k*(q&&&t):=by
 have h1:p&&&r<2^k:=aY gC hp;apply iD;intro i;rw[fY,eI p,eI r,eI (p&&&r),eM _ hp,eM _ hr,eM _ h1];split
 ·rw[fY]
 ·rw[fY]
theorem wh {s:Nat}:∀(n:Nat) (l:List Nat),(∀d∈l,d<2^s)->l.length<=2*n->Fd s l&&&Mk s n=Fd (2*s) (Bn l):=by
 intro n;induction n with
 |zero=>
  intro l _ hl;have:l=[]:=aZ (by omega);subst this;simp[Fd,Bn,Mk]
 |succ n ih=>
  intro l hd hl;have hp:=fF s;have hm:2^s-1<2^(2*s):=by
   have:2^s<=2^(2*s):=aU (by omega) (by omega);omega
  cases l with
  |nil=>simp[Fd,Bn]
  |cons a l=>
   have ha:=hd a (by simp);have ham:a&&&(2^s-1)=a:=by rw[kE,bR ha]
   cases l with
   |nil=>
    have rX:a<2^(2*s):=by omega
    have:=JP (q:=0) (t:=Mk s n) rX hm;simp only[Fd,Bn,Mk,Nat.mul_zero,Nat.add_zero]at this⊢;rw[this,ham];simp
   |cons b l=>
    have hb:=hd b (by simp);have rL:a+2^s*b<2^(2*s):=by
     rw[pB,dG];have:2^s*(b+1)<=2^s*2^s:=dA _ hb;rw[cS]at this;omega
    have e:Fd s (a::b::l)=(a+2^s*b)+2^(2*s)*Fd s l:=by
     simp only[Fd,cS,<-Nat.mul_assoc,<-dG,pB,Nat.add_assoc]
    have e2:(a+2^s*b)&&&(2^s-1)=a:=by
     rw[kE,Nat.add_mul_mod_self_left,bR ha]
    rw[e];simp only[Mk,Bn,Fd];rw[JP rL hm,e2,ih l (fun d h=>hd d (by simp[h])) (by simp at hl;omega)]
theorem c6O {s d:Nat} {l:List Nat} (hd:d<2^s):Fd s (d::l)/2^s=Fd s l:=by
 simp only[Fd];rw[Nat.add_mul_div_left _ _ (fF s),Nat.div_eq_of_lt hd,bM]
theorem Yv {s:Nat}:∀(k:Nat) (l:List Nat),(∀d∈l,d<2^s)->Fd s l/2^(k*s)=Fd s (l.drop k):=by
 intro k;induction k with
 |zero=>intro l _;simp
 |succ k ih=>
  intro l hd;cases l with
  |nil=>simp[Fd]
  |cons a l=>rw[Nat.add_mul,dS,eI,dG,<-Nat.div_div_eq_div_mul,c6O (hd a (by simp)),ih l (fun d h=>hd d (by simp[h])),jP]
theorem Yw {s:Nat}:∀(l r:List Nat),Fd s (Bg l r)=Fd s l+Fd s r:=by
 intro l;induction l with
 |nil=>intro r;cases r<;>simp[Bg,Fd]
 |cons a l ih=>
  intro r;cases r with
  |nil=>simp[Bg,Fd]
  |cons b r=>simp only[Bg,Fd,ih,cS];omega
theorem d9G {s:Nat}:∀(l:List Nat),(∀d∈l,d<2^s)->Fd s l<2^(s*l.length):=by
 intro l;induction l with
 |nil=>intro _;simp[Fd]
 |cons a l ih=>
  intro hd;have h1:=ih fun d h=>hd d (by simp[h]);have h2:=hd a (by simp);simp only[Fd,bA];rw[cS,eS,eI (s*l.length),dG];have:2^s*(Fd s l+1)<=2^s*2^(s*l.length):=dA _ h1;rw[cS]at this;omega
theorem wi {B C:Nat}:∀{l r:List Nat},(∀d∈l,d<=B)->(∀d∈r,d<=C)->∀d∈Bg l r,d<=B+C:=by
 intro l;induction l with
 |nil=>intro r _ hr d hd;cases r with
  |nil=>simp[Bg]at hd
  |cons b r=>simp only[Bg]at hd;have:=hr d hd;omega
 |cons a l ih=>
  intro r hl hr d hd;cases r with
  |nil=>simp only[Bg]at hd;have:=hl d hd;omega
  |cons b r=>
   simp only[Bg,aL]at hd;rcases hd with rfl|hd
   ·have:=hl a (by simp);have:=hr b (by simp);omega
   ·exact ih (fun x h=>hl x (by simp[h])) (fun x h=>hr x (by simp[h])) d hd
theorem c1K:∀{n:Nat} {l:List Nat},l.length<=n->∀d∈Bn l,d∈l:=by
 intro n;induction n with
 |zero=>intro l hl d hd;have:l=[]:=aZ (by omega);subst this;simp[Bn]at hd
 |succ n ih=>
  intro l hl d hd
  match l,hl,hd with
  |[],_,hd=>simp[Bn]at hd
  |[a],_,hd=>simpa[Bn]using hd
  |a::b::l,hl,hd=>
   simp only[Bn,aL]at hd;rcases hd with rfl|hd
   ·simp
   ·have:=ih (l:=l) (by simp at hl;omega) d hd;simp[this]
theorem Yx {B:Nat} {l:List Nat} (h:∀d∈l,d<=B):∀d∈Bn l,d<=B:=fun d hd=>h d (c1K (aN _) d hd)
theorem wj {B:Nat} {l:List Nat} (k:Nat) (h:∀d∈l,d<=B):∀d∈l.drop k,d<=B:=fun d hd=>h d (mA hd)
theorem c6P:∀(l r:List Nat),r.length<=l.length->(Bg l r).length=l.length:=by
 intro l;induction l with
 |nil=>intro r h;cases r with
  |nil=>rfl
  |cons b r=>simp at h
 |cons a l ih=>intro r h;cases r with
  |nil=>rfl
  |cons b r=>simp only[Bg,bA];rw[ih r (by simpa using h)]
def Fh (l:List Nat):List Nat:=Bg (Bn l) (Bn (l.drop 1))
theorem wk:∀(n:Nat) (l:List Nat),l.length=2*n->(Fh l).sum=l.sum/\(Fh l).length=n:=by
 intro n;induction n with
 |zero=>intro l h;have:l=[]:=aZ (by omega);subst this;exact⟨rfl,rfl⟩
 |succ n ih=>
  intro l h
  match l,h with
  | [a, b], h => simp only [bA, List.length_nil] at h; obtain rfl : n = 0 := by omega
                 simp[Fh,Bn,Bg]
  |a::b::c::l,h=>
   have:=ih (c::l) (by simp at h⊢;omega);have e:Fh (a::b::c::l)=(a+b)::Fh (c::l):=by
    simp only[Fh,jP,dH,Bn,Bg]
   rw[e];simp only[gB,bA]at this⊢;omega
def Gg (x n:Nat):List Nat:=(bL n).map fun i=>if x.testBit i then 1 else 0
theorem c1L (x n:Nat):Gg x (n+1)=(if x.testBit 0 then 1 else 0)::Gg (x/2) n:=by
 unfold Gg;rw[List.range_succ_eq_map,aM,List.map_map];congr 1;apply List.map_congr_left;intro i _;simp only[Function.comp,Nat.testBit_succ]
theorem JQ:∀(n x:Nat),x<2^n->Fd 1 (Gg x n)=x:=by
 intro n;induction n with
 |zero=>intro x h;simp at h;subst h;rfl
 |succ n ih=>
  intro x h;rw[c1L];simp only[Fd,Nat.pow_one];rw[ih (x/2) (by rw[kH]at h;omega),Nat.testBit_zero];rcases kX x with h1|h1
  ·simp[h1];omega
  ·simp[h1];omega
theorem d2z (x n:Nat):∀d∈Gg x n,d<=1:=by
 intro d hd;unfold Gg at hd;rw[List.mem_map]at hd;obtain⟨i,_,rfl⟩:=hd;split<;>omega
theorem JR (x n:Nat):(Gg x n).length=n:=by simp[Gg]
theorem c1N (x:Nat):(Gg x 64).sum=card x:=by
 unfold Gg card els bit;generalize bL 64=l;induction l with
 |nil=>rfl
 |cons i l ih=>
  rw[aM,gB,ih,List.filter_cons];split
  ·simp;omega
  ·simp
theorem JS {s n B:Nat} {l:List Nat} (hl:l.length=2*n) (hB:∀d∈l,d<=B) (hs:B<2^s) (hx:Fd s l<M64):(Fd s l/2^s&&&Mk s n)+(Fd s l&&&Mk s n)=Fd (2*s) (Fh l):=by
 have hd:∀d∈l,d<2^s:=fun d h=>aY (hB d h) hs;have h1:=Yv 1 l hd;rw[dS]at h1;rw[h1,wh n _ (fun d h=>hd d (mA h)) (by rw[List.length_drop];omega),wh n l hd (by omega),eI,<-Yw];rfl
theorem wn {l:List Nat} {s m:Nat} (hl:s*l.length<=64) (h:∀d∈l,d<2^s):Fd s l<M64:=by
 have h1:=d9G l h;have h2:2^(s*l.length)<=2^64:=aU (by omega) hl;exact bK h1 h2
end Go.GS
/- Loops by states; calls that only read. -/
namespace Go.RX
open Go.RowKit
def Asks (P:Program) (f:FuncId) (args:List Value) (H:PH) (v:Value):Prop:=Con P f args H fun u H'=>H'=H/\u=v
section
variable {P:Program} {G:Value->PH->Prop} {nx:List (List Value->PH->Prop)} {ρ:List Value} {H:PH}
theorem Aq {pf:Bool} {f:FuncId} {args:List SV} {t:Tree} {vs:List Value} {v:Value} (hd:Asks P f vs H v) (ha:args.map (D P ρ)=vs) (n:den P G t nx (ρ++[v]) H):den P G (.call pf f args t) nx ρ H:=
 i6 hd ha fun u H' ⟨h1,h2⟩=>by subst h1;subst h2;exact⟨fun _=>PH.le.refl _,n⟩
theorem Yy {F:List Value->PH->Prop} {nx nx':List (List Value->PH->Prop)} {a b:List Value->PH->Prop} (hl:nx.length=nx'.length) (h:∀d l h,nx.getD d F l h->nx'.getD d F l h) (rL:∀l h,a l h->b l h):
  (nx++[a]).length=(nx'++[b]).length/\∀d l h,(nx++[a]).getD d F l h->(nx'++[b]).getD d F l h:=by
 refine⟨by simp[hl],fun d l h' hx=> ?_⟩;rw[aB]at hx⊢;by_cases hd:d<nx.length
 ·rw[dB hd]at hx;rw[dB (by omega)];have:=h d l h';rw[aB,aB]at this;exact this hx
 ·rw[cQ (by omega)]at hx;rw[cQ (by omega)];rw[<-hl];cases e:d-nx.length with
  |zero=>rw[e]at hx;exact rL l h' hx
  |succ n=>rw[e]at hx;exact hx
theorem c6Q:∀(t:Tree) (nx nx':List (List Value->PH->Prop)) (ρ:List Value) (H:PH),nx.length=nx'.length->(∀d l h,nx.getD d (fun _ _=>False) l h->nx'.getD d (fun _ _=>False) l h)->den P G t nx ρ H->den P G t nx' ρ H:=by
 intro t;induction t with
 |ret l=>intro nx nx' ρ H _ _ h;exact h
 |rq r t ih=>intro nx nx' ρ H hl hn h;exact⟨h.1,ih _ _ _ _ hl hn h.2⟩
 |br c t e ih1 ih2=>intro nx nx' ρ H hl hn h;exact⟨fun hc=>ih1 _ _ _ _ hl hn (h.1 hc),fun hc=>ih2 _ _ _ _ hl hn (h.2 hc)⟩
 |call pf f args t ih=>
  intro nx nx' ρ H hl hn h w hw;exact(h w hw).mono fun e w' ⟨v,H',he,hs,hp,hd⟩=>⟨v,H',he,hs,hp,ih _ _ _ _ hl hn hd⟩
 |prim id i o args t ih=>
  intro nx nx' ρ H hl hn h;obtain⟨v,hd,h⟩:=h;exact⟨v,hd,ih _ _ _ _ hl hn h⟩
 |eff pf id i o args t ih=>
  intro nx nx' ρ H hl hn h w hw;exact(h w hw).mono fun u w' ⟨H',hs,hp,hd⟩=>⟨H',hs,hp,ih _ _ _ _ hl hn hd⟩
 |ext f args t ih=>
  intro nx nx' ρ H hl hn h;obtain⟨v,hd,h⟩:=h;exact⟨v,hd,ih _ _ _ _ hl hn h⟩
 |pub T c t ih=>intro nx nx' ρ H hl hn h b hb;exact ih _ _ _ _ hl hn (h b hb)
 |dead n=>intro nx nx' ρ H _ _ h;exact h
 |rf g np ini tb ta te ih1 ih2 ih3=>
  intro nx nx' ρ H hl hn h;obtain⟨f,caps,X,K,Ro,E,S,Sp,I,Ix,h1,h2,h3,h4,h5,h6,h7,h8,h9,vL⟩:=h;refine⟨f,caps,X,K,Ro,E,S,Sp,I,Ix,h1,h2,h3,h4,h5,h6,h7,fun pre xs vals X' a b c=>⟨(h8 pre xs vals X' a b c).1,?_⟩,fun xs vals X' K' a b c d=>ih2 _ _ _ _ hl hn (h9 xs vals X' K' a b c d),fun pre vals X' K' a b c d=>ih3 _ _ _ _ hl hn (vL pre vals X' K' a b c d)⟩;have e1:=Yy (F:=fun _ _=>False) hl hn (a:=fun v h=>I (pre++[xs]) v h) (b:=fun v h=>I (pre++[xs]) v h) (fun _ _ h=>h);have e2:=Yy (F:=fun _ _=>False) e1.1 e1.2 (a:=fun v h=>Ix (pre++[xs]) v h) (b:=fun v h=>Ix (pre++[xs]) v h) (fun _ _ h=>h);simp only[bG,List.cons_append,List.nil_append]at e2;exact ih1 _ _ _ _ e2.1 e2.2 (h8 pre xs vals X' a b c).2
 |mk id i o args t ih=>
  intro nx nx' ρ H hl hn h;obtain⟨mk,ob,h1,h2⟩:=h;exact⟨mk,ob,h1,fun b hb=>ih _ _ _ _ hl hn (h2 b hb)⟩
 |loop ini t ih=>
  intro nx nx' ρ H hl hn h;obtain⟨I,μ,h0,h1⟩:=h;refine⟨I,μ,h0,fun vals H' hv hI=> ?_⟩;have e:=Yy (F:=fun _ _=>False) hl hn (a:=fun l h=>I l h/\μ l h<μ vals H') (b:=fun l h=>I l h/\μ l h<μ vals H') (fun _ _ h=>h);exact ih _ _ _ _ e.1 e.2 (h1 vals H' hv hI)
 |next d l=>intro nx nx' ρ H hl hn h;exact hn d _ _ h
 |join n t u ih1 ih2=>
  intro nx nx' ρ H hl hn h;obtain⟨J,h1,h2⟩:=h;have e:=Yy (F:=fun _ _=>False) hl hn (a:=J) (b:=J) (fun _ _ h=>h);exact⟨J,ih1 _ _ _ _ e.1 e.2 h1,fun vals H' hv hJ=>ih2 _ _ _ _ hl hn (h2 vals H' hv hJ)⟩
theorem c1P {p:Nat->Prop}:∀n,p n->∃m,p m/\∀k,p k->m<=k:=by
 intro n;induction n using Nat.strongRecOn with
 |_ n ih=>
  intro hp;by_cases h:∃k,k<n/\p k
  ·obtain⟨k,h1,h2⟩:=h;exact ih k h1 h2
  ·exact⟨n,hp,fun k hk=>Nat.le_of_not_lt fun pO=>h ⟨k,pO,hk⟩⟩
theorem s9 {ini:List SV} {t:Tree} {α:Type} (f:α->List Value) (Q:α->PH->Prop) (m:α->Nat) (a0:α) (h0:ini.map (D P ρ)=f a0) (hQ:Q a0 H)
  (hs:∀a H',Q a H'->den P G t (nx++[fun l h=>∃b,m b<m a/\l=f b/\Q b h]) (ρ++f a) H'):den P G (.loop ini t) nx ρ H:=by
 classical
 have key:∀(l:List Value) (h:PH),(∃a,l=f a/\Q a h)->∃a,(l=f a/\Q a h)/\∀b,(l=f b/\Q b h)->m a<=m b:=by
  intro l h ⟨a,ha⟩;obtain⟨n,⟨a',e1,e2⟩,e3⟩:=c1P (p:=fun n=>∃a,m a=n/\l=f a/\Q a h) (m a) ⟨a,rfl,ha⟩;exact⟨a',e2,fun b hb=>by rw[e1];exact e3 _ ⟨b,rfl,hb⟩⟩
 refine⟨fun l h=>∃a,l=f a/\Q a h,fun l h=>if hx:∃a,l=f a/\Q a h then m (key l h hx).choose else 0,⟨a0,h0,hQ⟩,?_⟩;intro vals H' _ hI;obtain⟨⟨e1,e2⟩,e3⟩:=(key vals H' hI).choose_spec;have hm:(if hx:∃a,vals=f a/\Q a H' then m (key vals H' hx).choose else 0)=m (key vals H' hI).choose:=dif_pos hI;have h:=hs _ H' e2;rw[<-e1]at h;have e:=Yy (F:=fun _ _=>False) (nx:=nx) (nx':=nx) rfl (fun _ _ _ h=>h) (a:=fun l h=>∃b,m b<m (key vals H' hI).choose/\l=f b/\Q b h)
  (b:=fun l h=>(∃a,l=f a/\Q a h)/\(if hx:∃a,l=f a/\Q a h then m (key l h hx).choose else 0)<(if hx:∃a,vals=f a/\Q a H' then m (key vals H' hx).choose else 0)) (by
   rintro l h' ⟨b,qQ,qR,uC⟩;have hx:∃a,l=f a/\Q a h':=⟨b,qR,uC⟩;refine⟨hx,?_⟩;rw[hm,dif_pos hx];exact aY ((key l h' hx).choose_spec.2 b ⟨qR,uC⟩) qQ)
 exact c6Q _ _ _ _ _ e.1 e.2 h
theorem Dq {ini:List SV} {t:Tree} {α:Type} (f:α->List Value) (Q:α->Prop) (m:α->Nat) (a0:α) (h0:ini.map (D P ρ)=f a0) (hQ:Q a0)
  (hs:∀a,Q a->den P G t (nx++[fun l h=>∃b,m b<m a/\l=f b/\Q b/\h=H]) (ρ++f a) H):den P G (.loop ini t) nx ρ H:=
 s9 f (fun a h=>Q a/\h=H) m a0 h0 ⟨hQ,rfl⟩ fun a H' ⟨h1,h2⟩=>by subst h2;exact hs a h1
theorem PH.le_put_of {H H':PH} {b:Nat} {o:Obj} (h:PH.le H H') (hb:H b=none):PH.le H (H'.put b o):=fun k ob hk=>by
 unfold PH.put;split
 ·rename_i e;subst e;rw[hb]at hk;cases hk
 ·exact h k ob hk
theorem PH.le_put2 {H:PH} {b:Nat} (hb:H b=none) (o o2:Obj):PH.le H ((H.put b o).put b o2):=PH.le_put_of (PH.le_put hb _) hb
structure Sc (P:Program) (T:TypeId):Prop where
 has:z7 P T=true
 agg:Aw P T=false
 cel:P.cellsOf T=1
structure Ag (P:Program) (T:TypeId) (n:Nat):Prop where
 has:z7 P T=true
 agg:Aw P T=true
 cel:P.cellsOf T=n
structure Ar (P:Program) (T e:TypeId) (n:Nat):Prop where
 und:P.underlying T=some (.array n e)
 has:z7 P T=true
 agg:Aw P T=true
 cel:P.cellsOf T=n
 sc:Sc P e
section
variable {o o1 o2:Oper} {x y x2:Operand} {id i id2 i2:Nat} {args args2:List SV} {t:Tree} {pf:Bool} {b q:Nat} {T T' e:TypeId} {fz:Nat×Nat} {cs:Array Value} {u:Value} {n:Nat}
theorem w9 (hT:Sc P T) (ho:o.op= .load T x) (hx:g9 [x] [.pointer (some ⟨b,q,none⟩)] x= .pointer (some ⟨b,q,none⟩)) (hH:H b=some (.cells cs T' fz)) (hv:cs[q]? =some u) (ha:args.map (D P ρ)=[.pointer (some ⟨b,q,none⟩)]) (n:den P G t nx (ρ++[u]) H):den P G (.prim id i o args t) nx ρ H:=by
 have hq:=(Array.getElem?_eq_some_iff.1 hv).1;have h:=Qs ho hx hH hT.has (by rw[hT.cel];omega) (fun _=>hq);rw[hT.agg]at h;simp only[cN,if_false,dD,hv,Option.getD_some]at h;exact r7 h ha n
theorem Fj {vs:List Value} (hT:Ag P T vs.length) (ho:o.op= .load T x) (hx:g9 [x] [.pointer (some ⟨b,q,none⟩)] x= .pointer (some ⟨b,q,none⟩)) (hH:H b=some (.cells cs T' fz)) (hv:(cs.toList.drop q).take vs.length=vs) (hq:q+vs.length<=cs.size) (ha:args.map (D P ρ)=[.pointer (some ⟨b,q,none⟩)]) (n:den P G t nx (ρ++[.agg vs.toArray]) H):den P G (.prim id i o args t) nx ρ H:=by
 have h:=Qs ho hx hH hT.has (by rw[hT.cel];exact hq) (fun h=>by rw[hT.agg]at h;cases h);rw[hT.agg,hT.cel]at h;simp only[if_true]at h;have:cs.extract q (q+vs.length)=vs.toArray:=by rw[<-eZ,Array.toList_extract,List.extract_eq_take_drop,Nat.add_sub_cancel_left,hv]
 rw[this]at h;exact r7 h ha n
theorem Oq (hT:Sc P T) (ho:o.op= .store T x y) (hx:g9 [x,y] [.pointer (some ⟨b,q,none⟩),u] x= .pointer (some ⟨b,q,none⟩)) (hy:g9 [x,y] [.pointer (some ⟨b,q,none⟩),u] y=u) (hH:H b=some (.cells cs T' (0,0))) (hq:q<cs.size) (hu:u.cells= #[u]) (h1:Dx u=true) (ha:args.map (D P ρ)=[.pointer (some ⟨b,q,none⟩),u]) (vB:pf=true->PH.le H (H.put b (.cells (cs.setIfInBounds q u) T' (0,0))))
  (n:den P G t nx (ρ++[undef]) (H.put b (.cells (cs.setIfInBounds q u) T' (0,0)))):den P G (.eff pf id i o args t) nx ρ H:=by
 refine r4 (Ug ho hx hy hH hT.has (by rw[hT.cel];omega) (by rw[hu,hT.cel];rfl) (fun c hc=> ?_)) ha ?_
 ·rw[hu]at hc;simp at hc;subst hc;exact h1
 ·rintro v H' ⟨rfl,rfl⟩;rw[hu];exact⟨vB,n⟩
theorem c6R:∀(vs cs:List Value) (q:Nat) (a:Array Value),a.size=q+vs.length->(spl a q vs).toList=a.toList.take q++vs:=by
 intro vs;induction vs with
 |nil=>intro cs q a h;simp only[spl];rw[aK (by simp at h⊢;omega),List.append_nil]
 |cons v vs ih=>
  intro cs q a h;simp only[spl];simp only[bA]at h;rw[ih cs (q+1) _ (by simp;omega),Array.toList_setIfInBounds];rw[List.take_add_one,List.take_set_of_le (aN _),bG];congr 1;rw[List.getElem?_set_self (by simp;omega)];rfl
theorem gz {vs:List Value} (hT:Ag P T vs.length) (ho:o.op= .store T x y) (hx:g9 [x,y] [.pointer (some ⟨b,0,none⟩),.agg vs.toArray] x= .pointer (some ⟨b,0,none⟩)) (hy:g9 [x,y] [.pointer (some ⟨b,0,none⟩),.agg vs.toArray] y= .agg vs.toArray) (hH:H b=some (.cells cs T' (0,0))) (hq:cs.size=vs.length) (h1:∀c∈vs,Dx c=true) (ha:args.map (D P ρ)=[.pointer (some ⟨b,0,none⟩),.agg vs.toArray]) (vB:pf=true->PH.le H (H.put b (.cells vs.toArray T' (0,0))))
  (n:den P G t nx (ρ++[undef]) (H.put b (.cells vs.toArray T' (0,0)))):den P G (.eff pf id i o args t) nx ρ H:=by
 refine r4 (Ug ho hx hy hH hT.has (by rw[hT.cel];omega) (by rw[hT.cel];rfl) (fun c hc=>h1 c (by simpa[It]using hc))) ha ?_;rintro v H' ⟨rfl,rfl⟩;have:spl cs 0 (Value.agg vs.toArray).cells.toList=vs.toArray:=by
  rw[<-eZ,It];have:=c6R vs [] 0 cs (by omega);simpa using this
 rw[this];exact⟨vB,n⟩
theorem ic {len m:Nat} {k:IntKind} (hT:Ar P T e len) (tZ:o1.op= .indexAddr T x y) (uA:o2.op= .load e x2) (hx:g9 [x,y] [.pointer (some ⟨b,0,none⟩),.int k (m:Nat)] x= .pointer (some ⟨b,0,none⟩)) (hy:g9 [x,y] [.pointer (some ⟨b,0,none⟩),.int k (m:Nat)] y= .int k (m:Nat)) (rR:g9 [x2] [.pointer (some ⟨b,m,none⟩)] x2= .pointer (some ⟨b,m,none⟩))
  (hH:H b=some (.cells cs T' fz)) (hm:m<len) (hv:cs[m]? =some u) (ha:args.map (D P ρ)=[.pointer (some ⟨b,0,none⟩),.int k (m:Nat)]) (rX:args2.map (D P (ρ++[.pointer (some ⟨b,m,none⟩)]))=[.pointer (some ⟨b,m,none⟩)]) (n:den P G t nx (ρ++[.pointer (some ⟨b,m,none⟩)]++[u]) H):den P G (.prim id i o1 args (.prim id2 i2 o2 args2 t)) nx ρ H:=by
 have h:=(fh (len:=len) (q:=0) tZ hx hy hT.und hT.sc.has (by omega) (by omega)).rds H;rw[hT.sc.cel,bB,bM,eS]at h;exact r7 h ha (w9 hT.sc uA rR hH hv rX n)
structure FA (P:Program) (S:TypeId) (i off:Nat):Prop where
 und:P.underlying S=some (.struct (fieldsOf P S))
 lt:i<(fieldsOf P S).size
 off:(fieldAt P S i).offset=off
 has:z7 P (fieldAt P S i).type=true
 ne:P.cellsOf (fieldAt P S i).type≠0
theorem d6W {S i' off:Nat} (hF:FA P S i' off) (ho:o.op= .fieldAddr S x i') (hx:g9 [x] [.pointer (some ⟨b,q,none⟩)] x= .pointer (some ⟨b,q,none⟩)) (ha:args.map (D P ρ)=[.pointer (some ⟨b,q,none⟩)]) (n:den P G t nx (ρ++[.pointer (some ⟨b,q+off,none⟩)]) H):den P G (.prim id i o args t) nx ρ H:=
 r7 ((si ho hx hF.und hF.lt rfl hF.off hF.has hF.ne).rds H) ha n
theorem s6 {S i' off:Nat} (hF:FA P S i' off) (n:den P G t nx (ρ++[.pointer (some ⟨b,q+off,none⟩)]) H) (ho:o.op= .fieldAddr S x i':=by exact rfl) (ha:args.map (D P ρ)=[.pointer (some ⟨b,q,none⟩)]:=by exact rfl) (hx:g9 [x] [.pointer (some ⟨b,q,none⟩)] x= .pointer (some ⟨b,q,none⟩):=by exact rfl):den P G (.prim id i o args t) nx ρ H:=d6W hF ho hx ha n
theorem ig {α:Type} {ce:α->List Value} {sz:Nat} {l:List α} (hH:H b=some (.cells cs T' fz)) (hl:cs.toList=l.flatMap ce) (hs:cs.size=l.length*sz) (hm:l.length<=maxLen):SE H sz ce (.slice (some ⟨b,0,none⟩) l.length l.length) l:=by
 refine⟨by rw[<-hl,Array.length_toList,hs],_,_,rfl,aN _,hm,.inr ⟨b,0,cs,T',fz,rfl,hH,?_⟩⟩;rw[<-hl,dH];exact aK (by simp[hs])
end
theorem He {pf:Bool} {id i:Nat} {o:Oper} {args:List SV} {t:Tree} {vs:List Value} {v:Value} (hd:Run P o vs v) (ha:args.map (D P ρ)=vs) (n:den P G t nx (ρ++[v]) H):den P G (.eff pf id i o args t) nx ρ H:=
 r4 (hd.opn H) ha fun u H' ⟨h1,h2⟩=>by subst h1;subst h2;exact⟨fun _=>PH.le.refl _,n⟩
theorem Ee {T:TypeId} {c:SV} {t:Tree} {cs:Array Value} (hz:(D P ρ c).cells=cs) (n:∀b,H b=none->den P G t nx (ρ++[.pointer (some ⟨b,0,none⟩)]) (H.put b (.cells cs T (0,0)))):den P G (.pub T c t) nx ρ H:=by
 subst hz;exact n
def Ao (P:Program) (f:FuncId) (args:List Value) (H:PH) (v:Value):Prop:=Con P f args H fun u H'=>PH.le H H'/\u=v
theorem Asks.give {f:FuncId} {args:List Value} {v:Value} (h:Asks P f args H v):Ao P f args H v:=h.mono fun u H' ⟨h1,h2⟩=>by subst h1;exact⟨PH.le.refl _,h2⟩
theorem x9 {pf:Bool} {f:FuncId} {args:List SV} {t:Tree} {vs:List Value} {v:Value} (hd:Ao P f vs H v) (ha:args.map (D P ρ)=vs) (n:∀H',PH.le H H'->den P G t nx (ρ++[v]) H'):den P G (.call pf f args t) nx ρ H:=
 i6 hd ha fun u H' ⟨h1,h2⟩=>by subst h2;exact⟨fun _=>h1,n H' h1⟩
end
end Go.RX

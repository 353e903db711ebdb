/- Sets of nodes as words: plain laws. -/
import Derived.Test.YtmannekkmdockaaGreatDoorRxW
import Derived.Test.YtmannekkmdockaaGreatDoorGaT
import Derived.Test.YtmannekkmdockaaGreatDoorWdB
namespace Go.GS
open Go.RX
def uv (s:Nat):Value:= .int .u64 (s:Nat)
def ii (z:Int):Value:= .int .i64 z
abbrev M64:Nat:=18446744073709551616
theorem b7Y {a:Nat} (h:a<M64):(BitVec.ofInt 64 (a:Int)).toNat=a:=by
 have h:a<18446744073709551616:=h
 rw[BitVec.toNat_ofInt];simp;omega
theorem u64_and {a b:Nat} (ha:a<M64) (hb:b<M64):IntKind.u64.wrap ((BitVec.ofInt (IntKind.bits .u64) (a:Int)&&&BitVec.ofInt (IntKind.bits .u64) (b:Int)).toNat:Int)=((a&&&b:Nat):Int):=by
 have e:(BitVec.ofInt 64 (a:Int)&&&BitVec.ofInt 64 (b:Int)).toNat=a&&&b:=by rw[BitVec.toNat_and,b7Y ha,b7Y hb]
 show IntKind.u64.wrap ((BitVec.ofInt 64 (a:Int)&&&BitVec.ofInt 64 (b:Int)).toNat:Int)=_
 rw[e,IntKind.wrap_u64]
 have:=Nat.and_lt_two_pow a (n:=64) (y:=b) (by simpa using hb)
 exact Int.emod_eq_of_lt (by omega) (by omega)
theorem u64_or {a b:Nat} (ha:a<M64) (hb:b<M64):IntKind.u64.wrap ((BitVec.ofInt (IntKind.bits .u64) (a:Int)|||BitVec.ofInt (IntKind.bits .u64) (b:Int)).toNat:Int)=((a|||b:Nat):Int):=by
 have e:(BitVec.ofInt 64 (a:Int)|||BitVec.ofInt 64 (b:Int)).toNat=a|||b:=by rw[BitVec.toNat_or,b7Y ha,b7Y hb]
 show IntKind.u64.wrap ((BitVec.ofInt 64 (a:Int)|||BitVec.ofInt 64 (b:Int)).toNat:Int)=_
 rw[e,IntKind.wrap_u64]
 have:=Nat.or_lt_two_pow (n:=64) (x:=a) (y:=b) (by simpa using ha) (by simpa using hb)
 exact Int.emod_eq_of_lt (by omega) (by omega)
def sdf (a b:Nat):Nat:=a^^^(a&&&b)
theorem c0y (a b i:Nat):(sdf a b).testBit i=(a.testBit i&& !b.testBit i):=by
 unfold sdf;rw[Nat.testBit_xor,Nat.testBit_and];cases a.testBit i<;>cases b.testBit i<;>rfl
theorem sdf_lt {a b:Nat} (ha:a<M64):sdf a b<M64:=by
 have h1:a&&&b<2^64:=Nat.lt_of_le_of_lt Nat.and_le_left (by simpa using ha)
 exact Nat.xor_lt_two_pow (n:=64) (by simpa using ha) h1
theorem u64_andn {a b:Nat} (ha:a<M64) (hb:b<M64):IntKind.u64.wrap ((BitVec.ofInt (IntKind.bits .u64) (a:Int)&&& ~~~BitVec.ofInt (IntKind.bits .u64) (b:Int)).toNat:Int)=((sdf a b:Nat):Int):=by
 have e:(BitVec.ofInt 64 (a:Int)&&& ~~~BitVec.ofInt 64 (b:Int)).toNat=sdf a b:=by
  apply Nat.eq_of_testBit_eq
  intro i
  rw[BitVec.toNat_and,c0y,Nat.testBit_and,b7Y ha,<-BitVec.getLsbD,BitVec.getLsbD_not,BitVec.getLsbD,b7Y hb]
  by_cases hi:i<64
  ·simp[hi]
  ·have:a.testBit i=false:=Nat.testBit_lt_two_pow (Nat.lt_of_lt_of_le (by simpa using ha:a<2^64) (Nat.pow_le_pow_right (by omega) (by omega)))
   simp[this]
 show IntKind.u64.wrap ((BitVec.ofInt 64 (a:Int)&&& ~~~BitVec.ofInt 64 (b:Int)).toNat:Int)=_
 rw[e,IntKind.wrap_u64]
 have:=sdf_lt (b:=b) ha
 exact Int.emod_eq_of_lt (by omega) (by simp only[M64]at this;omega)
theorem u64_shl {a k:Nat} (hk:k<64):IntKind.u64.wrap ((a:Int)*2^(min ((k:Nat):Int).toNat (IntKind.bits .u64)))=((a*2^k%M64:Nat):Int):=by
 have e:min ((k:Nat):Int).toNat (IntKind.bits .u64)=k:=by show min ((k:Nat):Int).toNat 64=k;rw[Int.toNat_natCast];omega
 rw[e,IntKind.wrap_u64];simp[M64]
theorem u64_shr {a k:Nat}:(a:Int).fdiv (2^(min ((k:Nat):Int).toNat (IntKind.bits .u64)))=((a/2^(min k 64):Nat):Int):=by
 show(a:Int).fdiv (2^(min ((k:Nat):Int).toNat 64))=_
 rw[Int.toNat_natCast,show(2:Int)^(min k 64)=((2^(min k 64):Nat):Int)from by simp,Int.fdiv_eq_ediv_of_nonneg _ (Int.natCast_nonneg _)]
 simp
theorem u64_neg {a:Nat} (ha:a<M64):IntKind.u64.wrap (0-(a:Int))=(((M64-a)%M64:Nat):Int):=by
 rw[IntKind.wrap_u64];simp only[M64]at*;omega
theorem u64_sub {a b:Nat} (ha:a<M64) (hb:b<=a):IntKind.u64.wrap ((a:Int)-(b:Int))=((a-b:Nat):Int):=by
 rw[IntKind.wrap_u64];simp only[M64]at*;omega
def bit (s x:Nat):Bool:=s.testBit x
theorem b4h {s x:Nat} (hs:s<M64) (hx:64<=x):bit s x=false:=
 Nat.testBit_lt_two_pow (Nat.lt_of_lt_of_le (by simpa using hs:s<2^64) (Nat.pow_le_pow_right (by omega) hx))
theorem a1r {s x:Nat} (hs:s<M64) (h:bit s x=true):x<64:=by
 rcases Nat.lt_or_ge x 64 with h1|h1
 ·exact h1
 ·rw[b4h hs h1]at h;cases h
theorem a1R (a b x:Nat):bit (a&&&b) x=(bit a x&&bit b x):=Nat.testBit_and ..
theorem a0G (a b x:Nat):bit (a|||b) x=(bit a x||bit b x):=Nat.testBit_or ..
theorem a0p (a b x:Nat):bit (sdf a b) x=(bit a x&& !bit b x):=c0y ..
theorem a0v (k x:Nat):bit (2^k) x=decide (k=x):=Nat.testBit_two_pow ..
theorem a0J (x:Nat):bit 0 x=false:=Nat.zero_testBit x
theorem a0F {a b:Nat} (h:∀x,bit a x=bit b x):a=b:=Nat.eq_of_testBit_eq h
theorem c0z {a b:Nat} (ha:a<M64) (hb:b<M64) (h:∀x,x<64->bit a x=bit b x):a=b:=a0F fun x=>by
 rcases Nat.lt_or_ge x 64 with h1|h1
 ·exact h x h1
 ·rw[b4h ha h1,b4h hb h1]
theorem a0S {k:Nat} (h:k<64):2^k<M64:=by
 have:=Nat.pow_lt_pow_right (a:=2) (by omega) h
 exact this
theorem d0o {k:Nat} (h:k<64):1*2^k%M64=2^k:=by rw[Nat.one_mul,Nat.mod_eq_of_lt (a0S h)]
theorem a6d {a b:Nat} (ha:a<M64) (hb:b<M64):a|||b<M64:=Nat.or_lt_two_pow (n:=64) (by simpa using ha) (by simpa using hb)
theorem b5H {a b:Nat} (ha:a<M64):a&&&b<M64:=Nat.lt_of_le_of_lt Nat.and_le_left ha
theorem d0p {a b:Nat} (hb:b<M64):a&&&b<M64:=Nat.lt_of_le_of_lt Nat.and_le_right hb
theorem d0q {s x:Nat}:((s/2^x)&&&1:Nat)=if bit s x then 1 else 0:=by
 have h1:bit s x=((s/2^x)&&&1 !=0):=by
  unfold bit Nat.testBit
  rw[Nat.shiftRight_eq_div_pow,Nat.and_comm]
 rw[h1,Nat.and_one_is_mod]
 rcases Nat.mod_two_eq_zero_or_one (s/2^x)with h|h<;>simp[h]
theorem b4i {s x:Nat} (h:s<M64):s/2^x<M64:=Nat.lt_of_le_of_lt (Nat.div_le_self _ _) h
def els (s:Nat):List Nat:=(List.range 64).filter (bit s)
theorem a1Y {s x:Nat} (hs:s<M64):x∈els s↔bit s x=true:=by
 unfold els
 rw[List.mem_filter,List.mem_range]
 exact⟨fun h=>h.2,fun h=>⟨a1r hs h,h⟩⟩
theorem c5r {s x:Nat} (h:x∈els s):x<64/\bit s x=true:=by
 unfold els at h
 rw[List.mem_filter,List.mem_range]at h;exact h
theorem b0U:els 0=[]:=by
 unfold els
 rw[List.filter_eq_nil_iff]
 intro x _;simp[a0J]
theorem a8f {s:Nat} (hs:s<M64) (h:els s=[]):s=0:=c0z hs (by decide) fun x hx=>by
 rw[a0J]
 cases e:bit s x with
 |false=>rfl
 |true=>have:=(a1Y hs).2 e;rw[h]at this;cases this
theorem a8g {s k:Nat} (hk:bit s k=true) (hl:∀j,j<k->bit s j=false):s=2^(k+1)*(s/2^(k+1))+2^k:=by
 have h:=Nat.div_add_mod s (2^(k+1))
 have e:s%2^(k+1)=2^k:=by
  apply Nat.eq_of_testBit_eq
  intro i
  rw[Nat.testBit_mod_two_pow,Nat.testBit_two_pow]
  by_cases h1:i<k
  ·have:=hl i h1
   unfold bit at this
   simp[this,show ¬k=i from by omega]
  ·by_cases h2:i=k
   ·subst h2
    unfold bit at hk
    simp[hk]
   ·simp[show ¬i<k+1 from by omega,show ¬k=i from fun e=>h2 e.symm]
 rw[e]at h;exact h.symm
theorem a7b {s k:Nat} (hk:bit s k=true) (hl:∀j,j<k->bit s j=false) (i:Nat):bit (s-1) i=if i<k then true else if i=k then false else bit s i:=by
 have h:=a8g hk hl
 have h2:=Nat.two_pow_pos k
 generalize s/2^(k+1)=q at h
 have e1:s-1=2^(k+1)*q+(2^k-1):=by omega
 have hlt:2^k-1<2^(k+1):=by rw[Nat.pow_succ];omega
 have hlt2:2^k<2^(k+1):=by rw[Nat.pow_succ];omega
 unfold bit
 rw[e1,Nat.testBit_two_pow_mul_add _ hlt]
 rw[h,Nat.testBit_two_pow_mul_add _ hlt2,Nat.testBit_two_pow_sub_one,Nat.testBit_two_pow]
 by_cases c1:i<k
 ·simp[c1,show i<k+1 from by omega]
 ·by_cases c2:i=k
  ·subst c2;simp
  ·simp[c1,c2,show ¬i<k+1 from by omega]
theorem a5o {s x:Nat} {r:List Nat} (h:els s=x::r):bit s x=true/\x<64/\∀j,j<x->bit s j=false:=by
 have hm:=c5r (s:=s) (x:=x) (by rw[h];simp)
 refine⟨hm.2,hm.1,fun j hj=> ?_⟩
 cases e:bit s j with
 |false=>rfl
 |true=>
  have hp:(els s).Pairwise (· < ·):=List.pairwise_lt_range.filter _
  have hj':j∈els s:=by unfold els;rw[List.mem_filter,List.mem_range];exact⟨by omega,e⟩
  rw[h]at hj' hp
  rcases List.mem_cons.1 hj' with rfl|hj'
  ·omega
  ·have:=(List.pairwise_cons.1 hp).1 j hj';omega
theorem a2G (s:Nat):(els s).Pairwise (· < ·):=List.pairwise_lt_range.filter _
theorem a9F:∀{a b:List Nat},a.Pairwise (· < ·)->b.Pairwise (· < ·)->(∀x,x∈a↔x∈b)->a=b:=by
 intro a
 induction a with
 |nil=>intro b _ _ h;cases b with
  |nil=>rfl
  |cons y b=>exact absurd ((h y).2 (by simp)) (by simp)
 |cons x a ih=>
  intro b ha hb h
  cases b with
  |nil=>exact absurd ((h x).1 (by simp)) (by simp)
  |cons y b=>
   rw[List.pairwise_cons]at ha hb
   have e:x=y:=by
    rcases List.mem_cons.1 ((h x).1 (by simp))with h1|h1
    ·exact h1
    ·rcases List.mem_cons.1 ((h y).2 (by simp))with h2|h2
     ·exact h2.symm
     ·have:=ha.1 y h2;have:=hb.1 x h1;omega
   subst e
   rw[ih ha.2 hb.2 fun z=> ?_]
   constructor
   ·intro hz
    rcases List.mem_cons.1 ((h z).1 (by simp[hz]))with h1|h1
    ·have:=ha.1 z hz;omega
    ·exact h1
   ·intro hz
    rcases List.mem_cons.1 ((h z).2 (by simp[hz]))with h1|h1
    ·have:=hb.1 z hz;omega
    ·exact h1
theorem b5I {s x:Nat} {r:List Nat} (hs:s<M64) (h:els s=x::r):els (s&&&(s-1))=r:=by
 obtain⟨h1,h2,h3⟩:=a5o h
 have hp:=a2G s
 rw[h,List.pairwise_cons]at hp
 refine a9F (a2G _) hp.2 fun y=> ?_
 rw[a1Y (b5H hs),a1R,a7b h1 h3]
 have hy:=a1Y (x:=y) hs
 rw[h]at hy
 constructor
 ·intro hh
  rw[Bool.and_eq_true]at hh
  rcases List.mem_cons.1 (hy.2 hh.1)with rfl|h4
  ·simp at hh
  ·exact h4
 ·intro hh
  have h4:=hp.1 y hh
  rw[hy.1 (by simp[hh])]
  simp[show ¬y<x from by omega,show ¬y=x from by omega]
theorem a5p {s x:Nat} {r:List Nat} (hs:s<M64) (h:els s=x::r):s&&&((M64-s)%M64)=2^x:=by
 obtain⟨h1,h2,h3⟩:=a5o h
 have h0:s≠0:=fun e=>by rw[e,a0J]at h1;cases h1
 apply a0F
 intro i
 have e1:(M64-s)%M64=2^64-((s-1)+1):=by
  rw[Nat.mod_eq_of_lt (by omega)]
  show 2^64-s=_
  congr 1;omega
 have e2:bit (2^64-((s-1)+1)) i=(decide (i<64)&& !bit (s-1) i):=Nat.testBit_two_pow_sub_succ (by simp only[M64]at hs;omega) i
 rw[a1R,e1,e2,a7b h1 h3,a0v]
 by_cases c1:i<x
 ·simp[c1,show ¬x=i from by omega]
 ·by_cases c2:i=x
  ·subst c2;simp[h1,h2]
  ·simp[c1,c2,show ¬x=i from fun e=>c2 e.symm]
   intro h5 _;exact h5
def card (s:Nat):Nat:=(els s).length
end Go.GS
/- Chapter 32: contracts of the library. -/
namespace Go.Proofs.YtmannekkmdockaaGreatDoor
open Go.Proofs.Tryz
open Go.RowKit Go.RX Go.WD Go.GS
theorem el_int:El prog 32 3 1 false (fun z:Int=>[ii z]) ii where
 und:=by kernel_rfl
 has:=by kernel_rfl
 cel:=by kernel_rfl
 agg:=by kernel_rfl
 pos:=by decide
 one1:=fun _=>rfl
 small:=by decide
 inf:=⟨(prog.info? 3).getD default,ii 0,by kernel_rfl,by kernel_rfl,by kernel_rfl,rfl,of_decide_eq_true (by kernel_rfl)⟩
 len:=fun _=>rfl
 val:=fun _=>rfl
 cells:=fun _=>rfl
 one:=fun x c hc=>by simp at hc;subst hc;rfl
theorem el_plan:El prog 33 3 1 false (fun z:Int=>[ii z]) ii where
 und:=by kernel_rfl
 has:=by kernel_rfl
 cel:=by kernel_rfl
 agg:=by kernel_rfl
 pos:=by decide
 one1:=fun _=>rfl
 small:=by decide
 inf:=⟨(prog.info? 3).getD default,ii 0,by kernel_rfl,by kernel_rfl,by kernel_rfl,rfl,of_decide_eq_true (by kernel_rfl)⟩
 len:=fun _=>rfl
 val:=fun _=>rfl
 cells:=fun _=>rfl
 one:=fun x c hc=>by simp at hc;subst hc;rfl
theorem el_u64:El prog 76 54 1 false (fun s:Nat=>[uv s]) uv where
 und:=by kernel_rfl
 has:=by kernel_rfl
 cel:=by kernel_rfl
 agg:=by kernel_rfl
 pos:=by decide
 one1:=fun _=>rfl
 small:=by decide
 inf:=⟨(prog.info? 54).getD default,uv 0,by kernel_rfl,by kernel_rfl,by kernel_rfl,rfl,of_decide_eq_true (by kernel_rfl)⟩
 len:=fun _=>rfl
 val:=fun _=>rfl
 cells:=fun _=>rfl
 one:=fun x c hc=>by simp at hc;subst hc;rfl
def ec (e:Nat×Nat):List Value:=[ii e.1,ii e.2]
def ev2 (e:Nat×Nat):Value:= .agg #[ii e.1,ii e.2]
theorem el_edge:El prog 35 99 2 true ec ev2 where
 und:=by kernel_rfl
 has:=by kernel_rfl
 cel:=by kernel_rfl
 agg:=by kernel_rfl
 pos:=by decide
 one1:=fun h=>by cases h
 small:=by decide
 inf:=⟨(prog.info? 99).getD default,.agg #[ii 0,ii 0],by kernel_rfl,by kernel_rfl,by kernel_rfl,rfl,of_decide_eq_true (by kernel_rfl)⟩
 len:=fun _=>rfl
 val:=fun _=>rfl
 cells:=fun _=>rfl
 one:=fun x c hc=>by simp[ec]at hc;rcases hc with rfl|rfl<;>rfl
theorem c7P {n:Nat} (h:n<9223372036854775808):IntKind.i64.wrap (n:Int)=n:=by rw[IntKind.wrap_i64];omega
theorem d0r (k:IntKind) (a:Int):unV .neg k a= .int k (k.wrap (0-a)):=rfl
theorem c0A (k:IntKind) (a:Int):intOf (.int k a)=a:=rfl
def tabL:List Nat:=[0,1,56,2,57,49,28,3,61,58,42,50,38,29,17,4,62,47,59,36,45,43,51,22,53,39,33,30,24,18,12,5,63,55,48,27,60,41,37,16,46,35,44,21,52,32,23,11,54,26,40,15,34,20,31,10,25,14,19,9,13,8,7,6]
def Tb (H:PH):Prop:=∃T fz,H 0=some (.cells (tabL.map fun n=>Value.int .u8 (n:Nat)).toArray T fz)
theorem Tb.mono {H H':PH} (h:Tb H) (hl:PH.le H H'):Tb H':=by
 obtain⟨T,fz,h⟩:=h;exact⟨T,fz,hl _ _ h⟩
def tz (s:Nat):Nat:=(els s).headD 64
theorem d4l:∀k,k<64->tabL[(2^k*285870213051353865%18446744073709551616)/288230376151711744]? =some k:=by decide
section
variable {H:PH} {s:Nat}
theorem b5J (hT:Tb H) (hs:s<M64):Con prog 122 [uv s] H fun u H'=>H'=H/\u=ii (tz s):=by
 obtain⟨T,fz,hT⟩:=hT
 refine a0b mixed d6I (by kernel_rfl) rfl (a0a ⟨_,rfl⟩ (a0e (b:=decide (s=0)) ?_ (fun h=> ?_) (fun h=> ?_)))
 ·simp only[rxs,uv]
  congr 1
  rw[Bool.eq_iff_iff];simp
 ·have h:=of_decide_eq_true h
  subst h
  refine a0c rfl ⟨rfl,?_⟩
  simp only[rxs,a4M,tz,b0U];rfl
 ·have h:=of_decide_eq_false h
  cases he:els s with
  |nil=>exact absurd (a8f hs he) h
  |cons x r=>
   have hn:=a5p hs he
   have hx:=(a5o he).2.1
   have htz:tz s=x:=by simp[tz,he]
   have htab:=d4l x hx
   have hlt:=(List.getElem?_eq_some_iff.1 htab).1
   obtain⟨m,hm⟩:∃m,m=(2^x*285870213051353865%18446744073709551616)/288230376151711744:=⟨_,rfl⟩
   rw[<-hm]at htab hlt
   have hlt:m<64:=hlt
   have e1:((M64-s)%M64:Nat)<M64:=Nat.mod_lt _ (by decide)
   have ea:[SV.k (Value.pointer (some ⟨0,0,none⟩)),SV.op2 .shr .u64 (.op2 .mul .u64 (.op2 .and .u64 (.v 0) (.op1 .neg .u64 (.v 0))) (.k (.int .u64 285870213051353865))) (.k (.int .u64 58))].map (D prog [uv s])=[.pointer (some ⟨0,0,none⟩),.int .u64 ((m:Nat):Int)]:=by
    simp only[rxs,uv]
    congr 2
    rw[IntKind.wrap_u64]
    have e58:(2:Int)^min (Int.toNat 58) (IntKind.bits .u64)=288230376151711744:=by decide
    have e2:∀n:Nat,(n:Int)*285870213051353865%18446744073709551616/288230376151711744=((n*285870213051353865%18446744073709551616/288230376151711744:Nat):Int):=fun n=>by omega
    rw[e58,d0r,c0A,Go.GS.u64_neg hs,Go.GS.u64_and hs e1,hn,Int.fdiv_eq_ediv_of_nonneg _ (by decide),e2,<-hm]
   refine a0g ((a3b (P:=prog) (len:=64) (e:=5) rfl rfl rfl (by kernel_rfl) (by kernel_rfl) (by omega) (by omega)).rds H) ea ?_
   have hc1:prog.cellsOf 5=1:=by kernel_rfl
   have hag:a0N prog 5=false:=by kernel_rfl
   rw[Int.toNat_natCast,hc1,Nat.zero_add,Nat.mul_one]
   have hl:=a2k (P:=prog) (o:=opr f122 3 7) (H:=H) (T:=5) c0x rfl hT (by kernel_rfl) (q:=m) (by rw[hc1];simp only[List.size_toArray,List.length_map];show _<=64;omega) (fun _=>by simp only[List.size_toArray,List.length_map];show _<64;omega)
   rw[hag]at hl
   have hv:((tabL.map fun n=>Value.int .u8 (n:Nat)).toArray).getD m undef= .int .u8 (x:Nat):=by
    rw[Array.getD_eq_getD_getElem?,List.getElem?_toArray,List.getElem?_map,htab];rfl
   simp only[Bool.false_eq_true,if_false,hv]at hl
   simp only[cA,nA]
   refine a0g hl rfl ?_
   simp only[cA,nA]
   refine a0a ⟨_,rfl⟩ (a0c rfl ⟨rfl,?_⟩)
   simp only[rxs,a4M,htz,ii]
   rw[c7P (by omega)]
end
theorem d4m {P:Program} {ρ:List Value} {a:SV} {n:Nat} {k:IntKind} (ha:D P ρ a= .int k (n:Nat)) (h:n<M64):D P ρ (.cv .u64 a)= .int .u64 (n:Nat):=by
 show Value.int .u64 (IntKind.u64.wrap (intOf (D P ρ a)))=_
 rw[ha]
 show Value.int .u64 (IntKind.u64.wrap (n:Int))= .int .u64 _
 congr 1
 rw[IntKind.wrap_u64];simp only[M64]at h;omega
end Go.Proofs.YtmannekkmdockaaGreatDoor
/- How many bits: plain. -/
namespace Go.GS
def Fd (s:Nat):List Nat->Nat
 |[]=>0
 |d::l=>d+2^s*Fd s l
def a1F:List Nat->List Nat
 |[]=>[]
 |[a]=>[a]
 |a::_::l=>a::a1F l
def Mk (s:Nat):Nat->Nat
 |0=>0
 |n+1=>(2^s-1)+2^(2*s)*Mk s n
def a4E:List Nat->List Nat->List Nat
 |a::l,b::r=>(a+b)::a4E l r
 |l,[]=>l
 |[],r=>r
theorem b2B {k p q r t:Nat} (hp:p<2^k) (hr:r<2^k):(p+2^k*q)&&&(r+2^k*t)=(p&&&r)+2^k*(q&&&t):=by
 have h1:p&&&r<2^k:=Nat.lt_of_le_of_lt Nat.and_le_left hp
 apply Nat.eq_of_testBit_eq
 intro i
 rw[Nat.testBit_and,Nat.add_comm p,Nat.add_comm r,Nat.add_comm (p&&&r),Nat.testBit_two_pow_mul_add _ hp,Nat.testBit_two_pow_mul_add _ hr,Nat.testBit_two_pow_mul_add _ h1]
 split
 ·rw[Nat.testBit_and]
 ·rw[Nat.testBit_and]
theorem c0B {s:Nat}:∀(n:Nat) (l:List Nat),(∀d∈l,d<2^s)->l.length<=2*n->Fd s l&&&Mk s n=Fd (2*s) (a1F l):=by
 intro n
 induction n with
 |zero=>
  intro l _ hl
  have:l=[]:=List.eq_nil_of_length_eq_zero (by omega)
  subst this;simp[Fd,a1F,Mk]
 |succ n ih=>
  intro l hd hl
  have hp:=Nat.two_pow_pos s
  have hm:2^s-1<2^(2*s):=by
   have:2^s<=2^(2*s):=Nat.pow_le_pow_right (by omega) (by omega)
   omega
  cases l with
  |nil=>simp[Fd,a1F]
  |cons a l=>
   have ha:=hd a (by simp)
   have ham:a&&&(2^s-1)=a:=by rw[Nat.and_two_pow_sub_one_eq_mod,Nat.mod_eq_of_lt ha]
   cases l with
   |nil=>
    have ha2:a<2^(2*s):=by omega
    have:=b2B (q:=0) (t:=Mk s n) ha2 hm
    simp only[Fd,a1F,Mk,Nat.mul_zero,Nat.add_zero]at this⊢
    rw[this,ham];simp
   |cons b l=>
    have hb:=hd b (by simp)
    have hab:a+2^s*b<2^(2*s):=by
     rw[Nat.two_mul,Nat.pow_add]
     have:2^s*(b+1)<=2^s*2^s:=Nat.mul_le_mul_left _ hb
     rw[Nat.mul_add]at this;omega
    have e:Fd s (a::b::l)=(a+2^s*b)+2^(2*s)*Fd s l:=by
     simp only[Fd,Nat.mul_add,<-Nat.mul_assoc,<-Nat.pow_add,Nat.two_mul,Nat.add_assoc]
    have e2:(a+2^s*b)&&&(2^s-1)=a:=by
     rw[Nat.and_two_pow_sub_one_eq_mod,Nat.add_mul_mod_self_left,Nat.mod_eq_of_lt ha]
    rw[e]
    simp only[Mk,a1F,Fd]
    rw[b2B hab hm,e2,ih l (fun d h=>hd d (by simp[h])) (by simp at hl;omega)]
theorem c5s {s d:Nat} {l:List Nat} (hd:d<2^s):Fd s (d::l)/2^s=Fd s l:=by
 simp only[Fd]
 rw[Nat.add_mul_div_left _ _ (Nat.two_pow_pos s),Nat.div_eq_of_lt hd,Nat.zero_add]
theorem a8h {s:Nat}:∀(k:Nat) (l:List Nat),(∀d∈l,d<2^s)->Fd s l/2^(k*s)=Fd s (l.drop k):=by
 intro k
 induction k with
 |zero=>intro l _;simp
 |succ k ih=>
  intro l hd
  cases l with
  |nil=>simp[Fd]
  |cons a l=>rw[Nat.add_mul,Nat.one_mul,Nat.add_comm,Nat.pow_add,<-Nat.div_div_eq_div_mul,c5s (hd a (by simp)),ih l (fun d h=>hd d (by simp[h])),List.drop_succ_cons]
theorem b2C {s:Nat}:∀(l r:List Nat),Fd s (a4E l r)=Fd s l+Fd s r:=by
 intro l
 induction l with
 |nil=>intro r;cases r<;>simp[a4E,Fd]
 |cons a l ih=>
  intro r
  cases r with
  |nil=>simp[a4E,Fd]
  |cons b r=>simp only[a4E,Fd,ih,Nat.mul_add];omega
theorem d6J {s:Nat}:∀(l:List Nat),(∀d∈l,d<2^s)->Fd s l<2^(s*l.length):=by
 intro l
 induction l with
 |nil=>intro _;simp[Fd]
 |cons a l ih=>
  intro hd
  have h1:=ih fun d h=>hd d (by simp[h])
  have h2:=hd a (by simp)
  simp only[Fd,List.length_cons]
  rw[Nat.mul_add,Nat.mul_one,Nat.add_comm (s*l.length),Nat.pow_add]
  have:2^s*(Fd s l+1)<=2^s*2^(s*l.length):=Nat.mul_le_mul_left _ h1
  rw[Nat.mul_add]at this;omega
theorem b4j {B C:Nat}:∀{l r:List Nat},(∀d∈l,d<=B)->(∀d∈r,d<=C)->∀d∈a4E l r,d<=B+C:=by
 intro l
 induction l with
 |nil=>intro r _ hr d hd;cases r with
  |nil=>simp[a4E]at hd
  |cons b r=>simp only[a4E]at hd;have:=hr d hd;omega
 |cons a l ih=>
  intro r hl hr d hd
  cases r with
  |nil=>simp only[a4E]at hd;have:=hl d hd;omega
  |cons b r=>
   simp only[a4E,List.mem_cons]at hd
   rcases hd with rfl|hd
   ·have:=hl a (by simp);have:=hr b (by simp);omega
   ·exact ih (fun x h=>hl x (by simp[h])) (fun x h=>hr x (by simp[h])) d hd
theorem c0C:∀{n:Nat} {l:List Nat},l.length<=n->∀d∈a1F l,d∈l:=by
 intro n
 induction n with
 |zero=>intro l hl d hd;have:l=[]:=List.eq_nil_of_length_eq_zero (by omega);subst this;simp[a1F]at hd
 |succ n ih=>
  intro l hl d hd
  match l,hl,hd with
  |[],_,hd=>simp[a1F]at hd
  |[a],_,hd=>simpa[a1F]using hd
  |a::b::l,hl,hd=>
   simp only[a1F,List.mem_cons]at hd
   rcases hd with rfl|hd
   ·simp
   ·have:=ih (l:=l) (by simp at hl;omega) d hd
    simp[this]
theorem a5q {B:Nat} {l:List Nat} (h:∀d∈l,d<=B):∀d∈a1F l,d<=B:=fun d hd=>h d (c0C (Nat.le_refl _) d hd)
theorem b4k {B:Nat} {l:List Nat} (k:Nat) (h:∀d∈l,d<=B):∀d∈l.drop k,d<=B:=fun d hd=>h d (List.mem_of_mem_drop hd)
theorem c5t:∀(l r:List Nat),r.length<=l.length->(a4E l r).length=l.length:=by
 intro l
 induction l with
 |nil=>intro r h;cases r with
  |nil=>rfl
  |cons b r=>simp at h
 |cons a l ih=>intro r h;cases r with
  |nil=>rfl
  |cons b r=>simp only[a4E,List.length_cons];rw[ih r (by simpa using h)]
def a3Z (l:List Nat):List Nat:=a4E (a1F l) (a1F (l.drop 1))
theorem b0V:∀(n:Nat) (l:List Nat),l.length=2*n->(a3Z l).sum=l.sum/\(a3Z l).length=n:=by
 intro n
 induction n with
 |zero=>intro l h;have:l=[]:=List.eq_nil_of_length_eq_zero (by omega);subst this;exact⟨rfl,rfl⟩
 |succ n ih=>
  intro l h
  match l,h with
  | [a, b], h => simp only [List.length_cons, List.length_nil] at h; obtain rfl : n = 0 := by omega
                 simp[a3Z,a1F,a4E]
  |a::b::c::l,h=>
   have:=ih (c::l) (by simp at h⊢;omega)
   have e:a3Z (a::b::c::l)=(a+b)::a3Z (c::l):=by
    simp only[a3Z,List.drop_succ_cons,List.drop_zero,a1F,a4E]
   rw[e]
   simp only[List.sum_cons,List.length_cons]at this⊢
   omega
def a2i (x n:Nat):List Nat:=(List.range n).map fun i=>if x.testBit i then 1 else 0
theorem c0D (x n:Nat):a2i x (n+1)=(if x.testBit 0 then 1 else 0)::a2i (x/2) n:=by
 unfold a2i
 rw[List.range_succ_eq_map,List.map_cons,List.map_map]
 congr 1
 apply List.map_congr_left
 intro i _
 simp only[Function.comp,Nat.testBit_succ]
theorem c0E:∀(n x:Nat),x<2^n->Fd 1 (a2i x n)=x:=by
 intro n
 induction n with
 |zero=>intro x h;simp at h;subst h;rfl
 |succ n ih=>
  intro x h
  rw[c0D]
  simp only[Fd,Nat.pow_one]
  rw[ih (x/2) (by rw[Nat.pow_succ]at h;omega),Nat.testBit_zero]
  rcases Nat.mod_two_eq_zero_or_one x with h1|h1
  ·simp[h1];omega
  ·simp[h1];omega
theorem d0s (x n:Nat):∀d∈a2i x n,d<=1:=by
 intro d hd
 unfold a2i at hd
 rw[List.mem_map]at hd
 obtain⟨i,_,rfl⟩:=hd
 split<;>omega
theorem b5K (x n:Nat):(a2i x n).length=n:=by simp[a2i]
theorem c0F (x:Nat):(a2i x 64).sum=card x:=by
 unfold a2i card els bit
 generalize List.range 64=l
 induction l with
 |nil=>rfl
 |cons i l ih=>
  rw[List.map_cons,List.sum_cons,ih,List.filter_cons]
  split
  ·simp;omega
  ·simp
theorem d4n {s n B:Nat} {l:List Nat} (hl:l.length=2*n) (hB:∀d∈l,d<=B) (hs:B<2^s) (hx:Fd s l<M64):(Fd s l/2^s&&&Mk s n)+(Fd s l&&&Mk s n)=Fd (2*s) (a3Z l):=by
 have hd:∀d∈l,d<2^s:=fun d h=>Nat.lt_of_le_of_lt (hB d h) hs
 have h1:=a8h 1 l hd
 rw[Nat.one_mul]at h1
 rw[h1,c0B n _ (fun d h=>hd d (List.mem_of_mem_drop h)) (by rw[List.length_drop];omega),c0B n l hd (by omega),Nat.add_comm,<-b2C]
 rfl
theorem c0G {l:List Nat} {s m:Nat} (hl:s*l.length<=64) (h:∀d∈l,d<2^s):Fd s l<M64:=by
 have h1:=d6J l h
 have h2:2^(s*l.length)<=2^64:=Nat.pow_le_pow_right (by omega) hl
 exact Nat.lt_of_lt_of_le h1 h2
end Go.GS

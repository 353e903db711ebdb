/- Chapter 32: contracts of the library. -/
import Derived.Test.YtkcjbfoejpfbbaaGreatDoorGaT
import Derived.Test.YtkcjbfoejpfbbaaGreatDoorGsC
import Derived.Test.YtkcjbfoejpfbbaaGreatDoorWdG
namespace Go.Proofs.YtkcjbfoejpfbbaaGreatDoor
open Go.Proofs.Tryz
open Go.RowKit Go.RX Go.WD Go.GS
theorem a0q:El prog 32 3 1 false (fun z:Int=>[ii z]) ii where
 und:=by kernel_rfl
 has:=by kernel_rfl
 cel:=by kernel_rfl
 agg:=by kernel_rfl
 pos:=by decide
 one1:=fun _=>rfl
 small:=by decide
 inf:=⟨(prog.info? 3).getD default,ii 0,by kernel_rfl,by kernel_rfl,by kernel_rfl,rfl,of_decide_eq_true (by kernel_rfl)⟩
 len:=fun _=>rfl
 val:=fun _=>rfl
 cells:=fun _=>rfl
 one:=fun x c hc=>by simp at hc;subst hc;rfl
theorem a1U:El prog 33 3 1 false (fun z:Int=>[ii z]) ii where
 und:=by kernel_rfl
 has:=by kernel_rfl
 cel:=by kernel_rfl
 agg:=by kernel_rfl
 pos:=by decide
 one1:=fun _=>rfl
 small:=by decide
 inf:=⟨(prog.info? 3).getD default,ii 0,by kernel_rfl,by kernel_rfl,by kernel_rfl,rfl,of_decide_eq_true (by kernel_rfl)⟩
 len:=fun _=>rfl
 val:=fun _=>rfl
 cells:=fun _=>rfl
 one:=fun x c hc=>by simp at hc;subst hc;rfl
theorem el_u64:El prog 145 34 1 false (fun s:Nat=>[uv s]) uv where
 und:=by kernel_rfl
 has:=by kernel_rfl
 cel:=by kernel_rfl
 agg:=by kernel_rfl
 pos:=by decide
 one1:=fun _=>rfl
 small:=by decide
 inf:=⟨(prog.info? 34).getD default,uv 0,by kernel_rfl,by kernel_rfl,by kernel_rfl,rfl,of_decide_eq_true (by kernel_rfl)⟩
 len:=fun _=>rfl
 val:=fun _=>rfl
 cells:=fun _=>rfl
 one:=fun x c hc=>by simp at hc;subst hc;rfl
def ec (e:Nat×Nat):List Value:=[ii e.1,ii e.2]
def ev2 (e:Nat×Nat):Value:= .agg #[ii e.1,ii e.2]
theorem el_edge:El prog 36 100 2 true ec ev2 where
 und:=by kernel_rfl
 has:=by kernel_rfl
 cel:=by kernel_rfl
 agg:=by kernel_rfl
 pos:=by decide
 one1:=fun h=>by cases h
 small:=by decide
 inf:=⟨(prog.info? 100).getD default,.agg #[ii 0,ii 0],by kernel_rfl,by kernel_rfl,by kernel_rfl,rfl,of_decide_eq_true (by kernel_rfl)⟩
 len:=fun _=>rfl
 val:=fun _=>rfl
 cells:=fun _=>rfl
 one:=fun x c hc=>by simp[ec]at hc;rcases hc with rfl|rfl<;>rfl
theorem c6T {n:Nat} (h:n<9223372036854775808):IntKind.i64.wrap (n:Int)=n:=by rw[IntKind.wrap_i64];omega
theorem c9A (k:IntKind) (a:Int):unV .neg k a= .int k (k.wrap (0-a)):=rfl
theorem b9s (k:IntKind) (a:Int):intOf (.int k a)=a:=rfl
def tabL:List Nat:=[0,1,56,2,57,49,28,3,61,58,42,50,38,29,17,4,62,47,59,36,45,43,51,22,53,39,33,30,24,18,12,5,63,55,48,27,60,41,37,16,46,35,44,21,52,32,23,11,54,26,40,15,34,20,31,10,25,14,19,9,13,8,7,6]
def Tb (H:PH):Prop:=∃T fz,H 0=some (.cells (tabL.map fun n=>Value.int .u8 (n:Nat)).toArray T fz)
theorem Tb.mono {H H':PH} (h:Tb H) (hl:PH.le H H'):Tb H':=by
 obtain⟨T,fz,h⟩:=h;exact⟨T,fz,hl _ _ h⟩
def tz (s:Nat):Nat:=(els s).headD 64
theorem d3n:∀k,k<64->tabL[(2^k*285870213051353865%18446744073709551616)/288230376151711744]? =some k:=by decide
section
variable {H:PH} {s:Nat}
theorem b0O (hT:Tb H) (hs:s<M64):Con prog 101 [uv s] H fun u H'=>H'=H/\u=ii (tz s):=by
 obtain⟨T,fz,hT⟩:=hT
 refine a0d a0r d5T (by kernel_rfl) rfl (a0a ⟨_,rfl⟩ (a0e (b:=decide (s=0)) ?_ (fun h=> ?_) (fun h=> ?_)))
 ·simp only[rxs,uv]
  congr 1
  rw[Bool.eq_iff_iff];simp
 ·have h:=of_decide_eq_true h
  subst h
  refine a0f rfl ⟨rfl,?_⟩
  simp only[rxs,a2S,tz,a8P];rfl
 ·have h:=of_decide_eq_false h
  cases he:els s with
  |nil=>exact absurd (a4M hs he) h
  |cons x r=>
   have hn:=b0c hs he
   have hx:=(a3x he).2.1
   have htz:tz s=x:=by simp[tz,he]
   have htab:=d3n x hx
   have hlt:=(List.getElem?_eq_some_iff.1 htab).1
   obtain⟨m,hm⟩:∃m,m=(2^x*285870213051353865%18446744073709551616)/288230376151711744:=⟨_,rfl⟩
   rw[<-hm]at htab hlt
   have hlt:m<64:=hlt
   have e1:((M64-s)%M64:Nat)<M64:=Nat.mod_lt _ (by decide)
   have ea:[SV.k (Value.pointer (some ⟨0,0,none⟩)),SV.op2 .shr .u64 (.op2 .mul .u64 (.op2 .and .u64 (.v 0) (.op1 .neg .u64 (.v 0))) (.k (.int .u64 285870213051353865))) (.k (.int .u64 58))].map (D prog [uv s])=[.pointer (some ⟨0,0,none⟩),.int .u64 ((m:Nat):Int)]:=by
    simp only[rxs,uv]
    congr 2
    rw[IntKind.wrap_u64]
    have e58:(2:Int)^min (Int.toNat 58) (IntKind.bits .u64)=288230376151711744:=by decide
    have e2:∀n:Nat,(n:Int)*285870213051353865%18446744073709551616/288230376151711744=((n*285870213051353865%18446744073709551616/288230376151711744:Nat):Int):=fun n=>by omega
    rw[e58,c9A,b9s,Go.GS.u64_neg hs,Go.GS.u64_and hs e1,hn,Int.fdiv_eq_ediv_of_nonneg _ (by decide),e2,<-hm]
   refine a0i ((a3t (P:=prog) (len:=64) (e:=5) rfl rfl rfl (by kernel_rfl) (by kernel_rfl) (by omega) (by omega)).rds H) ea ?_
   have hc1:prog.cellsOf 5=1:=by kernel_rfl
   have hag:a0I prog 5=false:=by kernel_rfl
   rw[Int.toNat_natCast,hc1,Nat.zero_add,Nat.mul_one]
   have hl:=a2I (P:=prog) (o:=opr f101 3 7) (H:=H) (T:=5) b8L rfl hT (by kernel_rfl) (q:=m) (by rw[hc1];simp only[List.size_toArray,List.length_map];show _<=64;omega) (fun _=>by simp only[List.size_toArray,List.length_map];show _<64;omega)
   rw[hag]at hl
   have hv:((tabL.map fun n=>Value.int .u8 (n:Nat)).toArray).getD m undef= .int .u8 (x:Nat):=by
    rw[Array.getD_eq_getD_getElem?,List.getElem?_toArray,List.getElem?_map,htab];rfl
   simp only[Bool.false_eq_true,if_false,hv]at hl
   simp only[cA,nA]
   refine a0i hl rfl ?_
   simp only[cA,nA]
   refine a0a ⟨_,rfl⟩ (a0f rfl ⟨rfl,?_⟩)
   simp only[rxs,a2S,htz,ii]
   rw[c6T (by omega)]
end
theorem d3o {P:Program} {ρ:List Value} {a:SV} {n:Nat} {k:IntKind} (ha:D P ρ a= .int k (n:Nat)) (h:n<M64):D P ρ (.cv .u64 a)= .int .u64 (n:Nat):=by
 show Value.int .u64 (IntKind.u64.wrap (intOf (D P ρ a)))=_
 rw[ha]
 show Value.int .u64 (IntKind.u64.wrap (n:Int))= .int .u64 _
 congr 1
 rw[IntKind.wrap_u64];simp only[M64]at h;omega
end Go.Proofs.YtkcjbfoejpfbbaaGreatDoor

/- Keys of maps: pairs of words, shares. -/
import Derived.Test.YtlmgkkjgdapnpaaGreatDoorRxR
import Derived.Test.YtlmgkkjgdapnpaaGreatDoorShB
import Derived.StringKeys
import Derived.Test.YtlmgkkjgdapnpaaGreatDoorGqT
import Derived.Test.YtlmgkkjgdapnpaaGreatDoorRxY
namespace Go.Proofs.YtlmgkkjgdapnpaaGreatDoor
open Go.Proofs.Tryz
open Go.RowKit Go.RX Go.GS Go.RZ
open Go.WD (words dig wd)
set_option maxRecDepth 100000
theorem c7Z {P:Program} {kt:TypeId} {κ:Type} {ok:κ->Prop} {ce:κ->List AV} {ve:κ->Value} (hK:b2M P kt) (hf:∀k,ok k->b0l P 6 kt (ce k)=true) (hr:∀(σ:Rl) k,rz σ (.agg (ce k))=ve k) (hi:∀a b,ok a->ok b->ve a=ve b->a=b):d0V P kt ok ve where
 check:=fun k hk b w=>by
  have hK:∀t,(fun t=>Nat.beq t kt) t=true->b2M P t:=fun t ht=>by rw[d0U ht];exact hK
  have:=b1J (σ:=fun _=>(0,0)) (kty:=fun t=>Nat.beq t kt) hK (v:= .agg (ce k)) (kt:=kt) (by simp[b2L,hf k hk]) b w
  rwa[hr]at this
 stays:=fun k hk w=>by
  have hK:∀t,(fun t=>Nat.beq t kt) t=true->b2M P t:=fun t ht=>by rw[d0U ht];exact hK
  have:=b1K (σ:=fun _=>(0,0)) (kty:=fun t=>Nat.beq t kt) hK (v:= .agg (ce k)) (kt:=kt) (by simp[b2L,hf k hk]) w
  rwa[hr]at this
 find:=fun k hk E hE w=>by
  have hK:∀t,(fun t=>Nat.beq t kt) t=true->b2M P t:=fun t ht=>by rw[d0U ht];exact hK
  have:=b4P (σ:=fun _=>(0,0)) (kty:=fun t=>Nat.beq t kt) (key:= .agg (ce k)) (kt:=kt) hK (by simp[b2L,hf k hk]) E (fun e he=>by
   obtain⟨a,ha,h⟩:=hE e he
   exact⟨.agg (ce a),by rw[hr];exact h,by simp[b2L,hf a ha]⟩) w
  rwa[hr]at this
 inj:=hi
def d6j (p:Nat×Nat):Prop:=p.1<M64/\p.2<M64
def kW2 (p:Nat×Nat):Value:= .agg #[uv p.1,uv p.2]
theorem d4M:b2M prog 177:=by
 have big:6<=(prog).types.size+1:=of_decide_eq_true (by kernel_rfl)
 exact⟨by kernel_rfl,by kernel_rfl,by kernel_rfl,by kernel_rfl,by kernel_rfl,big⟩
def wA (s:Nat):AV:= .int .u64 (.ofNat s)
theorem d4N {p:Nat×Nat} (h:d6j p):b0l prog 6 177 [wA p.1,wA p.2]=true:=by
 have hu:prog.underlying 177=some (.array 2 57):=by kernel_rfl
 have h1:prog.cellsOf 177=2:=by kernel_rfl
 have h2:prog.cellsOf 57=1:=by kernel_rfl
 have hr:List.range 2=[0,1]:=by decide
 unfold b0l
 rw[hu]
 simp only[h1,h2,hr,List.all_cons,List.all_nil,Bool.and_true]
 rw[Bool.and_eq_true,Bool.and_eq_true]
 exact⟨rfl,b3H h.1 4,b3H h.2 4⟩
theorem d0X:d0V prog 177 d6j kW2:=c7Z (ce:=fun p=>[wA p.1,wA p.2]) d4M (fun _ h=>d4N h) (fun σ p=>rfl) fun a b ha hb h=>by
 unfold kW2 uv at h
 injection h with h
 have h:=congrArg Array.toList h
 simp only[List.cons.injEq,Value.int.injEq,true_and,and_true]at h
 exact Prod.ext (by omega) (by omega)
theorem b9P:d0V prog 9 (fun l:List UInt8=>l.length<=maxLen) st:=by
 have hu:prog.underlying 9=some .string:=by kernel_rfl
 have hk:∀l:List UInt8,l.length<=maxLen->keyOf prog 9 (st l)=some (.string l):=fun l hl=>Go.WideMaps.keyOf_string_mk (s:=ba l) hu (by rw[a3S];exact hl)
 have K:=Go.WideMaps.string_law hu
 exact{
  check:=fun k hl b w=>K.check w b (hk k hl)
  stays:=fun k hl w=>K.stays w (hk k hl)
  find:=fun k hl E hE w=>K.find w (hk k hl) E fun e he=>by
   obtain⟨a,ha,h⟩:=hE e he
   exact⟨_,by rw[h];exact hk a ha⟩
  inj:=fun a b _ _ h=>by
   unfold st ba at h
   injection h with h
   injection h with h
   have:=congrArg Array.toList h
   simpa using this}
theorem b1L:d0V prog 3 (fun _:Int=>True) ii:=by
 have hu:prog.underlying 3=some (.int .i64):=by kernel_rfl
 have hB:∀z:Int,b2L prog (fun _=>false) 3 (.int .i64 z)=true:=fun z=>by
  show(match prog.underlying 3 with|some (.int q)=>isK .i64 q|_=>false)=true
  rw[hu];rfl
 have hK:∀t,(fun _:TypeId=>false) t=true->b2M prog t:=fun _ h=>nomatch h
 exact{
  check:=fun k _ b w=>by
   have:=b1J (σ:=fun _=>(0,0)) (kty:=fun _=>false) hK (hB k) b w
   rwa[rz]at this
  stays:=fun k _ w=>by
   have:=b1K (σ:=fun _=>(0,0)) (kty:=fun _=>false) hK (hB k) w
   rwa[rz]at this
  find:=fun k _ E hE w=>by
   have:=b4P (σ:=fun _=>(0,0)) (kty:=fun _=>false) hK (hB k) E (fun e he=>by
    obtain⟨a,_,h⟩:=hE e he
    exact⟨.int .i64 a,by rw[rz];exact h,hB a⟩) w
   rwa[rz]at this
  inj:=fun a b _ _ h=>by injection h}
end Go.Proofs.YtlmgkkjgdapnpaaGreatDoor
/- Enumeration: how many ways there are to divide a set, and to complete classes. -/
namespace Go.GS
theorem d0Y {S x:Nat} (hx:bit S x=true) (hl:∀j,j<x->bit S j=false):d0R S=x:=by
 have e:S=sdf S (2^x)|||2^x:=a3Y fun y=>by
  rw[a2d,a3y,a2i]
  by_cases h:x=y
  ·subst h;rw[hx];simp
  ·simp[h]
 have:=b9F (R:=sdf S (2^x)) (v:=x) fun i hi=>by
  show bit _ i=false
  rw[a3y,a2i]
  by_cases h:x=i
  ·simp[h]
  ·rw[hl i (by omega)];rfl
 rw[<-e]at this;exact this
theorem b1M (ft:Nat->Bool) (k:Nat):a4C ft k 0=if k=0 then 1 else 0:=by
 cases k with
 |zero=>rfl
 |succ k=>simp[a4C]
theorem b9Q (ft:Nat->Bool) {S:Nat} (h:S≠0):a4C ft 0 S=0:=by simp[a4C,h]
def sbI (S:Nat) (F:Nat->Nat) (i:Nat):Nat:=(((sbs S).take i).map F).sum
theorem a4s {S i s:Nat} {F:Nat->Nat} (h:(sbs S)[i]? =some s):sbI S F (i+1)=sbI S F i+F s:=by
 unfold sbI
 rw[List.take_add_one,h,List.map_append,List.sum_append_nat]
 rfl
theorem b9R {S:Nat} {F:Nat->Nat}:sbI S F (sbs S).length=sbT S F:=by unfold sbI sbT;rw[List.take_length]
theorem c8a {S:Nat} {F:Nat->Nat} (i:Nat):sbI S F i<=sbT S F:=by
 unfold sbI sbT
 have:∀(l:List Nat) (i:Nat),((l.take i).map F).sum<=(l.map F).sum:=by
  intro l
  induction l with
  |nil=>intro i;simp
  |cons a l ih=>
   intro i
   cases i with
   |zero=>simp
   |succ i=>simp only[List.take_succ_cons,List.map_cons,List.sum_cons];have:=ih i;omega
 exact this _ i
end Go.GS
namespace Go.Proofs.YtlmgkkjgdapnpaaGreatDoor
open Go.Proofs.Tryz
open Go.RowKit Go.RX Go.GS
set_option maxRecDepth 100000
theorem a2B:El prog 168 4 1 false (fun b:Bool=>[.bool b]) .bool where
 und:=by kernel_rfl
 has:=by kernel_rfl
 cel:=by kernel_rfl
 agg:=by kernel_rfl
 pos:=by decide
 one1:=fun _=>by decide
 small:=by decide
 inf:=⟨(prog.info? 4).getD default,.bool false,by kernel_rfl,by kernel_rfl,by kernel_rfl,rfl,of_decide_eq_true (by kernel_rfl)⟩
 len:=fun p=>rfl
 val:=fun p=>rfl
 cells:=fun p=>rfl
 one:=fun p c hc=>by simp at hc;subst hc;rfl
theorem b1N:a1q prog 81=true:=by kernel_rfl
theorem a8c:a1q prog 83=true:=by kernel_rfl
theorem b9S:prog.underlying 175=some (.map 177 3):=by kernel_rfl
theorem b9T:Sc prog 175:=⟨by kernel_rfl,by kernel_rfl,by kernel_rfl⟩
theorem a8d:Sc prog 93:=⟨by kernel_rfl,by kernel_rfl,by kernel_rfl⟩
theorem b9U:Sc prog 168:=⟨by kernel_rfl,by kernel_rfl,by kernel_rfl⟩
theorem b9V:Sc prog 176:=⟨by kernel_rfl,by kernel_rfl,by kernel_rfl⟩
theorem b4Q:Sc prog 169:=⟨by kernel_rfl,by kernel_rfl,by kernel_rfl⟩
theorem d0Z:FA prog 171 0 0:=⟨by kernel_rfl,of_decide_eq_true (by kernel_rfl),by kernel_rfl,by kernel_rfl,of_decide_eq_true (by kernel_rfl)⟩
theorem d1a:FA prog 171 1 1:=⟨by kernel_rfl,of_decide_eq_true (by kernel_rfl),by kernel_rfl,by kernel_rfl,of_decide_eq_true (by kernel_rfl)⟩
theorem c5N:FA prog 171 2 2:=⟨by kernel_rfl,of_decide_eq_true (by kernel_rfl),by kernel_rfl,by kernel_rfl,of_decide_eq_true (by kernel_rfl)⟩
theorem d8o:a0G prog 177= .agg #[GS.uv 0,GS.uv 0]:=by kernel_rfl
theorem d4O:∀w,(zeroValue 3).run prog w= .ok (ii 0) w:=fun w=>by rfl
abbrev pt (b:Nat):Value:= .pointer (some ⟨b,0,none⟩)
def d6k (pm pF pd:Nat):Value:= .func (.func 81) #[] #[pt pm,pt pF,pt pd]
def d6l (pd pF:Nat):Value:= .func (.func 83) #[] #[pt pd,pt pF]
structure Fld (B:PH) (n:Nat) (ft:Nat->Bool) (q pm pF pd:Nat) (m:Value):Prop where
 n6:n<=6
 fld:∃w T,B q=some (.cells #[ii (n:Nat),w,d6l pd pF] T (0,0))/\SE B 1 (fun b:Bool=>[.bool b]) w ((List.range (2^n)).map ft)
 mp:∃T,B pm=some (.cells #[m] T (0,0))
 fp:∃T,B pF=some (.cells #[pt q] T (0,0))
 dv:∃T,B pd=some (.cells #[d6k pm pF pd] T (0,0))
def Mem (B H:PH) (ft:Nat->Bool) (m:Value):Prop:=PH.le B H/\∃L,MKO d6j kW2 B H m L/\∀p v,(p,v)∈L->v=ii ((a4C ft p.2 p.1:Nat):Int)
theorem Mem.mono {B H H':PH} {ft:Nat->Bool} {m:Value} (h:Mem B H ft m) (hl:PH.le H H'):Mem B H' ft m:=by
 obtain⟨h1,L,h2,h3⟩:=h;exact⟨h1.trans hl,L,h2.mono hl,h3⟩
section
variable {B H:PH} {n:Nat} {ft:Nat->Bool} {q pm pF pd:Nat} {m:Value}
theorem d7S {ρ:List Value} {a b:SV} {S k:Nat} (ha:D prog ρ a=GS.uv S) (hb:D prog ρ b=GS.uv k):D prog ρ (.put (.put (.z 177) 0 1 a 0 noI) 1 1 b 0 noI)=kW2 (S,k):=by
 show Value.agg (spl (Value.agg (spl (a0G prog 177).cells _ (D prog ρ a).cells.toList)).cells _ (D prog ρ b).cells.toList)=_
 rw[d8o,ha,hb];rfl
theorem c5O {n S:Nat} (hn:n<=6) (h:S<2^n):S<64:=Nat.lt_of_lt_of_le h (Nat.pow_le_pow_right (n:=2) (by decide) hn)
theorem b9W {n k:Nat} (hn:n<=6) (hk:k<=8):2^(n*k)<9223372036854775807:=by
 have:n*k<=6*8:=Nat.mul_le_mul hn hk
 exact Nat.lt_of_le_of_lt (Nat.pow_le_pow_right (n:=2) (by decide) this) (by decide)
theorem c8b {n a b:Nat} (ha:a<2^n) (hb:b<2^n):a|||b<2^n:=Nat.or_lt_two_pow ha hb
def d3u (ft:Nat->Bool) (k S x s:Nat):Nat:=if ft (s|||2^x)then a4C ft k (sdf (sdf S s) (2^x))else 0
theorem a9g (hF:Fld B n ft q pm pF pd m) (k:Nat) (hk8:k<=8) (ih:∀j,k=j+1->∀(S:Nat) (H:PH),S<2^n->Mem B H ft m->Con prog 81 [GS.uv S,ii (j:Nat),pt pm,pt pF,pt pd] H fun r H'=>r=ii ((a4C ft j S:Nat):Int)/\Mem B H' ft m)
  (S:Nat) (H:PH) (hS:S<2^n) (hM:Mem B H ft m):Con prog 81 [GS.uv S,ii (k:Nat),pt pm,pt pF,pt pd] H fun r H'=>r=ii ((a4C ft k S:Nat):Int)/\Mem B H' ft m:=by
 refine a0b mixed c5u (by kernel_rfl) rfl ?_
 have hS64:=c5O hF.n6 hS
 have hSM:S<M64:=Nat.lt_trans hS64 (by decide)
 refine a0a (el_u64.vcells S) ?_
 refine a0a (el_int.vcells ((k:Nat):Int)) ?_
 refine a0a ⟨_,rfl⟩ ?_
 refine a0f (b:=decide (S=0)) (bE0 S) (fun h0=> ?_) (fun h0=> ?_)
 ·replace h0:=of_decide_eq_true h0
  refine a0a ⟨_,rfl⟩ ?_
  refine a0f (b:=decide (((k:Nat):Int)=0)) (bE _ _) (fun hk0=> ?_) (fun hk0=> ?_)
  ·replace hk0:=of_decide_eq_true hk0
   exact a0c rfl ⟨by rw[h0,b1M,if_pos (by omega)];rfl,hM⟩
  ·replace hk0:=of_decide_eq_false hk0
   exact a0c rfl ⟨by rw[h0,b1M,if_neg (by omega)];rfl,hM⟩
 ·replace h0:=of_decide_eq_false h0
  refine a0a ⟨_,rfl⟩ ?_
  refine a0f (b:=decide (((k:Nat):Int)=0)) (bE _ _) (fun hk0=> ?_) (fun hk0=> ?_)
  ·replace hk0:=of_decide_eq_true hk0
   obtain rfl:k=0:=by omega
   exact a0c rfl ⟨by rw[b9Q ft h0];rfl,hM⟩
  ·replace hk0:=of_decide_eq_false hk0
   obtain⟨k,rfl⟩:∃j,k=j+1:=⟨k-1,by omega⟩
   obtain⟨lB,L,hL,hLv⟩:=id hM
   obtain⟨Tm,hmp⟩:=hF.mp
   refine a0a (el_u64.vcells S) ?_
   refine a0g b9T rfl rfl (lB _ _ hmp) rfl rfl ?_
   simp only[cA,nA]
   obtain⟨b,x,hub,hbx⟩:∃b x,((b=false/\x=ii 0/\(S,k+1)∉L.map (·.1))\/(b=true/\((S,k+1),x)∈L))/\(b=true->x=ii ((a4C ft (k+1) S:Nat):Int)):=by
    by_cases h:(S,k+1)∈L.map (·.1)
    ·obtain⟨⟨p,x⟩,hx,rfl⟩:=List.mem_map.1 h
     exact⟨true,x,.inr ⟨rfl,hx⟩,fun _=>hLv _ _ hx⟩
    ·exact⟨false,_,.inl ⟨rfl,rfl,h⟩,fun h=>nomatch h⟩
   have hkM:k+1<M64:=Nat.lt_of_le_of_lt hk8 (by decide)
   refine a0l (a5x d0X (vs:=[m,kW2 (S,k+1)]) (ok2:=true) (k:=(S,k+1)) (u:=x) (b:=b) rfl rfl rfl b9S ⟨hSM,hkM⟩ d4O hL.mk hub) (a0R rfl (d7S rfl (b3A rfl hkM))) ?_
   simp only[cA,nA]
   refine a0a ⟨_,rfl,by simp⟩ ?_
   refine a0a ⟨_,rfl,by simp⟩ ?_
   refine a0a ⟨_,rfl⟩ ?_
   refine a0f (b:=b) rfl (fun hb=> ?_) (fun hb=> ?_)
   ·skip
    exact a0c rfl ⟨hbx hb,hM⟩
   ·skip
    obtain⟨x1,r,hel⟩:∃x r,els S=x::r:=by
     cases hel:els S with
     |nil=>exact absurd (a4U hSM hel) h0
     |cons x r=>exact⟨x,r,rfl⟩
    obtain⟨hx,hx64,hxl⟩:=a1Y hel
    have hx1:x1<n:=b6u hS hx
    have hp2:2^x1<2^n:=Nat.pow_lt_pow_right (by decide) hx1
    have hpM:=a2z hx64
    have hdiv:a4C ft (k+1) S=sbT (sdf S (2^x1)) (d3u ft k S x1):=by
     show(if S=0 then 0 else _)=_
     rw[if_neg h0,d0Y hx hxl]
     rfl
    have hle:=b9D (ft:=ft) (k+1) S hS
    have hcl:=b9W hF.n6 hk8
    have hR:sdf S (2^x1)<M64:=a7N hSM
    refine a0d (b4K (s:=sdf S (2^x1))) (a1R (by rw[a7Q rfl (a8B (B:=(M64-S)%M64) rfl (b9l rfl hSM) hSM (Nat.mod_lt _ (by decide))) hSM (a7O hSM),a5s hSM hel])) ?_
    rintro _ _ ⟨bb,hbb,rfl,rfl⟩
    refine⟨fun h=>(nomatch h),?_⟩
    simp only[cA,nA]
    refine a5q (X:=H) (K:=a6D bb (sdf S (2^x1))) (Ro:=B) (fun pre vals X'=>Mem B X' ft m/\vals=[ii ((sbI (sdf S (2^x1)) (d3u ft k S x1) pre.length:Nat):Int)]) (fun _ _ _=>False) (b9J hR) b1I (a5u _ hbb) rfl (fun _ _ _ h=>h.1.1) ⟨hM,rfl⟩ ?_ ?_ ?_
    ·rintro pre xs vals X' ⟨s,hs,rfl⟩ _ ⟨hM',rfl⟩
     refine⟨rfl,?_⟩
     simp only[cA,nA]
     obtain⟨Tf,hfp⟩:=hF.fp
     obtain⟨w,Tq,hq,hw⟩:=hF.fld
     refine a0g a8d rfl rfl (hM'.1 _ _ hfp) rfl rfl ?_
     simp only[cA,nA]
     refine a0u (ad:=⟨q,0,none⟩) rfl rfl rfl ?_
     simp only[cA,nA]
     refine a0i d1a rfl rfl rfl ?_
     simp only[cA,nA]
     refine a0g b9U rfl rfl (hM'.1 _ _ hq) rfl rfl ?_
     simp only[cA,nA]
     have hsub:=sbs_mem.1 (List.mem_of_getElem? hs)
     have hsn:s<2^n:=Nat.lt_of_le_of_lt (Nat.le_trans (a7W hsub) (b9C _ _)) hS
     have hsM:s<M64:=Nat.lt_of_le_of_lt (Nat.le_trans (a7W hsub) (b9C _ _)) hSM
     have hor:s|||2^x1<2^n:=c8b hsn hp2
     have hj:((List.range (2^n)).map ft)[s|||2^x1]? =some (ft (s|||2^x1)):=by rw[List.getElem?_map,List.getElem?_range hor];rfl
     have hlw:∀{ρ:List Value} {a:SV},D prog ρ a=GS.uv S->D prog ρ (.op2 .and .u64 a (.op1 .neg .u64 a))=GS.uv (2^x1):=fun ha=>by rw[a8B (B:=(M64-S)%M64) ha (b9l ha hSM) hSM (Nat.mod_lt _ (by decide)),a5s hSM hel]
     refine a0a ⟨_,rfl⟩ ?_
     refine a0m a2B rfl rfl rfl rfl (fun _=>rfl) (hw.mono hM'.1) hj (a0R rfl (b6Y rfl (hlw rfl) hsM hpM)) (fun _=>rfl) fun _=> ?_
     simp only[cA,nA]
     refine a0a ⟨_,rfl⟩ ?_
     refine a0f (b:=ft (s|||2^x1)) rfl (fun hft=> ?_) (fun hft=> ?_)
     ·skip
      obtain⟨Td,hdv⟩:=hF.dv
      refine a0g b9V rfl rfl (hM'.1 _ _ hdv) rfl rfl ?_
      simp only[cA,nA]
      have hS1:sdf (sdf S s) (2^x1)<2^n:=a4W (a4W hS)
      refine a0n (a0D (f:=81) (caps:= #[pt pm,pt pF,pt pd]) (vs:=[GS.uv (sdf (sdf S s) (2^x1)),ii (k:Nat)]) rfl rfl rfl b1N (ih k rfl (sdf (sdf S s) (2^x1)) X' hS1 hM')) (b2K rfl (a7Q (a7Q rfl rfl hSM hsM) (hlw rfl) (a7N hSM) hpM) (b9L rfl (by omega))) ?_
      rintro _ X2 ⟨rfl,hM2⟩
      refine⟨fun h=>(nomatch h),?_⟩
      simp only[cA,nA]
      have hbd:=c8a (S:=sdf S (2^x1)) (F:=d3u ft k S x1) (pre.length+1)
      rw[a4s hs]at hbd
      have hF1:d3u ft k S x1 s=a4C ft k (sdf (sdf S s) (2^x1)):=if_pos hft
      rw[hF1]at hbd
      refine a0a ⟨_,rfl⟩ ?_
      refine a0a ⟨_,rfl⟩ ?_
      exact⟨hM2,by rw[List.length_append];show _=[ii ((sbI _ _ (pre.length+1):Nat):Int)];rw[a4s hs,hF1,Int.natCast_add];exact a1R (a3I (x:=((sbI (sdf S (2^x1)) (d3u ft k S x1) pre.length:Nat):Int)) (y:=((a4C ft k (sdf (sdf S s) (2^x1)):Nat):Int)) rfl rfl (by omega) (by omega))⟩
     ·skip
      have hF1:d3u ft k S x1 s=0:=if_neg (by rw[hft];decide)
      exact⟨hM',by rw[List.length_append];show _=[ii ((sbI _ _ (pre.length+1):Nat):Int)];rw[a4s hs,hF1];rfl⟩
    ·rintro xs vals X' K' hxs hd _ ⟨hM',rfl⟩
     rw[hxs,b9R]
     simp only[cA,nA]
     obtain⟨lB2,L2,hL2,hLv2⟩:=hM'.mono (PH.le_or X' K')
     refine a0g b9T rfl rfl (lB2 _ _ hmp) rfl rfl ?_
     simp only[cA,nA]
     rw[<-hdiv]
     refine a0n (a3z d0X (k:=(S,k+1)) (vs:=[m,kW2 (S,k+1),ii ((a4C ft (k+1) S:Nat):Int)]) rfl rfl rfl rfl b9S ⟨hSM,hkM⟩ lB2 hL2) (b2K rfl (d7S rfl (b3A rfl hkM)) rfl) ?_
     rintro _ H3 ⟨rfl,l3,hL3,-⟩
     refine⟨fun h=>(nomatch h),?_⟩
     simp only[cA,nA]
     have hfin:∀p v,(p,v)∈a8w L2 (S,k+1) (ii ((a4C ft (k+1) S:Nat):Int))->v=ii ((a4C ft p.2 p.1:Nat):Int):=fun p v hp=>by
      rcases a2N hp with⟨rfl,rfl⟩|⟨_,h⟩
      ·rfl
      ·exact hLv2 _ _ h
     exact a0c rfl ⟨rfl,l3,_,hL3,hfin⟩
    ·exact fun _ _ _ _ _ _ _ h=>h.elim
theorem b9X (hF:Fld B n ft q pm pF pd m):∀(k:Nat),k<=8->∀(S:Nat) (H:PH),S<2^n->Mem B H ft m->Con prog 81 [GS.uv S,ii (k:Nat),pt pm,pt pF,pt pd] H fun r H'=>r=ii ((a4C ft k S:Nat):Int)/\Mem B H' ft m:=by
 intro k
 induction k with
 |zero=>intro hk S H hS hM;exact a9g hF 0 hk (fun j h=>nomatch h) S H hS hM
 |succ k ih=>intro hk S H hS hM;exact a9g hF (k+1) hk (fun j h=>(show k=j by omega) ▸ ih (by omega)) S H hS hM
def d3v (ft:Nat->Bool) (c:Nat) (cs:List Nat) (R k s:Nat):Nat:=if ft (c|||s)then a2L ft cs (sdf R s) k else 0
theorem b1O (hF:Fld B n ft q pm pF pd m):∀(cs:List Nat) (u:Value) (R k:Nat) (H:PH),SU B u cs->(∀c∈cs,c<2^n)->cs.length<=1000->R<2^n->k<=8->Mem B H ft m->Con prog 83 [u,GS.uv R,ii (k:Nat),pt pd,pt pF] H fun r H'=>r=ii ((a2L ft cs R k:Nat):Int)/\Mem B H' ft m:=by
 intro cs
 induction cs with
 |nil=>
  intro u R k H hu hc hcl hR hk hM
  refine a0b mixed b4H (by kernel_rfl) rfl ?_
  have hR64:=c5O hF.n6 hR
  refine a0a hu.one ?_
  refine a0a (el_u64.vcells R) ?_
  refine a0a (el_int.vcells ((k:Nat):Int)) ?_
  refine a0j el_u64 rfl rfl (hu.mono hM.1) (a1R (a1a rfl hu.cells)) ?_
  simp only[cA,nA]
  refine a0a ⟨_,rfl⟩ ?_
  refine a0K rfl ?_
  obtain⟨Td,hdv⟩:=hF.dv
  refine a0g b9V rfl rfl (hM.1 _ _ hdv) rfl rfl ?_
  simp only[cA,nA]
  refine a0n (a0D (f:=81) (caps:= #[pt pm,pt pF,pt pd]) (vs:=[GS.uv R,ii (k:Nat)]) rfl rfl rfl b1N (b9X hF k hk R H hR hM)) rfl ?_
  rintro _ X2 ⟨rfl,hM2⟩
  refine⟨fun h=>(nomatch h),?_⟩
  simp only[cA,nA]
  exact a0c rfl ⟨rfl,hM2⟩
 |cons c cs ih=>
  intro u R k H hu hc hcl hR hk hM
  refine a0b mixed b4H (by kernel_rfl) rfl ?_
  have hR64:=c5O hF.n6 hR
  have hRM:R<M64:=Nat.lt_trans hR64 (by decide)
  have hcn:=hc c (.head _)
  have hcM:c<M64:=Nat.lt_trans (c5O hF.n6 hcn) (by decide)
  have hlen:(c::cs).length=cs.length+1:=rfl
  refine a0a hu.one ?_
  refine a0a (el_u64.vcells R) ?_
  refine a0a (el_int.vcells ((k:Nat):Int)) ?_
  refine a0j el_u64 rfl rfl (hu.mono hM.1) (a1R (a1a rfl hu.cells)) ?_
  simp only[cA,nA]
  have hne:¬((cs.length+1:Nat):Int)=0:=by omega
  refine a0a ⟨_,rfl⟩ ?_
  refine a0e (bF hne) ?_
  refine a0j el_u64 rfl rfl (hu.mono hM.1) (a1R (a1a rfl hu.cells)) ?_
  simp only[cA,nA]
  refine a0a ⟨_,rfl⟩ ?_
  refine a0a ⟨_,rfl⟩ ?_
  refine a0f (b:=decide (((cs.length+1:Nat):Int)<=(k:Nat))) rfl (fun hlk=> ?_) (fun hlk=> ?_)
  ·replace hlk:=of_decide_eq_true hlk
   obtain⟨k,rfl⟩:∃j,k=j+1:=⟨k-1,by omega⟩
   have hle:=b9E (ft:=ft) (n:=n) (c::cs) R (k+1) hR
   have hcl2:=b9W hF.n6 hk
   have hcmp:a2L ft (c::cs) R (k+1)=sbT R (d3v ft c cs R k):=rfl
   refine a0d (b4K (s:=R)) rfl ?_
   rintro _ _ ⟨bb,hbb,rfl,rfl⟩
   refine⟨fun h=>(nomatch h),?_⟩
   simp only[cA,nA]
   refine a5q (X:=H) (K:=a6D bb R) (Ro:=B) (fun pre vals X'=>Mem B X' ft m/\vals=[ii ((sbI R (d3v ft c cs R k) pre.length:Nat):Int)]) (fun _ _ _=>False) (b9J hRM) b1I (a5u _ hbb) rfl (fun _ _ _ h=>h.1.1) ⟨hM,rfl⟩ ?_ ?_ ?_
   ·rintro pre xs vals X' ⟨s,hs,rfl⟩ _ ⟨hM',rfl⟩
    refine⟨rfl,?_⟩
    simp only[cA,nA]
    obtain⟨Tf,hfp⟩:=hF.fp
    obtain⟨w,Tq,hq,hw⟩:=hF.fld
    refine a0g a8d rfl rfl (hM'.1 _ _ hfp) rfl rfl ?_
    simp only[cA,nA]
    refine a0u (ad:=⟨q,0,none⟩) rfl rfl rfl ?_
    simp only[cA,nA]
    refine a0i d1a rfl rfl rfl ?_
    simp only[cA,nA]
    refine a0g b9U rfl rfl (hM'.1 _ _ hq) rfl rfl ?_
    simp only[cA,nA]
    have hat:(c::cs)[0]? =some c:=rfl
    refine a0m el_u64 rfl rfl rfl rfl (fun _=>rfl) (hu.mono hM'.1) hat (a0R (a1a rfl hu.cells) rfl) (fun _=>rfl) fun _=> ?_
    simp only[cA,nA]
    have hsub:=sbs_mem.1 (List.mem_of_getElem? hs)
    have hsn:s<2^n:=Nat.lt_of_le_of_lt (a7W hsub) hR
    have hsM:s<M64:=Nat.lt_of_le_of_lt (a7W hsub) hRM
    have hor:c|||s<2^n:=c8b hcn hsn
    have hj:((List.range (2^n)).map ft)[c|||s]? =some (ft (c|||s)):=by rw[List.getElem?_map,List.getElem?_range hor];rfl
    refine a0a ⟨_,rfl⟩ ?_
    refine a0a ⟨_,rfl⟩ ?_
    refine a0m a2B rfl rfl rfl rfl (fun _=>rfl) (hw.mono hM'.1) hj (a0R rfl (b6Y rfl rfl hcM hsM)) (fun _=>rfl) fun _=> ?_
    simp only[cA,nA]
    refine a0a ⟨_,rfl⟩ ?_
    refine a0f (b:=ft (c|||s)) rfl (fun hft=> ?_) (fun hft=> ?_)
    ·skip
     refine a0g a8d rfl rfl (hM'.1 _ _ hfp) rfl rfl ?_
     simp only[cA,nA]
     refine a0u (ad:=⟨q,0,none⟩) rfl rfl rfl ?_
     simp only[cA,nA]
     refine a0i c5N rfl rfl rfl ?_
     simp only[cA,nA]
     refine a0g b4Q rfl rfl (hM'.1 _ _ hq) rfl rfl ?_
     simp only[cA,nA]
     obtain⟨u2,hy2,hs2⟩:=b9c el_u64 (vs:=[u,ii 1]) (k:= .i64) (j:=1) b1E rfl rfl hu (by omega)
     refine a0l (hy2.rds _) (a0R (a1a rfl hu.cells) rfl) ?_
     simp only[cA,nA]
     have hS1:sdf R s<2^n:=a4W hR
     refine a0a ⟨_,rfl⟩ ?_
     refine a0n (a0D (f:=83) (caps:= #[pt pd,pt pF]) (vs:=[u2,GS.uv (sdf R s),ii (k:Nat)]) rfl rfl rfl a8c (ih u2 (sdf R s) k X' hs2 (fun c' h=>hc c' (.tail _ h)) (by omega) hS1 (by omega) hM')) (b6Z rfl rfl (a7Q rfl rfl hRM hsM) (b9L rfl (by omega))) ?_
     rintro _ X2 ⟨rfl,hM2⟩
     refine⟨fun h=>(nomatch h),?_⟩
     simp only[cA,nA]
     have hbd:=c8a (S:=R) (F:=d3v ft c cs R k) (pre.length+1)
     rw[a4s hs]at hbd
     have hF1:d3v ft c cs R k s=a2L ft cs (sdf R s) k:=if_pos hft
     rw[hF1]at hbd
     refine a0a ⟨_,rfl⟩ ?_
     refine a0a ⟨_,rfl⟩ ?_
     exact⟨hM2,by rw[List.length_append];show _=[ii ((sbI _ _ (pre.length+1):Nat):Int)];rw[a4s hs,hF1,Int.natCast_add];exact a1R (a3I (x:=((sbI R (d3v ft c cs R k) pre.length:Nat):Int)) (y:=((a2L ft cs (sdf R s) k:Nat):Int)) rfl rfl (by omega) (by omega))⟩
    ·skip
     have hF1:d3v ft c cs R k s=0:=if_neg (by rw[hft];decide)
     exact⟨hM',by rw[List.length_append];show _=[ii ((sbI _ _ (pre.length+1):Nat):Int)];rw[a4s hs,hF1];rfl⟩
   ·rintro xs vals X' K' hxs hd _ ⟨hM',rfl⟩
    rw[hxs,b9R]
    simp only[cA,nA]
    exact a0c rfl ⟨by rw[hcmp];rfl,hM'.mono (PH.le_or _ _)⟩
   ·exact fun _ _ _ _ _ _ _ h=>h.elim
  ·replace hlk:=of_decide_eq_false hlk
   exact a0c rfl ⟨by rw[b1G _ _ _ (by omega)];rfl,hM⟩
end
end Go.Proofs.YtlmgkkjgdapnpaaGreatDoor
/- Memory without a block; two slices of the call's own, changed in turn. -/
namespace Go.RX
open Go.RowKit
def PH.cut (H:PH) (g:Nat):PH:=fun k=>if k=g then none else H k
theorem PH.cut_self (H:PH) (g:Nat):H.cut g g=none:=if_pos rfl
theorem PH.cut_ne (H:PH) {g k:Nat} (h:k≠g):H.cut g k=H k:=if_neg h
theorem PH.cut_le (H:PH) (g:Nat):PH.le (H.cut g) H:=fun k o hk=>by
 unfold PH.cut at hk
 split at hk
 ·cases hk
 ·exact hk
theorem PH.le_cut {A H:PH} {g:Nat} (h:PH.le A H) (hg:A g=none):PH.le A (H.cut g):=fun k o hk=>by
 unfold PH.cut
 split
 ·rename_i e;rw[e,hg]at hk;cases hk
 ·exact h k o hk
theorem PH.cut_put (H:PH) (g:Nat) (ob:Obj):PH.le (H.cut g) (H.put g ob):=fun k o hk=>by
 unfold PH.cut at hk
 split at hk
 ·cases hk
 ·rename_i e;rw[PH.put_ne _ _ e];exact hk
section
variable {α β:Type} {A H:PH} {e e':TypeId} {sz sz':Nat} {ce:α->List Value} {v:Value} {l:List α} {g:Nat} {cur:Array Value}
theorem b9Y (h:SO A H e sz ce v l) (hl:l≠[]):∃g,A g=none/\(∃cur,H g=some (.cells cur e (0,0)))/\SO (H.cut g) H e sz ce v l:=by
 obtain⟨h1,⟨_,h2⟩|⟨g,cap,cur,h2,h3,h4,h5⟩⟩:=h
 ·exact absurd (List.eq_nil_of_length_eq_zero h2) hl
 ·exact⟨g,h3,⟨cur,h4⟩,h1,.inr ⟨g,cap,cur,h2,PH.cut_self _ _,h4,h5⟩⟩
theorem a1s (h:SO A H e sz ce v l) (hg:H g=some (.cells cur e' (0,0))) (he:e≠e'):SO A (H.cut g) e sz ce v l:=by
 obtain⟨h1,h2|⟨g',cap,cur',h2,h3,h4,h5⟩⟩:=h
 ·exact⟨h1,.inl h2⟩
 ·refine⟨h1,.inr ⟨g',cap,cur',h2,h3,?_,h5⟩⟩
  rw[PH.cut_ne _ (fun e2=>by subst e2;rw[hg]at h4;injection h4 with h4;injection h4 with _ h4 _;exact he h4.symm)]
  exact h4
theorem a3A (h:SO A H e sz ce v l) (hg:∀cs T fz,H g≠some (.cells cs T fz)):SO A (H.cut g) e sz ce v l:=by
 obtain⟨h1,h2|⟨g',cap,cur',h2,h3,h4,h5⟩⟩:=h
 ·exact⟨h1,.inl h2⟩
 ·refine⟨h1,.inr ⟨g',cap,cur',h2,h3,?_,h5⟩⟩
  rw[PH.cut_ne _ (fun e2=>by subst e2;exact hg _ _ _ h4)]
  exact h4
theorem d1b (h:SE H sz ce v l) (hg:∀cs T fz,H g≠some (.cells cs T fz)):SE (H.cut g) sz ce v l:=by
 obtain⟨h1,a,c,h2,h3,h4,h5|⟨b,o,cs,T,fz,h5,h6,h7⟩⟩:=h
 ·exact⟨h1,a,c,h2,h3,h4,.inl h5⟩
 ·refine⟨h1,a,c,h2,h3,h4,.inr ⟨b,o,cs,T,fz,h5,?_,h7⟩⟩
  rw[PH.cut_ne _ (fun e2=>by subst e2;exact hg _ _ _ h6)]
  exact h6
theorem a2C (h:SO A H e sz ce v l) (hA:PH.le A H):∃X,PH.le A X/\PH.le X H/\SO X H e sz ce v l/\∀k,(∀cs,H k≠some (.cells cs e (0,0)))->X k=H k:=by
 obtain⟨h1,h2|⟨g,cap,cur,h2,h3,h4,h5⟩⟩:=h
 ·exact⟨H,hA,PH.le.refl _,⟨h1,.inl h2⟩,fun _ _=>rfl⟩
 ·exact⟨H.cut g,PH.le_cut hA h3,PH.cut_le _ _,⟨h1,.inr ⟨g,cap,cur,h2,PH.cut_self _ _,h4,h5⟩⟩,fun k hk=>PH.cut_ne _ fun e=>by subst e;exact hk _ h4⟩
theorem a2P {X:PH} (h:SO A H e sz ce v l) (hk:∀k,(∀cs,H k≠some (.cells cs e' (0,0)))->X k=H k) (he:e≠e'):SO A X e sz ce v l:=by
 obtain⟨h1,h2|⟨g,cap,cur,h2,h3,h4,h5⟩⟩:=h
 ·exact⟨h1,.inl h2⟩
 ·refine⟨h1,.inr ⟨g,cap,cur,h2,h3,?_,h5⟩⟩
  rw[hk g (fun cs e2=>by rw[h4]at e2;injection e2 with e2;injection e2 with _ e2 _;exact he e2)]
  exact h4
end
end Go.RX

/- Enumeration: the field of a graph with bounds. -/
import Derived.Test.YtlmgkkjgdapnpaaGreatDoorRxU
import Derived.Test.YtlmgkkjgdapnpaaGreatDoorGaH
namespace Go.GS
open Go.RowKit Go.RX
theorem d4T {P:Program} {ρ:List Value} {a b:SV} {A B:Nat} (ha:D P ρ a=ii (A:Nat)) (hb:D P ρ b=ii (B:Nat)) (hA:A<9223372036854775808) (hB:B<9223372036854775808):D P ρ (.op2 .and .i64 a b)=ii ((A&&&B:Nat):Int):=by
 show a2U .and .i64 (intOf (D P ρ a)) (intOf (D P ρ b))=_
 rw[ha,hb]
 show Value.int .i64 (IntKind.i64.wrap ((BitVec.ofInt 64 (A:Int)&&&BitVec.ofInt 64 (B:Int)).toNat:Int))=Value.int .i64 _
 have hm:∀{x:Nat},x<9223372036854775808->x<M64:=fun h=>Nat.lt_trans h (by decide)
 rw[BitVec.toNat_and,b1C (hm hA),b1C (hm hB)]
 have:A&&&B<=A:=Nat.and_le_left
 congr 1
 rw[IntKind.wrap_i64];omega
theorem b1R {P:Program} {ρ:List Value} {b:SV} {n:Nat} (hb:D P ρ b=ii (n:Nat)) (hn:n<=6):D P ρ (.op2 .shl .i64 (.k (.int .i64 1)) b)=ii ((2^n:Nat):Int):=by
 show a2U .shl .i64 (intOf (D P ρ (.k (.int .i64 1)))) (intOf (D P ρ b))=_
 rw[hb]
 match n,hn with
 |0,_=>rfl
 |1,_=>rfl
 |2,_=>rfl
 |3,_=>rfl
 |4,_=>rfl
 |5,_=>rfl
 |6,_=>rfl
theorem c0k {es:List (Nat×Nat)} {n set x c:Nat} (h:∀e∈es,e.1<e.2/\e.2<n) (hc:c<M64) (hx:bit c x=true) (hr:∀y,bit c y=true->Rch es set x y) (hk:∀y,bit c y=true->∀z,bit (nb es y) z=true->bit set z=true->bit c z=true):CL es set x c:=
 ⟨hc,fun y=>⟨hr y,fun hy=>by
  induction hy with
  |base=>exact hx
  |step _ ha hs ih=>exact hk _ ih _ ((b4G h).2 ha) hs⟩⟩
theorem c5U {es:List (Nat×Nat)} {set x c:Nat} (h:CL es set x c) (hx:bit set x=true):c=set↔Cn es set:=by
 constructor
 ·intro e
  exact⟨x,hx,fun y hy=>(h.2 y).1 (by rw[e];exact hy)⟩
 ·intro hC
  refine a3Y fun y=> ?_
  rw[Bool.eq_iff_iff]
  exact⟨fun hy=>((h.2 y).1 hy).mem hx,fun hy=>(h.2 y).2 (hC.all hx hy)⟩
structure RI (es:List (Nat×Nat)) (S x R F:Nat):Prop where
 hr:R<M64
 hf:F<M64
 hx:bit R x=true
 rch:∀y,bit R y=true->Rch es S x y
 sub:∀y,bit F y=true->bit R y=true
 cl:∀y,bit R y=true->bit F y=false->∀z,bit (nb es y) z=true->bit S z=true->bit R z=true
theorem RI.start {es:List (Nat×Nat)} {S x:Nat} (hx:x<64):RI es S x (2^x) (2^x):=
 ⟨a2z hx,a2z hx,by rw[a2i];simp,fun y hy=>by rw[a2i]at hy;simp at hy;subst hy;exact .base,fun _ h=>h,fun y h1 h2=>by rw[h1]at h2;cases h2⟩
theorem b0q {F i:Nat} {r:List Nat} (hF:F<M64) (h:els F=i::r) (y:Nat):bit (F&&&(F-1)) y=(bit F y&&decide (y≠i)):=by
 obtain⟨h1,_,h3⟩:=a1Y h
 rw[a2y,a5r h1 h3]
 by_cases hy:y<i
 ·rw[if_pos hy,h3 y hy];rfl
 ·by_cases e:y=i
  ·subst e;rw[if_neg hy,if_pos rfl];simp
  ·rw[if_neg hy,if_neg e];simp[e]
theorem RI.next {es:List (Nat×Nat)} {n S x R F i:Nat} {r:List Nat} (hg:∀e∈es,e.1<e.2/\e.2<n) (hS:S<M64) (h:RI es S x R F) (he:els F=i::r):
  RI es S x (R|||sdf (nb es i&&&S) R) ((F&&&(F-1))|||sdf (nb es i&&&S) R):=by
 have hm:sdf (nb es i&&&S) R<M64:=a7N (a5W hS)
 have hi:=(a1Y he).1
 have hmb:∀y,bit (sdf (nb es i&&&S) R) y=true↔(bit (nb es i) y=true/\bit S y=true)/\bit R y=false:=fun y=>by
  rw[a3y,a2y,Bool.and_eq_true,Bool.and_eq_true,Bool.not_eq_true']
 refine⟨b9h h.hr hm,b9h (a7O h.hf) hm,by rw[a2d,h.hx];rfl,fun y hy=> ?_,fun y hy=> ?_,fun y hy hn z hz hs=> ?_⟩
 ·rw[a2d,Bool.or_eq_true]at hy
  rcases hy with hy|hy
  ·exact h.rch y hy
  ·obtain⟨⟨h1,h2⟩,_⟩:=(hmb y).1 hy
   exact .step (h.rch i (h.sub i hi)) ((b4G hg).1 h1) h2
 ·rw[a2d,Bool.or_eq_true]at hy⊢
  rcases hy with hy|hy
  ·rw[b0q h.hf he,Bool.and_eq_true]at hy
   exact .inl (h.sub y hy.1)
  ·exact .inr hy
 ·rw[a2d,Bool.or_eq_false_iff,b0q h.hf he]at hn
  rw[a2d,hn.2,Bool.or_false]at hy
  rw[a2d,Bool.or_eq_true]
  by_cases e:y=i
  ·subst e
   cases hR:bit R z with
   |true=>exact .inl rfl
   |false=>exact .inr ((hmb z).2 ⟨⟨hz,hs⟩,hR⟩)
  ·refine .inl (h.cl y hy ?_ z hz hs)
   have:=hn.1
   cases hf:bit F y with
   |false=>rfl
   |true=>rw[hf]at this;simp[e]at this
theorem RI.less {es:List (Nat×Nat)} {S x R F i:Nat} {r:List Nat} (h:RI es S x R F) (hS:S<M64) (he:els F=i::r):
  (64-card (R|||sdf (nb es i&&&S) R))*65+card ((F&&&(F-1))|||sdf (nb es i&&&S) R)<(64-card R)*65+card F:=by
 have hi:=a1Y he
 have hm:sdf (nb es i&&&S) R<M64:=a7N (a5W hS)
 by_cases e:sdf (nb es i&&&S) R=0
 ·rw[e,Nat.or_zero,Nat.or_zero]
  have:card (F&&&(F-1))<card F:=b0g (fun y hy=>by rw[a2y,Bool.and_eq_true]at hy;exact hy.1) hi.1 (by rw[b0q h.hf he];simp) hi.2.1
  omega
 ·obtain⟨z,hz⟩:∃z,bit (sdf (nb es i&&&S) R) z=true:=Classical.byContradiction fun hh=>e (a3Y fun y=>by
   rw[a1N]
   cases hb:bit (sdf (nb es i&&&S) R) y with
   |false=>rfl
   |true=>exact absurd ⟨y,hb⟩ hh)
  have h1:card R<card (R|||sdf (nb es i&&&S) R):=b0g (fun y hy=>by rw[a2d,hy];rfl) (b:=R|||sdf (nb es i&&&S) R) (x:=z) (by rw[a2d,hz,Bool.or_true]) (by rw[a3y,Bool.and_eq_true,Bool.not_eq_true']at hz;exact hz.2) (b9f hm hz)
  have h2:=a3g (R|||sdf (nb es i&&&S) R)
  have h3:=a3g ((F&&&(F-1))|||sdf (nb es i&&&S) R)
  omega
theorem RI.done {es:List (Nat×Nat)} {n S x R:Nat} (hg:∀e∈es,e.1<e.2/\e.2<n) (hx:bit S x=true) (h:RI es S x R 0):R=S↔Cn es S:=
 c5U (c0k hg h.hr h.hx h.rch fun y hy=>h.cl y hy (a1N y)) hx
theorem b1S {β:Type} (f:Nat->β) {m i:Nat} (a:β):((List.range m).map f).set i a=(List.range m).map fun t=>if t=i then a else f t:=by
 apply List.ext_getElem?
 intro j
 rw[List.getElem?_set,List.getElem?_map,List.getElem?_map,List.length_map,List.length_range]
 by_cases e:i=j
 ·subst e
  by_cases hi:i<m
  ·rw[if_pos rfl,if_pos hi,List.getElem?_range hi];simp
  ·rw[if_pos rfl,if_neg hi,List.getElem?_eq_none (by simpa using hi)];rfl
 ·rw[if_neg e]
  by_cases hj:j<m
  ·rw[List.getElem?_range hj];simp[show ¬j=i from fun h=>e h.symm]
  ·rw[List.getElem?_eq_none (by simpa using hj)];rfl
def a5Y (wl:List Int) (n S:Nat):List Int:=(List.range (2^n)).map fun t=>if t<S then a6E wl t else 0
noncomputable def a6F (es:List (Nat×Nat)) (wl:List Int) (lo hi:Int) (n S:Nat):List Bool:=(List.range (2^n)).map fun t=>decide (t<S)&&alB es wl lo hi t
theorem c0l (wl:List Int):a6E wl 0=0:=by unfold a6E;rw[a6L];rfl
theorem c5V (es:List (Nat×Nat)) (wl:List Int) (lo hi:Int):alB es wl lo hi 0=false:=by
 unfold alB
 have:cnB es 0=false:=by
  cases h:cnB es 0 with
  |false=>rfl
  |true=>
   obtain⟨x,hx,_⟩:=cnB_iff.1 h
   rw[a1N]at hx;cases hx
 rw[this];rfl
theorem c0m {β:Type} (f:Nat->β) (z:β) (m:Nat) (h:∀t,t<m->f t=z):(List.range m).map f=List.replicate m z:=by
 apply List.ext_getElem?
 intro j
 rw[List.getElem?_map,List.getElem?_replicate]
 by_cases hj:j<m
 ·rw[List.getElem?_range hj,if_pos hj];show some (f j)=_;rw[h j hj]
 ·rw[List.getElem?_eq_none (by simpa using hj),if_neg hj];rfl
theorem c0n (wl:List Int) (n:Nat):a5Y wl n 1=List.replicate (2^n) 0:=c0m _ _ _ fun t _=>by
 split
 ·rename_i h;rw[show t=0 from by omega,c0l]
 ·rfl
theorem c0o (es:List (Nat×Nat)) (wl:List Int) (lo hi:Int) (n:Nat):a6F es wl lo hi n 1=List.replicate (2^n) false:=c0m _ _ _ fun t _=>by
 by_cases h:t<1
 ·rw[show t=0 from by omega,c5V];rfl
 ·rw[decide_eq_false h];rfl
theorem b6z (wl:List Int) (n S:Nat):(a5Y wl n S).set S (a6E wl S)=a5Y wl n (S+1):=by
 unfold a5Y
 rw[b1S]
 refine List.map_congr_left fun t _=> ?_
 by_cases e:t=S
 ·subst e;rw[if_pos rfl,if_pos (by omega)]
 ·rw[if_neg e]
  by_cases h:t<S
  ·rw[if_pos h,if_pos (by omega)]
  ·rw[if_neg h,if_neg (by omega)]
theorem b6A (es:List (Nat×Nat)) (wl:List Int) (lo hi:Int) (n S:Nat):(a6F es wl lo hi n S).set S (alB es wl lo hi S)=a6F es wl lo hi n (S+1):=by
 unfold a6F
 rw[b1S]
 refine List.map_congr_left fun t _=> ?_
 by_cases e:t=S
 ·subst e;rw[if_pos rfl,decide_eq_true (by omega)];rfl
 ·rw[if_neg e]
  by_cases h:t<S
  ·rw[decide_eq_true h,decide_eq_true (by omega)]
  ·rw[decide_eq_false h,decide_eq_false (by omega)]
theorem b4R {es:List (Nat×Nat)} {wl:List Int} {lo hi:Int} {n S:Nat} (h:alB es wl lo hi S=false):a6F es wl lo hi n (S+1)=a6F es wl lo hi n S:=by
 refine List.map_congr_left fun t _=> ?_
 by_cases e:t=S
 ·subst e;rw[h,Bool.and_false,Bool.and_false]
 ·by_cases h:t<S
  ·rw[decide_eq_true h,decide_eq_true (by omega)]
  ·rw[decide_eq_false h,decide_eq_false (by omega)]
theorem c0p (es:List (Nat×Nat)) (wl:List Int) (lo hi:Int) (n:Nat):a6F es wl lo hi n (2^n)=(List.range (2^n)).map (alB es wl lo hi):=
 List.map_congr_left fun t ht=>by rw[decide_eq_true (List.mem_range.1 ht)];rfl
theorem c0q {wl:List Int} {S x:Nat} {r:List Nat} (hS:S<M64) (h:els S=x::r):a6E wl S=a6E wl (S&&&(S-1))+wl.getD x 0:=by
 unfold a6E
 rw[b0f hS h,h,List.map_cons,List.sum_cons,Int.add_comm]
end Go.GS
namespace Go.Proofs.YtlmgkkjgdapnpaaGreatDoor
open Go.Proofs.Tryz
open Go.RowKit Go.RX Go.GS
set_option maxRecDepth 100000
section
variable {H:PH} {u v w wts:Value} {wl:List Int} {n:Nat} {es:List (Nat×Nat)} {lo hi ds:Int}
theorem c0r:a1q prog 116=true:=by kernel_rfl
theorem c0s (x:Int):Asks prog 116 [ii x] H (.bool (decide (x<0)||decide (x>1000000000))):=by
 refine a0b mixed c5s (by kernel_rfl) rfl ?_
 refine a0a ⟨_,rfl⟩ ?_
 refine a0f (b:=decide (x<0)) rfl (fun h=> ?_) (fun h=> ?_)
 ·replace h:=of_decide_eq_true h
  exact a0c rfl ⟨rfl,by rw[decide_eq_true h];rfl⟩
 ·replace h:=of_decide_eq_false h
  exact a0c rfl ⟨rfl,by rw[decide_eq_false h];rfl⟩
structure d4U (n:Nat) (wl:List Int) (lo hi ds:Int):Prop where
 len:wl.length=n
 b0:0<=lo
 b1:lo<=hi
 d1:1<=ds
 d8:ds<=8
 ok:c8c wl
theorem a8e (hw:SG H w es) (hg:GV n es) (hn:n<=12) (hwt:SI H wts wl) (hb:d4U n wl lo hi ds):a1g prog 66 [gv n w,bv wts lo hi ds] H (ii 0):=by
 refine a0b mixed d0F (by kernel_rfl) rfl ?_
 have e1:=hb.len
 have e2:=hb.b0
 have e3:=hb.b1
 have e4:=hb.d1
 have e5:=hb.d8
 refine a0a (a2e hw) ?_
 refine a0a (a9h (a0I hwt) _ _ _) ?_
 refine a0h (a2f hw hg) rfl fun H1 l1=> ?_
 simp only[cA,nA]
 refine a0a ⟨_,rfl⟩ ?_
 refine a0e (bF (p:=(0:Int)≠0) (by simp)) ?_
 refine a0a ⟨_,rfl⟩ ?_
 refine a0e (bF (p:=((n:Nat):Int)>12) (by omega)) ?_
 refine a0j el_int rfl rfl (hwt.mono l1) rfl ?_
 refine a0a ⟨_,rfl⟩ ?_
 refine a0e (by show Value.bool (((wl.length:Nat):Int) !=((n:Nat):Int))=_;rw[bN,e1];simp) ?_
 refine a0h (a7V (caps:=[]) (q:=fun x=>decide (x<0)||decide (x>1000000000)) (hwt.mono l1) c0r (fun H' x _ _=>(c0s x).give)) rfl fun H2 l2=> ?_
 simp only[cA,nA]
 have hany:(wl.any fun x=>decide (x<0)||decide (x>1000000000))=false:=by
  rw[List.any_eq_false]
  intro x hx
  have:=hb.ok x hx
  simp;omega
 rw[hany]
 refine a0a ⟨_,rfl⟩ ?_
 refine a0e rfl ?_
 refine a0a ⟨_,rfl⟩ ?_
 refine a0e (bF (p:=ds<1) (by omega)) ?_
 refine a0e (bF (p:=ds>8) (by omega)) ?_
 refine a0a ⟨_,rfl⟩ ?_
 refine a0e (bF (p:=lo<0) (by omega)) ?_
 refine a0a ⟨_,rfl⟩ ?_
 refine a0e (bF (p:=hi<lo) (by omega)) ?_
 exact a0c rfl ⟨l1.trans l2,rfl⟩
theorem d1i (hT:Tb H) {s:Nat} (hs:s<M64):Con prog 79 [.int .u64 (s:Nat)] H fun u H'=>H'=H/\u=ii (tz s):=by
 refine a0b mixed d4K (by kernel_rfl) rfl ?_
 refine a0d (b4D hT hs) rfl ?_
 rintro _ _ ⟨rfl,rfl⟩
 refine⟨fun _=>PH.le.refl _,?_⟩
 simp only[cA,nA]
 exact a0c rfl ⟨rfl,rfl⟩
theorem d6W:a0G prog 168= .slice none 0 0:=by kernel_rfl
theorem d6X:a0G prog 169= .nilFunc:=by kernel_rfl
theorem d6Y:a0G prog 93= .pointer none:=by kernel_rfl
theorem d6Z:a0G prog 175= .map none:=by kernel_rfl
theorem d7a:a0G prog 176= .nilFunc:=by kernel_rfl
theorem d7b {ρ:List Value} {a b:SV} {v:Value} (ha:D prog ρ a=ii (n:Nat)) (hb:D prog ρ b=v) (hv:v.cells= #[v]):(D prog ρ (.put (.cat a 1 (.cat (.z 168) 1 (.z 169))) 1 1 b 0 noI)).cells= #[ii (n:Nat),v,.nilFunc]:=by
 show spl ((D prog ρ a).cells++((a0G prog 168).cells++(a0G prog 169).cells)) 1 (D prog ρ b).cells.toList=_
 rw[ha,hb,hv,d6W,d6X]
 rfl
theorem c5W (hT:Tb H) (hw:SG H w es) (hg:GV n es) (hn:n<=6) (hwt:SI H wts wl) (hb:d4U n wl lo hi ds):Con prog 28 [gv n w,bv wts lo hi ds] H fun r H'=>∃B q pm pF pd m,r= .tuple #[pt q,ii 0]/\PH.le H B/\Fld B n (alB es wl lo hi) q pm pF pd m/\Mem B H' (alB es wl lo hi) m:=by
 refine a0b mixed d0H (by kernel_rfl) rfl ?_
 have e1:=hb.len
 have hgl:=hg.len
 have hp6:2^n<=64:=Nat.pow_le_pow_right (n:=2) (by decide) hn
 have hlt:∀(es':List (Nat×Nat)) (x:Nat),(∀e∈es',e∈es)->nb es' x<M64:=fun es' x h=>d0s (fun e he=>hg.ed e (h e he)) hg.n64 x
 refine a0a (a2e hw) ?_
 refine a0a (a9h (a0I hwt) _ _ _) ?_
 refine a0h (a8e hw hg (by omega) hwt hb) rfl fun H1 l1=> ?_
 simp only[cA,nA]
 refine a0a ⟨_,rfl⟩ ?_
 refine a0e (bF (p:=(0:Int)≠0) (by simp)) ?_
 refine a0a ⟨_,_,rfl⟩ ?_
 refine a0a (show(0:Int)<=((n:Nat):Int) by omega) ?_
 refine a2x a2B (z:=false) b8C rfl rfl rfl (show 2^n<=68719476736 by omega) (a0R (b1R rfl hn) (b1R rfl hn)) fun v3 H2 l2 o2 _=> ?_
 simp only[cA,nA]
 refine a0a (el_int.vcells ((n:Nat):Int)) ?_
 refine a0a o2.se.one ?_
 refine a0A (cs:= #[ii (n:Nat),v3,.nilFunc]) (d7b rfl rfl o2.se.cells) fun q hq=> ?_
 simp only[cA,nA]
 refine a0A (cs:= #[.pointer none]) (by rw[show D prog _ (.z 93)=a0G prog 93 from rfl,d6Y];rfl) fun pF hpF=> ?_
 simp only[cA,nA]
 refine a1f (u:=pt q) a8d rfl rfl rfl (PH.put_self _ _ _) (by simp) rfl rfl rfl (fun h=>(nomatch h)) ?_
 simp only[cA,nA]
 rw[PH.put_put]
 have hqF:pF≠q:=fun e=>by subst e;rw[PH.put_self]at hpF;cases hpF
 generalize hH5:(H2.put q (.cells #[ii (n:Nat),v3,.nilFunc] 171 (0,0))).put pF (.cells (#[.pointer none].setIfInBounds 0 (pt q)) 93 (0,0))=H5
 have l25:PH.le H2 H5:=by subst hH5;exact(PH.le_put hq _).trans (PH.le_put hpF _)
 have h5q:H5 q=some (.cells #[ii (n:Nat),v3,.nilFunc] 171 (0,0)):=by subst hH5;rw[PH.put_ne _ _ (fun e=>hqF e.symm)];exact PH.put_self _ _ _
 have h5F:H5 pF=some (.cells #[pt q] 93 (0,0)):=by subst hH5;exact PH.put_self _ _ _
 refine a2x el_u64 (z:=(0:Nat)) d0t rfl rfl rfl (show n<=68719476736 by omega) rfl fun v7 H6 l6 o6 _=> ?_
 simp only[cA,nA]
 rw[<-b9n]at o6
 have l06:=(l1.trans (l2.trans l25)).trans l6
 refine a0j el_edge rfl rfl (hw.mono l06) rfl ?_
 refine a0o (α:=Nat) (fun i=>[ii (i:Nat)]) (fun i=>fun H'=>i<=es.length/\PH.le H5 H'/\SO H5 H' 57 1 (fun s:Nat=>[GS.uv s]) v7 (nbs n (es.take i))) (fun i=>es.length-i) (0) rfl (⟨Nat.zero_le _,l6,o6⟩) fun i H' hQ=> ?_
 simp only[cA,nA]
 obtain⟨hie,l7,o7⟩:=hQ
 refine a0a ⟨_,rfl⟩ ?_
 refine a0a ⟨_,rfl⟩ ?_
 refine a0f (b:=decide (((i:Nat):Int)<(es.length:Nat))) rfl (fun h=> ?_) (fun h=> ?_)
 ·replace h:=of_decide_eq_true h
  have hi':i<es.length:=by omega
  obtain⟨x,hx,hdx⟩:=a0t hi'
  obtain⟨hx1,hx2⟩:=hg.mem hx
  have l05:=l1.trans (l2.trans l25)
  have htk:∀y,nb (es.take i) y<M64:=fun y=>hlt _ y fun e he=>List.mem_of_mem_take he
  refine a0m el_edge rfl rfl rfl rfl (fun _=>rfl) (hw.mono (l05.trans l7)) hx rfl (fun _=>rfl) fun _=> ?_
  simp only[cA,nA]
  refine a0a (el_edge.vcells x) ?_
  refine a0m el_u64 rfl rfl rfl rfl (fun _=>rfl) o7.se (a6u _ (show x.1<n by omega)) rfl (fun _=>rfl) fun _=> ?_
  simp only[cA,nA]
  refine a0a ⟨_,_,rfl⟩ ?_
  refine a0a (by show(0:Int)<=((x.2:Nat):Int);omega) ?_
  refine a0a ⟨_,rfl⟩ ?_
  refine a1M el_u64 (a:=nb (es.take i) x.1|||2^x.2) rfl rfl rfl rfl (fun _=>rfl) (fun _=>rfl) l7 o7 (by rw[a4a];omega) rfl (fun _=>a0R rfl (b6Y rfl (a6C rfl (by omega)) (htk _) (a2z (by omega)))) rfl fun p u H8 l8 o8 _=> ?_
  simp only[cA,nA]
  refine a0m el_u64 rfl rfl rfl rfl (fun _=>rfl) o8.se (show _=some (nb (es.take i) x.2) by rw[List.getElem?_set_ne (by omega),a6u _ (by omega)]) rfl (fun _=>rfl) fun _=> ?_
  simp only[cA,nA]
  refine a0a ⟨_,_,rfl⟩ ?_
  refine a0a (by show(0:Int)<=((x.1:Nat):Int);omega) ?_
  refine a0a ⟨_,rfl⟩ ?_
  refine a1M el_u64 (a:=nb (es.take i) x.2|||2^x.1) rfl rfl rfl rfl (fun _=>rfl) (fun _=>rfl) l8 o8 (by rw[List.length_set,a4a];omega) rfl (fun _=>a0R rfl (b6Y rfl (a6C rfl (by omega)) (htk _) (a2z (by omega)))) rfl fun p2 u2 H9 l9 o9 _=> ?_
  simp only[cA,nA]
  rw[b4F n _ x hx1,<-take_snoc hx]at o9
  exact⟨i+1,by omega,(a1R (a0J rfl (by omega))),⟨by omega,l9,o9⟩⟩
 ·replace h:=of_decide_eq_false h
  rw[List.take_of_length_le (by omega)]at o7
  have o3:=(o2.mono l25).mono l7
  have hne3:List.replicate (2^n) false≠[]:=fun e=>by
   have:=congrArg List.length e
   rw[List.length_replicate]at this
   have h0:=Nat.two_pow_pos n
   change 2^n=0 at this
   omega
  obtain⟨g3,hg3,⟨cur3,hc3⟩,oc3⟩:=b9Y o3 hne3
  refine a2x el_int (z:=(0:Int)) d6Q rfl rfl rfl (show 2^n<=68719476736 by omega) (a0R (b1R rfl hn) (b1R rfl hn)) fun v10 H10 l10 o10 _=> ?_
  simp only[cA,nA]
  have hAH:PH.le (H'.cut g3) H10:=(PH.cut_le _ _).trans l10
  have hHA:PH.le H1 (H'.cut g3):=PH.le_cut ((l2.trans l25).trans l7) hg3
  have oi3:SO (H'.cut g3) H10 4 1 (fun b:Bool=>[.bool b]) v3 (a6F es wl lo hi n 1):=by rw[c0o];exact oc3.mono l10
  have oi10:SO (H'.cut g3) H10 3 1 (fun z:Int=>[ii z]) v10 (a5Y wl n 1):=by rw[c0n];exact o10.less (PH.cut_le _ _)
  have sA7:SE (H'.cut g3) 1 (fun s:Nat=>[GS.uv s]) v7 (nbs n es):=(a1s o7 hc3 (by decide)).se
  have hq3:q≠g3:=fun e=>by
   have h:=l7 _ _ h5q
   rw[e,hc3]at h
   injection h with h
   injection h with _ h _
   exact absurd h (by decide)
  have hF3:pF≠g3:=fun e=>by
   have h:=l7 _ _ h5F
   rw[e,hc3]at h
   injection h with h
   injection h with _ h _
   exact absurd h (by decide)
  have hAq:(H'.cut g3) q=some (.cells #[ii (n:Nat),v3,.nilFunc] 171 (0,0)):=by rw[PH.cut_ne _ hq3];exact l7 _ _ h5q
  have hAF:(H'.cut g3) pF=some (.cells #[pt q] 93 (0,0)):=by rw[PH.cut_ne _ hF3];exact l7 _ _ h5F
  generalize hA:H'.cut g3=A at hAH hHA oi3 oi10 sA7 hAq hAF
  have hTA:=(hT.mono l1).mono hHA
  have hwA:=(hwt.mono l1).mono hHA
  refine a0o (α:=Nat) (fun S=>[ii (S:Nat)]) (fun S=>fun H'=>1<=S/\S<=2^n/\PH.le A H'/\SO A H' 4 1 (fun b:Bool=>[.bool b]) v3 (a6F es wl lo hi n S)/\SO A H' 3 1 (fun z:Int=>[ii z]) v10 (a5Y wl n S)) (fun S=>2^n-S) (1) rfl (⟨Nat.le_refl _,Nat.two_pow_pos n,hAH,oi3,oi10⟩) fun S H11 ⟨hS1,hSn,lA,p3,p10⟩=> ?_
  simp only[cA,nA]
  refine a0a ⟨_,rfl⟩ ?_
  refine a0f (b:=decide (((S:Nat):Int)<((2^n:Nat):Int))) (by show Value.bool (decide (intOf (ii (S:Nat))<intOf (D prog _ (.op2 .shl .i64 (.k (.int .i64 1)) (.cell (.v 0) 0 0 noI)))))=_;rw[b1R (n:=n) rfl hn];rfl) (fun hlS=> ?_) (fun hlS=> ?_)
  ·replace hlS:=of_decide_eq_true hlS
   have hS:S<2^n:=by omega
   have hSM:S<M64:=Nat.lt_of_lt_of_le hS (Nat.le_trans hp6 (by decide))
   obtain⟨x,r,hel⟩:∃x r,els S=x::r:=by
    cases hel:els S with
    |nil=>exact absurd (a4U hSM hel) (by omega)
    |cons x r=>exact⟨x,r,rfl⟩
   have htz:tz S=x:=by simp[tz,hel]
   obtain⟨hx,hx64,hxl⟩:=a1Y hel
   have hxn:x<n:=b6u hS hx
   refine a0d (d1i (hTA.mono lA) hSM) (a1R (b3A rfl hSM)) ?_
   rintro _ _ ⟨rfl,rfl⟩
   refine⟨fun h=>(nomatch h),?_⟩
   simp only[cA,nA]
   rw[htz]
   have hprd:S&&&(S-1)<=S-1:=Nat.and_le_right
   have hlen10:(a5Y wl n S).length=2^n:=by unfold a5Y;simp
   have hlen3:(a6F es wl lo hi n S).length=2^n:=by unfold a6F;simp
   have hat1:(a5Y wl n S)[S&&&(S-1)]? =some (a6E wl (S&&&(S-1))):=by
    unfold a5Y
    rw[List.getElem?_map,List.getElem?_range (by omega)]
    show some (if _ then _ else _)=_
    rw[if_pos (by omega)]
   refine a0m el_int rfl rfl rfl rfl (fun _=>rfl) p10.se hat1 (a0R rfl (d4T rfl (a7R (x:=((S:Nat):Int)) (y:=1) rfl rfl (by omega) (by omega)|>.trans (by show ii _=ii _;congr 1;omega)) (by omega) (show S-1<9223372036854775808 by omega))) (fun _=>rfl) fun _=> ?_
   simp only[cA,nA]
   have hxw:wl[x]? =some (wl.getD x 0):=by rw[List.getD_eq_getElem?_getD,List.getElem?_eq_getElem (by omega)];rfl
   refine a0m el_int rfl rfl rfl rfl (fun _=>rfl) (hwA.mono lA) hxw rfl (fun _=>rfl) fun _=> ?_
   simp only[cA,nA]
   have hcons:=c0q (wl:=wl) hSM hel
   have hsb:∀t,t<2^n->0<=a6E wl t/\a6E wl t<=64000000000:=fun t ht=>by
    have htM:t<M64:=Nat.lt_of_lt_of_le ht (Nat.le_trans hp6 (by decide))
    have hbd:=b1Q ((els t).map fun x=>wl.getD x 0) (fun z hz=>by
     obtain⟨a,ha,rfl⟩:=List.mem_map.1 hz
     have ha':=b6u ht ((a2Y htM).1 ha)
     rw[List.getD_eq_getElem?_getD,List.getElem?_eq_getElem (by omega)]
     exact hb.ok _ (List.getElem_mem _))
    have h64:=a3g t
    unfold card at h64
    rw[List.length_map]at hbd
    unfold a6E
    omega
   have hb1:=hsb _ hS
   have hb2:=hsb (S&&&(S-1)) (by omega)
   have hn10:a5Y wl n S≠[]:=fun e=>by rw[e]at hlen10;simp at hlen10;omega
   have hn3:a6F es wl lo hi n S≠[]:=fun e=>by rw[e]at hlen3;simp at hlen3;omega
   obtain⟨g10,hA10,⟨cur10,hc10⟩,oc10⟩:=b9Y p10 hn10
   refine a0a ⟨_,rfl⟩ ?_
   refine a0a ⟨_,rfl⟩ ?_
   refine a1M el_int (a:=a6E wl S) rfl rfl rfl rfl (fun _=>rfl) (fun _=>rfl) (PH.cut_le _ _) oc10 (by omega) rfl (fun _=>a0R rfl (by rw[hcons];exact a3I rfl rfl (by omega) (by omega))) rfl fun p u H12 l12 o12 _=> ?_
   simp only[cA,nA]
   rw[b6z]at o12
   have lA12:PH.le A H12:=(PH.le_cut lA hA10).trans l12
   have p10:=o12.less (PH.le_cut lA hA10)
   have p3:=(a1s p3 hc10 (by decide)).mono l12
   have hat2:(a5Y wl n (S+1))[S]? =some (a6E wl S):=by
    unfold a5Y
    rw[List.getElem?_map,List.getElem?_range hS]
    show some (if _ then _ else _)=_
    rw[if_pos (by omega)]
   refine a0m el_int rfl rfl rfl rfl (fun _=>rfl) p10.se hat2 rfl (fun _=>rfl) fun _=> ?_
   simp only[cA,nA]
   refine a0a ⟨_,rfl⟩ ?_
   refine a0a ⟨_,rfl⟩ ?_
   refine a0f (b:=decide (a6E wl S<lo)) rfl (fun hlo=> ?_) (fun hlo=> ?_)
   ·replace hlo:=of_decide_eq_true hlo
    have hno:alB es wl lo hi S=false:=by unfold alB;rw[decide_eq_false (show ¬a6E wl S≥lo by omega)];simp
    exact⟨S+1,by omega,(a1R (a0J rfl (by omega))),⟨by omega,by omega,lA12,by rw[b4R hno];exact p3,p10⟩⟩
   ·replace hlo:=of_decide_eq_false hlo
    refine a0m el_int rfl rfl rfl rfl (fun _=>rfl) p10.se hat2 rfl (fun _=>rfl) fun _=> ?_
    simp only[cA,nA]
    refine a0a ⟨_,rfl⟩ ?_
    refine a0a ⟨_,rfl⟩ ?_
    refine a0f (b:=decide (a6E wl S>hi)) rfl (fun hhi=> ?_) (fun hhi=> ?_)
    ·replace hhi:=of_decide_eq_true hhi
     have hno:alB es wl lo hi S=false:=by unfold alB;rw[decide_eq_false (show ¬a6E wl S<=hi by omega)];simp
     exact⟨S+1,by omega,(a1R (a0J rfl (by omega))),⟨by omega,by omega,lA12,by rw[b4R hno];exact p3,p10⟩⟩
    ·replace hhi:=of_decide_eq_false hhi
     refine a0a ⟨_,_,rfl⟩ ?_
     refine a0a (show(0:Int)<=((x:Nat):Int) by omega) ?_
     refine a0W (α:=Nat×Nat) (fun⟨R,F⟩=>[GS.uv R,GS.uv F]) (fun⟨R,F⟩=>RI es S x R F) (fun⟨R,F⟩=>(64-card R)*65+card F) ((2^x,2^x)) (a0R (a6C rfl hx64) (a6C rfl hx64)) (RI.start hx64) fun⟨R,F⟩ hQ=> ?_
     simp only[cA,nA]
     have hR:=hQ.hr
     have hF:=hQ.hf
     refine a0a ⟨_,rfl⟩ ?_
     refine a0f (b:=decide (F≠0)) (bN0 F) (fun hF0=> ?_) (fun hF0=> ?_)
     ·replace hF0:=of_decide_eq_true hF0
      obtain⟨i,r',hel'⟩:∃x r,els F=x::r:=by
       cases hel:els F with
       |nil=>exact absurd (a4U hF hel) hF0
       |cons x r=>exact⟨x,r,rfl⟩
      obtain⟨hi1,hi64,hil⟩:=a1Y hel'
      have htz':tz F=i:=by simp[tz,hel']
      have hin:i<n:=b6u hS ((hQ.rch _ (hQ.sub _ hi1)).mem hx)
      refine a0q (b4D (hTA.mono lA12) hF) rfl ?_
      simp only[cA,nA]
      rw[htz']
      refine a0m el_u64 rfl rfl rfl rfl (fun _=>rfl) (sA7.mono lA12) (a6u es hin) rfl (fun _=>rfl) fun _=> ?_
      simp only[cA,nA]
      have hnb:nb es i<M64:=hlt es i fun _ h=>h
      have hm:sdf (nb es i&&&S) R<M64:=a7N (a5W hSM)
      refine a0a ⟨_,rfl⟩ ?_
      refine a0a ⟨_,rfl⟩ ?_
      exact⟨(R|||sdf (nb es i&&&S) R,(F&&&(F-1))|||sdf (nb es i&&&S) R),hQ.less hSM hel',(a0R (b6Y rfl (a7Q (a8B rfl (b3A rfl hSM) hnb hSM) rfl (a5W hSM) hR) hR hm) (b6Y (a8B rfl (a9e (B:=1) rfl rfl hF (by omega)) hF (Nat.lt_of_le_of_lt (Nat.sub_le _ _) hF)) (a7Q (a8B rfl (b3A rfl hSM) hnb hSM) rfl (a5W hSM) hR) (a7O hF) hm)),⟨hQ.next hg.ed hSM hel',rfl⟩⟩
     ·replace hF0:=of_decide_eq_false hF0
      obtain rfl:F=0:=by omega
      have hdn:=hQ.done hg.ed hx
      refine a0g a8d rfl rfl (lA12 _ _ hAF) rfl rfl ?_
      simp only[cA,nA]
      refine a0u (ad:=⟨q,0,none⟩) rfl rfl rfl ?_
      simp only[cA,nA]
      refine a0i d1a rfl rfl rfl ?_
      simp only[cA,nA]
      refine a0g b9U rfl rfl (lA12 _ _ hAq) rfl rfl ?_
      simp only[cA,nA]
      obtain⟨gb,hAb,⟨curb,hcb⟩,ocb⟩:=b9Y p3 hn3
      have hal:alB es wl lo hi S=decide (R=S):=by
       unfold alB
       rw[decide_eq_true (show a6E wl S≥lo by omega),decide_eq_true (show a6E wl S<=hi by omega),Bool.and_true,Bool.and_true,Bool.eq_iff_iff,cnB_iff,decide_eq_true_iff]
       exact hdn.symm
      refine a0a ⟨_,rfl⟩ ?_
      refine a1M a2B (a:=alB es wl lo hi S) rfl rfl rfl rfl (fun _=>rfl) (fun _=>rfl) (PH.cut_le _ _) ocb (by omega) rfl (fun _=>a0R rfl (by rw[hal];show Value.bool (((R:Nat):Int)==intOf (D prog _ (.cv .u64 (.v 11))))=_;rw[b3A (n:=S) (k:= .i64) rfl hSM];show Value.bool (((R:Nat):Int)==((S:Nat):Int))=_;rw[bE];congr 1;apply decide_eq_decide.2;omega)) rfl fun pp u3 H13 l13 o13 _=> ?_
      simp only[cA,nA]
      rw[b6A]at o13
      exact⟨S+1,by omega,(a1R (a0J rfl (by omega))),⟨by omega,by omega,(PH.le_cut lA12 hAb).trans l13,o13.less (PH.le_cut lA12 hAb),(a1s p10 hcb (by decide)).mono l13⟩⟩
  ·replace hlS:=of_decide_eq_false hlS
   obtain rfl:S=2^n:=by omega
   rw[c0p]at p3
   refine a0n (a2A (ok:=d6j) (ke:=kW2) d0X rfl) rfl ?_
   rintro v12 H14 ⟨l14,o14⟩
   refine⟨fun h=>(nomatch h),?_⟩
   simp only[cA,nA]
   obtain⟨rm,es0,clock,rfl,hr0,hr1,hE,hkv⟩:=id o14
   refine a0A (cs:= #[.map none]) (by rw[show D prog _ (.z 175)=a0G prog 175 from rfl,d6Z];rfl) fun pm hpm=> ?_
   simp only[cA,nA]
   refine a1f (u:= .map (some rm)) b9T rfl rfl rfl (PH.put_self _ _ _) (by simp) rfl rfl rfl (fun h=>(nomatch h)) ?_
   simp only[cA,nA]
   rw[PH.put_put]
   refine a0A (cs:= #[.nilFunc]) (by rw[show D prog _ (.z 176)=a0G prog 176 from rfl,d7a];rfl) fun pd hpd=> ?_
   simp only[cA,nA]
   refine a0O (a0z (vs:=[pt pm,pt pF,pt pd]) rfl rfl) rfl ?_
   simp only[cA,nA]
   refine a1f (u:=d6k pm pF pd) b9V rfl rfl rfl (PH.put_self _ _ _) (by simp) rfl rfl rfl (fun h=>(nomatch h)) ?_
   simp only[cA,nA]
   rw[PH.put_put]
   have hpdm:pd≠pm:=fun e=>by subst e;rw[PH.put_self]at hpd;cases hpd
   have hpd':H14 pd=none:=by rw[PH.put_ne _ _ hpdm]at hpd;exact hpd
   have h14q:=l14 _ _ (lA _ _ hAq)
   have h14F:=l14 _ _ (lA _ _ hAF)
   have hqm:q≠pm:=fun e=>by rw[e,hpm]at h14q;cases h14q
   have hqd:q≠pd:=fun e=>by rw[e,hpd']at h14q;cases h14q
   have hFm:pF≠pm:=fun e=>by rw[e,hpm]at h14F;cases h14F
   have hFd:pF≠pd:=fun e=>by rw[e,hpd']at h14F;cases h14F
   have hrm:rm≠pm:=fun e=>by rw[e,hpm]at hr1;cases hr1
   have hrd:rm≠pd:=fun e=>by rw[e,hpd']at hr1;cases hr1
   have hrq:rm≠q:=fun e=>by rw[e,h14q]at hr1;cases hr1
   have hrF:rm≠pF:=fun e=>by rw[e,h14F]at hr1;cases hr1
   generalize hX:(H14.put pm (.cells (#[.map none].setIfInBounds 0 (.map (some rm))) 175 (0,0))).put pd (.cells (#[.nilFunc].setIfInBounds 0 (d6k pm pF pd)) 176 (0,0))=X
   have hXq:X q=some (.cells #[ii (n:Nat),v3,.nilFunc] 171 (0,0)):=by subst hX;rw[PH.put_ne _ _ hqd,PH.put_ne _ _ hqm];exact h14q
   have hXF:X pF=some (.cells #[pt q] 93 (0,0)):=by subst hX;rw[PH.put_ne _ _ hFd,PH.put_ne _ _ hFm];exact h14F
   have hXr:X rm=some (.map (eN kW2 es0).toArray clock):=by subst hX;rw[PH.put_ne _ _ hrd,PH.put_ne _ _ hrm];exact hr1
   have hXm:X pm=some (.cells #[.map (some rm)] 175 (0,0)):=by subst hX;rw[PH.put_ne _ _ (fun e=>hpdm e.symm)];exact PH.put_self _ _ _
   have hXd:X pd=some (.cells #[d6k pm pF pd] 176 (0,0)):=by subst hX;exact PH.put_self _ _ _
   have lX:PH.le H14 X:=by subst hX;exact(PH.le_put hpm _).trans (PH.le_put (by rw[PH.put_ne _ _ hpdm];exact hpd') _)
   refine a0g a8d rfl rfl hXF rfl rfl ?_
   simp only[cA,nA]
   refine a0O (a0z (vs:=[pt pd,pt pF]) rfl rfl) rfl ?_
   simp only[cA,nA]
   refine a0u (ad:=⟨q,0,none⟩) rfl rfl rfl ?_
   simp only[cA,nA]
   refine a0i c5N rfl rfl rfl ?_
   simp only[cA,nA]
   refine a1f (u:=d6l pd pF) b4Q rfl rfl rfl hXq (by simp) rfl rfl rfl (fun h=>(nomatch h)) ?_
   simp only[cA,nA]
   generalize hY:X.put q (.cells (#[ii (n:Nat),v3,.nilFunc].setIfInBounds 2 (d6l pd pF)) 171 (0,0))=Y
   have hYk:∀k,k≠q->Y k=X k:=fun k hk=>by subst hY;exact PH.put_ne _ _ hk
   have hYq:Y q=some (.cells #[ii (n:Nat),v3,d6l pd pF] 171 (0,0)):=by subst hY;exact PH.put_self _ _ _
   have hqF2:pF≠q:=hqF
   refine a0g a8d rfl rfl ((hYk pF hqF2).trans hXF) rfl rfl ?_
   simp only[cA,nA]
   have lXY:PH.le (X.cut q) Y:=by subst hY;exact PH.cut_put _ _ _
   have hH1q:H1 q=none:=by
    cases e:H1 q with
    |none=>rfl
    |some o=>have:=l2 _ _ e;rw[hq]at this;cases this
   have hH1r:H1 rm=none:=by
    cases e:H1 rm with
    |none=>rfl
    |some o=>have:=lA _ _ (hHA _ _ e);rw[hr0]at this;cases this
   have lHB:PH.le H (Y.cut rm):=l1.trans (PH.le_cut ((PH.le_cut (((hHA.trans lA).trans l14).trans lX) hH1q).trans lXY) hH1r)
   have s3:SE (Y.cut rm) 1 (fun b:Bool=>[.bool b]) v3 ((List.range (2^n)).map (alB es wl lo hi)):=(a3A ((a1s ((p3.mono l14).mono lX) hXq (by decide)).mono lXY) (fun cs T fz h=>by rw[hYk _ hrq,hXr]at h;cases h)).se
   exact a0c rfl ⟨Y.cut rm,q,pm,pF,pd,.map (some rm),rfl,lHB,⟨hn,⟨v3,_,by rw[PH.cut_ne _ (fun e=>hrq e.symm)];exact hYq,s3⟩,⟨_,by rw[PH.cut_ne _ (fun e=>hrm e.symm),hYk _ (fun e=>hqm e.symm)];exact hXm⟩,⟨_,by rw[PH.cut_ne _ (fun e=>hrF e.symm),hYk _ hqF2];exact hXF⟩,⟨_,by rw[PH.cut_ne _ (fun e=>hrd e.symm),hYk _ (fun e=>hqd e.symm)];exact hXd⟩⟩,PH.cut_le _ _,[],⟨rm,es0,clock,rfl,PH.cut_self _ _,by rw[hYk _ hrq];exact hXr,hE,hkv⟩,fun p v h=>nomatch h⟩
end
end Go.Proofs.YtlmgkkjgdapnpaaGreatDoor

/- Chapter 32: the probabilities add up to 1 at most. -/
import Derived.Test.YtmannekkmdockaaGreatDoorGzG
import Derived.Shelf.SlGeneric
import Derived.Ground.SlsfProg
import Derived.Shelf.SlSortCmp.Whole1
import Derived.Test.YtmannekkmdockaaGreatDoorProg
import Derived.Test.YtmannekkmdockaaGreatDoorGsD
namespace Go.GS
theorem c3l {α:Type} {f g:α->Nat}:∀{l:List α},(∀x∈l,f x<=g x)->(l.map f).sum<=(l.map g).sum
 |[],_=>by simp
 |a::l,h=>by
  rw[List.map_cons,List.map_cons,List.sum_cons,List.sum_cons]
  have:=h a (by simp)
  have:=c3l (l:=l) fun x hx=>h x (by simp[hx])
  omega
theorem d5L {α:Type} {s:α->Rat} {c:Rat}:∀{l:List α},(∀x∈l,s x<=c)->sQ (l.map s)<=((l.length:Nat):Int)*c
 |[],_=>by simp only[List.map_nil,sQ,List.length_nil];show(0:Rat)<=0*c;rw[Rat.zero_mul];exact Rat.le_refl
 |a::l,h=>by
  have h1:=h a (by simp)
  have h2:=d5L (l:=l) fun x hx=>h x (by simp[hx])
  simp only[List.map_cons,sQ,List.length_cons]
  rw[show(((l.length+1:Nat):Int):Rat)=((l.length:Nat):Int)+1 from by push_cast;rfl]
  grind
theorem c3m {α β:Type} {f:α->List β} {g:β->Rat}:∀l:List α,sQ ((l.flatMap f).map g)=sQ (l.map fun a=>sQ ((f a).map g))
 |[]=>rfl
 |a::l=>by
  rw[List.flatMap_cons,List.map_append,c2Q,List.map_cons,sQ,c3m l]
theorem c8s {α:Type} {f:α->Nat} {d:Rat}:∀l:List α,sQ (l.map fun a=>(((f a:Nat):Int):Rat)/d)=((((l.map f).sum:Nat):Int):Rat)/d
 |[]=>by simp only[List.map_nil,sQ,List.sum_nil];rw[Rat.div_def];show(0:Rat)=0*_;rw[Rat.zero_mul]
 |a::l=>by
  simp only[List.map_cons,sQ,List.sum_cons]
  rw[c8s l]
  push_cast
  rw[Rat.div_def,Rat.div_def,Rat.div_def,Rat.add_mul]
noncomputable def tn (es:List (Nat×Nat)) (S:Nat):Nat:=(trees es S).length
section
variable {es:List (Nat×Nat)} {S a:Nat}
theorem tn_tree:tn es S≠0↔∃t,TreeOk es S t:=by
 unfold tn
 constructor
 ·intro h
  obtain⟨t,ht⟩:=List.exists_mem_of_length_pos (Nat.pos_of_ne_zero h)
  exact⟨t,trees_mem.1 ht⟩
 ·rintro⟨t,ht⟩ e
  have:=trees_mem.2 ht
  rw[List.length_eq_zero_iff.1 e]at this;cases this
theorem d2q (hs:S<M64) (h0:S≠0) (ht:tn es S≠0) (hsub:∀y,bit a y=true->bit S y=true) (hl:bit a (lst S)=true) (hne:a≠S):0<d3c es a (sdf S a):=by
 obtain⟨t,hT⟩:=tn_tree.1 ht
 rw[<-c2V]
 refine Classical.byContradiction fun hc=>hne ?_
 have hc:(crs es a (sdf S a))=[]:=List.eq_nil_of_length_eq_zero (by omega)
 have hno:∀i∈t,btB a (sdf S a) (Ed es i)=false:=fun i hi=>by
  cases hb:btB a (sdf S a) (Ed es i)with
  |false=>rfl
  |true=>
   have ho:=hT.ok i hi
   have:i∈crs es a (sdf S a):=crs_mem.2 ⟨ho.1,ho.2.1,hb⟩
   rw[hc]at this;cases this
 have hr:∀y,Rch (etl es t) S (lst S) y->bit a y=true:=fun y hy=>by
  induction hy with
  |base=>exact hl
  |step _ ha hz ih=>
   obtain⟨e,he,h⟩:=ha
   obtain⟨i,hi,rfl⟩:=a1S he
   have hn:=hno i hi
   have ho:=hT.ok i hi
   unfold btB at hn
   simp only[a0p,ho.2.2.1,ho.2.2.2,Bool.true_and]at hn
   rcases h with⟨rfl,rfl⟩|⟨rfl,rfl⟩
   ·rw[ih]at hn;simpa using hn
   ·rw[ih]at hn;simpa using hn
 have hall:=(a4i hT.inn).1 (hT.one hs h0)
 exact a0F fun y=>by
  rw[Bool.eq_iff_iff]
  exact⟨hsub y,fun hy=>hr y (hall _ _ (a6O hs h0) hy)⟩
end
end Go.GS
namespace Go.Proofs.YtmannekkmdockaaGreatDoor
open Go.Proofs.Tryz
open Go.RowKit Go.RX Go.GS Go.RZ
open Go.WD (BP a1E wd rs toI HM sgI Rb)
section
variable {es:List (Nat×Nat)} {wl:List Int} {lo hi:Int} {n k m S a:Nat} {p:List Int}
theorem a8N (hs:S<M64) (h0:S≠0):tN es S=((tn es S:Nat):Int):=by
 unfold tN tn
 rw[a5G,b6J,b3d hs h0]
theorem c3n (hs:S<M64) (h0:S≠0) (h:Cn es S):tn es S≠0:=fun e=>by
 have:=c6L hs h0 h
 have h2:=a8N (es:=es) hs h0
 unfold tN at h2
 omega
structure PrO (p:List Int) (n k:Nat) (pr:Nat×Nat):Prop where
 s2:unP p pr<2^n
 sM:unP p pr<M64
 s0:unP p pr≠0
 cd:card (unP p pr)<=n
theorem d7H (hU:a3B p k) (hpl:p.length=n) (hn:n<=64) {pr:Nat×Nat} (hpr:pr∈a0A k):PrO p n k pr:=by
 have hpk:=a5F hpr
 have hS:=a9W hpl hn pr
 exact⟨hS,a1g hn hS,fun e=>hU pr.1 (by omega) (by unfold unP at e;exact(Nat.or_eq_zero_iff.1 e).1),a8y hS hn⟩
theorem par_mem {pr:Nat×Nat}:a∈a8U es wl lo hi p pr↔tN es (unP p pr)≠0/\a∈a1z (unP p pr)/\alB es wl lo hi a=true/\alB es wl lo hi (sdf (unP p pr) a)=true/\a0r p≠a0r (a2h p pr a):=by
 unfold a8U
 split
 ·rename_i h;simp[h]
 ·rename_i h
  rw[List.mem_filter]
  unfold c6Y
  simp[h]
theorem c8t {pr:Nat×Nat}:(a8U es wl lo hi p pr).Nodup:=by
 unfold a8U
 split
 ·exact List.nodup_nil
 ·exact(b6Z _).filter _
theorem d2r {pr:Nat×Nat} (hP:PrO p n k pr) (ha:a∈a8U es wl lo hi p pr):tn es a*tn es (sdf (unP p pr) a)<=(c6T es (unP p pr) a).length:=by
 obtain⟨h1,h2,_⟩:=par_mem.1 ha
 obtain⟨s1,s2,s3⟩:=a8E hP.sM hP.s0 h2
 rw[d2g hP.sM hP.s0 s1 s2,<-Nat.mul_assoc]
 have hb:=d2q (es:=es) hP.sM hP.s0 (fun e=>h1 (by rw[a8N hP.sM hP.s0,e];rfl)) s1 s2 s3
 exact Nat.le_mul_of_pos_right _ hb
theorem c8u {pr:Nat×Nat} (hP:PrO p n k pr):((a8U es wl lo hi p pr).map fun a=>tn es a*tn es (sdf (unP p pr) a)).sum<=tn es (unP p pr)*(card (unP p pr)-1):=
 Nat.le_trans (c3l fun a ha=>d2r hP ha) (d2h c8t)
noncomputable def prQ (es:List (Nat×Nat)) (wl:List Int) (lo hi:Int) (n m:Nat) (p:List Int) (pr:Nat×Nat):Rat:=sQ ((a8U es wl lo hi p pr).map (c3e es n m p pr))
theorem b3j {pr:Nat×Nat} (hP:PrO p n k pr) (hn:n<=64) (ha:a∈a1z (unP p pr)):c3e es n m p pr a=(((tn es a*tn es (sdf (unP p pr) a):Nat):Int):Rat)/(((tn es (unP p pr)*((n-1)*m):Nat):Int):Rat):=by
 obtain⟨⟨a0,a2⟩,s0,s2⟩:=a8F hP.s2 hn hP.s0 ha
 unfold c3e c3J
 rw[a8N (a1g hn a2) a0,a8N (a1g hn s2) s0,a8N hP.sM hP.s0]
 push_cast
 rfl
theorem d5M {pr:Nat×Nat} (hP:PrO p n k pr) (hn:n<=64):prQ es wl lo hi n m p pr=(((((a8U es wl lo hi p pr).map fun a=>tn es a*tn es (sdf (unP p pr) a)).sum:Nat):Int):Rat)/(((tn es (unP p pr)*((n-1)*m):Nat):Int):Rat):=by
 unfold prQ
 rw[<-c8s]
 congr 1
 exact List.map_congr_left fun a ha=>b3j hP hn (par_mem.1 ha).2.1
theorem a8O {x:Nat} (h:0<x):(0:Rat)<((x:Nat):Int):=by exact_mod_cast h
theorem d5N {pr:Nat×Nat} (hP:PrO p n k pr) (hn:n<=64) (hm:0<m):prQ es wl lo hi n m p pr<=1/(((m:Nat):Int):Rat):=by
 have hm':=a8O hm
 by_cases h0:tn es (unP p pr)=0
 ·unfold prQ a8U
  rw[if_pos (by rw[a8N hP.sM hP.s0,h0];rfl)]
  show(0:Rat)<=_
  exact Rat.le_of_lt ((Rat.lt_div_iff hm').2 (by rw[Rat.zero_mul];decide))
 ·have h1:=c8u (es:=es) (wl:=wl) (lo:=lo) (hi:=hi) hP
  rw[d5M hP hn]
  generalize ((a8U es wl lo hi p pr).map fun a=>tn es a*tn es (sdf (unP p pr) a)).sum=N at h1
  by_cases hd:n-1=0
  ·have hcd:=hP.cd
   have hc:card (unP p pr)-1=0:=by omega
   rw[hc]at h1
   have:N=0:=by omega
   subst this
   rw[Rat.div_def]
   show(0:Rat)*_<=_
   rw[Rat.zero_mul]
   exact Rat.le_of_lt ((Rat.lt_div_iff hm').2 (by rw[Rat.zero_mul];decide))
  ·have hD:0<tn es (unP p pr)*((n-1)*m):=Nat.mul_pos (by omega) (Nat.mul_pos (by omega) hm)
   have h2:N*m<=tn es (unP p pr)*((n-1)*m):=by
    have hcd:=hP.cd
    have h3:tn es (unP p pr)*(card (unP p pr)-1)<=tn es (unP p pr)*(n-1):=Nat.mul_le_mul_left _ (by omega)
    rw[<-Nat.mul_assoc]
    exact Nat.mul_le_mul_right m (Nat.le_trans h1 h3)
   refine Rat.not_lt.1 fun hlt=> ?_
   rw[Rat.div_lt_iff hm',Rat.div_def,Rat.mul_assoc,Rat.mul_comm (_⁻¹),<-Rat.mul_assoc,<-Rat.div_def,Rat.lt_div_iff (a8O hD)]at hlt
   rw[Rat.one_mul]at hlt
   have:((tn es (unP p pr)*((n-1)*m):Nat):Int)<((N*m:Nat):Int):=by exact_mod_cast hlt
   omega
noncomputable def a6v (es:List (Nat×Nat)) (wl:List Int) (lo hi:Int) (n k:Nat) (p:List Int):Rat:=sQ ((a1J es wl lo hi n k p).map (·.2))
theorem d5O (hL:LabOk p (k:Nat)) (hU:a3B p k) (hc:a0x p=p) (hpl:p.length=n) (hn:n<=64):a6v es wl lo hi n k p=sQ ((a0A k).map fun pr=>prQ es wl lo hi n (a0A k).length p pr):=by
 unfold a6v
 rw[b3h hL hU hc hpl hn,List.map_map]
 unfold a6W
 rw[c3m]
 congr 1
 refine List.map_congr_left fun pr _=> ?_
 rw[List.map_map];rfl
theorem d7f {m:Nat} (h:0<m):(((m:Nat):Int):Rat)*(1/(((m:Nat):Int):Rat))=1:=by
 rw[Rat.div_def,Rat.one_mul,Rat.mul_inv_cancel]
 exact fun e=>by have:=a8O h;rw[e]at this;exact absurd this (by decide)
theorem d5P (hL:LabOk p (k:Nat)) (hU:a3B p k) (hc:a0x p=p) (hpl:p.length=n) (hn:n<=64):a6v es wl lo hi n k p<=1:=by
 rw[d5O hL hU hc hpl hn]
 rcases Nat.eq_zero_or_pos (a0A k).length with h|h
 ·rw[List.length_eq_zero_iff.1 h];show(0:Rat)<=1;decide
 ·have:=d5L (l:=a0A k) (s:=fun pr=>prQ es wl lo hi n (a0A k).length p pr) fun pr hpr=>d5N (d7H hU hpl hn hpr) hn h
  rwa[d7f h]at this
end
end Go.Proofs.YtmannekkmdockaaGreatDoor
/- slices.SortFunc of the shelf at this program: laid by the kit. -/
namespace Go.Proofs
open Go.Shelf
def Tryz.srtL_ren:Go.Shelf.Ren:=⟨fun|6=>48|15=>92|14=>91|28=>157|29=>117|20=>149|21=>150|22=>151|23=>152|24=>153|25=>154|26=>155|27=>156|46=>204|47=>205|48=>206|49=>207|50=>208|57=>241|n=>n,fun|22=>48|24=>33|25=>114|3=>3|39=>164|0=>0|53=>240|55=>54|4=>4|46=>234|45=>233|50=>141|5=>5|9=>9|66=>284|70=>288|76=>323|77=>103|n=>n,fun|n=>n⟩
theorem Tryz.srtL:Go.Proofs.SlLaysF.n6 prog Tryz.srtL_ren:={
 mixed:=by kernel_rfl
 f6:=⟨f48.name,by decide,Tryz.func48.trans (congrArg some (by kernel_rfl))⟩
 f14:=⟨f91.name,by decide,Tryz.func91.trans (congrArg some (by kernel_rfl))⟩
 f15:=Tryz.func92.trans (congrArg some (by kernel_rfl))
 f20:=⟨f149.name,by decide,Tryz.func149.trans (congrArg some (by kernel_rfl))⟩
 f21:=⟨f150.name,by decide,Tryz.func150.trans (congrArg some (by kernel_rfl))⟩
 f22:=⟨f151.name,by decide,Tryz.func151.trans (congrArg some (by kernel_rfl))⟩
 f23:=⟨f152.name,by decide,Tryz.func152.trans (congrArg some (by kernel_rfl))⟩
 f24:=⟨f153.name,by decide,Tryz.func153.trans (congrArg some (by kernel_rfl))⟩
 f25:=⟨f154.name,by decide,Tryz.func154.trans (congrArg some (by kernel_rfl))⟩
 f26:=⟨f155.name,by decide,Tryz.func155.trans (congrArg some (by kernel_rfl))⟩
 f27:=⟨f156.name,by decide,Tryz.func156.trans (congrArg some (by kernel_rfl))⟩
 f28:=Tryz.func157.trans (congrArg some (by kernel_rfl))
 f29:=Tryz.func117.trans (congrArg some (by kernel_rfl))
 f46:=⟨f204.name,by decide,Tryz.func204.trans (congrArg some (by kernel_rfl))⟩
 f47:=Tryz.func205.trans (congrArg some (by kernel_rfl))
 f48:=Tryz.func206.trans (congrArg some (by kernel_rfl))
 f49:=⟨f207.name,by decide,Tryz.func207.trans (congrArg some (by kernel_rfl))⟩
 f50:=⟨f208.name,by decide,Tryz.func208.trans (congrArg some (by kernel_rfl))⟩
 f57:=⟨f241.name,by decide,Tryz.func241.trans (congrArg some (by kernel_rfl))⟩
 t0:=Tryz.underlying0
 a0:=Tryz.isAgg0
 z0:=Tryz.sizeOf0
 v0:=Tryz.zeroValue0
 t3:=Tryz.underlying3
 a3:=Tryz.isAgg3
 z3:=Tryz.sizeOf3
 v3:=Tryz.zeroValue3
 t4:=Tryz.underlying4
 a4:=Tryz.isAgg4
 z4:=Tryz.sizeOf4
 v4:=Tryz.zeroValue4
 t5:=Tryz.underlying5
 a5:=Tryz.isAgg5
 z5:=Tryz.sizeOf5
 v5:=Tryz.zeroValue5
 t9:=Tryz.underlying9
 a9:=Tryz.isAgg9
 z9:=Tryz.sizeOf9
 v9:=Tryz.zeroValue9
 t22:=Tryz.underlying48
 a22:=Tryz.isAgg48
 z22:=Tryz.sizeOf48
 v22:=Tryz.zeroValue48
 a24:=Tryz.isAgg33
 z24:=Tryz.sizeOf33
 t25:=Tryz.underlying114
 a25:=Tryz.isAgg114
 z25:=Tryz.sizeOf114
 v25:=Tryz.zeroValue114
 t39:=Tryz.underlying164
 a39:=Tryz.isAgg164
 z39:=Tryz.sizeOf164
 v39:=Tryz.zeroValue164
 t45:=Tryz.underlying233
 a45:=Tryz.isAgg233
 z45:=Tryz.sizeOf233
 v45:=Tryz.zeroValue233
 t46:=Tryz.underlying234
 a46:=Tryz.isAgg234
 z46:=Tryz.sizeOf234
 v46:=Tryz.zeroValue234
 t50:=Tryz.underlying141
 a50:=Tryz.isAgg141
 z50:=Tryz.sizeOf141
 v50:=Tryz.zeroValue141
 t53:=Tryz.underlying240
 a53:=Tryz.isAgg240
 z53:=Tryz.sizeOf240
 v53:=Tryz.zeroValue240
 t55:=Tryz.underlying54
 a55:=Tryz.isAgg54
 z55:=Tryz.sizeOf54
 v55:=Tryz.zeroValue54
 t66:=Tryz.underlying284
 a66:=Tryz.isAgg284
 z66:=Tryz.sizeOf284
 v66:=Tryz.zeroValue284
 t70:=Tryz.underlying288
 a70:=Tryz.isAgg288
 z70:=Tryz.sizeOf288
 v70:=Tryz.zeroValue288
 t76:=Tryz.underlying323
 a76:=Tryz.isAgg323
 z76:=Tryz.sizeOf323
 v76:=Tryz.zeroValue323
 t77:=Tryz.underlying103
 a77:=Tryz.isAgg103
 z77:=Tryz.sizeOf103
 v77:=Tryz.zeroValue103}
end Go.Proofs
/- slices.SortFunc of the shelf as a contract with memory. -/
namespace Go.RX
open Go.Proofs Go.Shelf Go.RowKit Go.Lib Go.Sort
theorem c7c {w w':World} (h:Ext w w'):∃q os',w'=grow (w.drewN q) os':=by
 refine⟨w'.drawn-w.drawn,w'.heap.extract w.heap.size w'.heap.size,?_⟩
 have hs:=h.size
 have hd:=h.dr
 have hh:w'.heap=w.heap++w'.heap.extract w.heap.size w'.heap.size:=by
  apply Array.ext_getElem?
  intro k
  by_cases hk:k<w.heap.size
  ·rw[Array.getElem?_append_left hk,h.blk k hk]
  ·rw[Array.getElem?_append_right (by omega),Array.getElem?_extract]
   split
   ·congr 1;omega
   ·rw[Array.getElem?_eq_none];omega
 have h1:=h.os
 have h2:=h.tape
 have h3:=h.output
 obtain⟨hp',tp',dr',os',out'⟩:=w'
 obtain⟨hp,tp,dr,os,out⟩:=w
 simp only at h1 h2 h3 hh hd
 subst h1 h2 h3
 simp only[grow,World.drewN]
 congr 1
 omega
section
variable {P:Program} {α:Type} [Inhabited α] {enc:α->Value} {H B:PH} {blk:Nat} {cur:Array Value} {T:TypeId} {d:Array α}
theorem b3k {w:World} (hw:H.In w) (hb:H blk=some (.cells cur T (0,0))) (n:Nat) (dk:Array α) (os:Array Obj):Step H w (H.put blk (.cells (putCells enc 0 dk cur) T (0,0))) (sortWorld enc w blk 0 n dk os):=by
 have hwb:=hw _ _ hb
 have hlt:=a0D hwb
 have hsz:(w.heap.modify blk (onCells (putCells enc 0 dk))).size=w.heap.size:=by simp
 have hne:∀k,k<w.heap.size->k≠blk->(w.heap.modify blk (onCells (putCells enc 0 dk))++os)[k]? =w.heap[k]?:=fun k hk h=>by
  rw[Array.getElem?_append_left (by omega),Array.getElem?_modify,if_neg (fun e=>h e.symm)]
 refine⟨rfl,rfl,rfl,by show w.heap.size<=(w.heap.modify blk (onCells (putCells enc 0 dk))++os).size;simp,fun k hk hn=> ?_,fun k ob hk=> ?_,fun k hk=> ?_,Nat.le_add_right _ _⟩
 ·exact hne k hk (fun e=>by rw[e,hb]at hn;cases hn)
 ·show(w.heap.modify blk (onCells (putCells enc 0 dk))++os)[k]? =_
  unfold PH.put at hk
  split at hk
  ·rename_i e;subst e;cases hk
   rw[Array.getElem?_append_left (by omega),Array.getElem?_modify,if_pos rfl,hwb]
   rfl
  ·rename_i e
   rw[hne k (a0D (hw _ _ hk)) e];exact hw _ _ hk
 ·unfold PH.put at hk
  split at hk
  ·rename_i e;subst e;left;rw[hb];simp
  ·exact .inl hk
theorem c7d {g:Nat} {cb:Array Value} {cf:α->α->Int} {size:Nat} {w:World} (hw:H.In w) (hb:H blk=some (.cells cur T (0,0))) (hle:PH.le B H) (hn:B blk=none) (h:∀x y,a3M P g (enc x::enc y::cb.toList) B (.int .i64 (cf x y))):CmpLays1 P g cb enc cf blk 0 size w:=fun m os dk _ x y=>by
 have hs:=b3k (enc:=enc) hw hb m dk os
 have hB:B.In (sortWorld enc w blk 0 m dk os):=fun b ob hk=>hs.holds b ob (by
  rw[PH.put_ne _ _ (fun e=>by rw[e,hn]at hk;cases hk)];exact hle _ _ hk)
 have h1:=h x y _ hB
 have ha:(enc x::enc y::cb.toList).toArray= #[enc x,enc y]++cb:=by
  rw[<-Array.toList_inj];simp
 rw[ha]at h1
 refine h1.mono fun e w' ⟨v,H',he,hst,hl,hv⟩=>⟨by rw[he,hv],c7c (hst.toExt hB hl)⟩
theorem c3o {ρ:Ren} (L:SlLaysF.n6 P ρ) (h1:OneCell enc) {cf:α->α->Int} (hO:SWO (ltOf cf)) {g:Nat} {cb:Array Value} {cap:Nat} (eg:a4B P g=true) (hb:H blk=some (.cells cur T (0,0))) (hcur:cur.toList.take d.size=d.toList.map enc) (hsz:d.size<4611686018427387904)
  (hle:PH.le B H) (hn:B blk=none) (h:∀x y,a3M P g (enc x::enc y::cb.toList) B (.int .i64 (cf x y))):
  Con P (ρ.f 6) [.slice (some ⟨blk,0,none⟩) d.size cap,.func (.func g) #[] cb] H fun v H'=>v= .tuple #[]/\∃d':Array α,d'.size=d.size/\d'.toList.Perm d.toList/\SortedIn (ltOf cf) 0 d.size d'/\H'=H.put blk (.cells (putCells enc 0 d' cur) T (0,0)):=fun w hw=>by
 have hwb:=hw _ _ hb
 have hH:Holds enc w blk 0 d:=fun j hj=>by
  have hj2:cur.toList[j]? =some (enc d[j]!):=by
   have:(cur.toList.take d.size)[j]? =cur.toList[j]?:=List.getElem?_take_of_lt hj
   rw[<-this,hcur,List.getElem?_map,Array.getElem?_toList,Array.getElem?_eq_getElem hj,getElem!_pos d j hj];rfl
  constructor
  ·rw[Nat.zero_add]
   unfold World.cell?
   simp only[hwb]
   rw[if_neg (by simp),<-Array.getElem?_toList,hj2]
  ·unfold World.frozen?
   simp[hwb]
 have hc:=Any.slices_SortFunc L enc h1 cf hO g cb blk 0 cap d w (a5g eg) (c7d hw hb hle hn h) hH (a0D hwb) hsz
 refine hc.mono fun e w' ⟨he,d',n,os,hp,hs,hw'⟩=>⟨.tuple #[],_,he,by rw[hw'];exact b3k hw hb n d' os,rfl,d',hp.1,?_,hs,rfl⟩
 have:=hp.2.2
 have e1:d'.extract 0 d.size=d':=by rw[<-hp.1];simp
 have e2:d.extract 0 d.size=d:=by simp
 rwa[e1,e2]at this
end
end Go.RX
/- Chapter 32: the sort of plans. -/
namespace Go.Proofs.YtmannekkmdockaaGreatDoor
open Go.Proofs.Tryz
open Go.RowKit Go.RX Go.GS Go.RZ Go.Sort
set_option maxRecDepth 100000
theorem a6w:∀l m k:List Int,(a2W l m<0->a2W m k<0->a2W l k<0)/\(0<=a2W l m->0<=a2W m k->0<=a2W l k)
 |[],[],[]=>by simp[a2W]
 |[],[],_::_=>by simp[a2W]
 |[],_::_,[]=>by simp[a2W]
 |[],_::_,_::_=>by simp[a2W]
 |_::_,[],[]=>by simp[a2W]
 |_::_,[],_::_=>by simp[a2W]
 |_::_,_::_,[]=>by simp[a2W]
 |x::l,y::m,z::k=>by
  have ih:=a6w l m k
  simp only[a2W,b1K]
  grind
theorem b3l:∀l:List Int,a2W l l=0
 |[]=>rfl
 |x::l=>by simp[a2W,b1K,b3l l]
theorem d2s {α:Type} (f:α->List Int):SWO (ltOf fun x y=>a2W (f x) (f y)) where
 irrefl x:=by show decide (a2W (f x) (f x)<0)=false;rw[b3l];rfl
 trans x y z h1 h2:=by
  exact decide_eq_true ((a6w _ _ _).1 (of_decide_eq_true h1) (of_decide_eq_true h2))
 ntrans x y z h1 h2:=by
  have h1:¬a2W (f x) (f y)<0:=of_decide_eq_false h1
  have h2:¬a2W (f y) (f z)<0:=of_decide_eq_false h2
  have:=(a6w (f x) (f y) (f z)).2 (by omega) (by omega)
  exact decide_eq_false (by show ¬a2W (f x) (f z)<0;omega)
section
variable {H:PH} {u v:Value} {l m:List Int}
theorem c3p (hu:SI H u l) (hv:SI H v m):Asks prog 50 [u,v] H (ii (a2W l m)):=by
 refine a0b mixed c5H (by kernel_rfl) rfl ?_
 have hl:=hu.len
 have hm:=hv.len
 refine a0h el_plan rfl rfl hu rfl ?_
 refine a0K (α:=Nat×Int) (fun⟨i,p⟩=>[ii p,ii (i:Nat)]) (fun⟨i,p⟩=>i<=l.length/\a2W (l.drop i) (m.drop i)=a2W l m) (fun⟨i,p⟩=>l.length-i) ((0,0)) rfl (⟨Nat.zero_le _,rfl⟩) fun⟨i,p⟩ hQ=> ?_
 simp only[cA,nA]
 obtain⟨hi,hc⟩:=hQ
 refine a0a ⟨_,rfl⟩ ?_
 refine a0a ⟨_,rfl⟩ ?_
 refine a0e (b:=decide (((i:Nat):Int)<(l.length:Nat))) rfl (fun h=> ?_) (fun h=> ?_)
 ·replace h:=of_decide_eq_true h
  have hi':i<l.length:=by omega
  obtain⟨x,hx,hdx⟩:=a0B hi'
  refine a0i el_plan rfl rfl rfl rfl (fun _=>rfl) hu hx rfl (fun _=>rfl) fun _=> ?_
  simp only[cA,nA]
  refine a0h el_plan rfl rfl hv rfl ?_
  refine a0a ⟨_,rfl⟩ ?_
  refine a0e (b:=decide (((i:Nat):Int)≥(m.length:Nat))) rfl (fun h2=> ?_) (fun h2=> ?_)
  ·replace h2:=of_decide_eq_true h2
   have:m.drop i=[]:=List.drop_eq_nil_of_le (by omega)
   rw[hdx,this]at hc
   exact a0c rfl ⟨rfl,by rw[<-hc];rfl⟩
  ·replace h2:=of_decide_eq_false h2
   obtain⟨y,hy,hdy⟩:=a0B (l:=m) (i:=i) (by omega)
   refine a0i el_plan rfl rfl rfl rfl (fun _=>rfl) hv hy rfl (fun _=>rfl) fun _=> ?_
   simp only[cA,nA]
   rw[hdx,hdy]at hc
   refine a0u (b5P x y) rfl ?_
   simp only[cA,nA]
   refine a0a ⟨_,rfl⟩ ?_
   refine a0e (b:=decide (b1K x y≠0)) (by show Value.bool (b1K x y !=0)=_;congr 1;by_cases e:b1K x y=0<;>simp[e]) (fun h3=> ?_) (fun h3=> ?_)
   ·replace h3:=of_decide_eq_true h3
    exact a0c rfl ⟨rfl,by rw[<-hc];simp only[a2W];rw[if_pos h3];rfl⟩
   ·replace h3:=of_decide_eq_false h3
    exact⟨(i+1,p),by show l.length-(i+1)<l.length-i;omega,(a1s rfl (a0w rfl (by omega))),⟨⟨by show i+1<=_;omega,by rw[<-hc];simp only[a2W];rw[if_neg h3]⟩,rfl⟩⟩
 ·replace h:=of_decide_eq_false h
  have hle:i=l.length:=by omega
  subst hle
  rw[List.drop_length]at hc
  refine a0h el_plan rfl rfl hu rfl ?_
  refine a0h el_plan rfl rfl hv rfl ?_
  refine a0a ⟨_,rfl⟩ ?_
  refine a0a ⟨_,rfl⟩ ?_
  refine a0e (b:=decide (((l.length:Nat):Int)<(m.length:Nat))) rfl (fun h2=> ?_) (fun h2=> ?_)
  ·replace h2:=of_decide_eq_true h2
   obtain⟨y,hy,hdy⟩:=a0B (l:=m) (i:=l.length) (by omega)
   rw[hdy]at hc
   exact a0c rfl ⟨rfl,by rw[<-hc];rfl⟩
  ·replace h2:=of_decide_eq_false h2
   have:m.drop l.length=[]:=List.drop_eq_nil_of_le (by omega)
   rw[this]at hc
   exact a0c rfl ⟨rfl,by rw[<-hc];rfl⟩
theorem b8t (hu:SI H u l) (hv:SI H v m):Asks prog 49 [u,v] H (ii (a2W l m)):=by
 refine a0b mixed c1g (by kernel_rfl) rfl ?_
 refine a0P (c3p hu hv) rfl ?_
 simp only[cA,nA]
 exact a0c rfl ⟨rfl,rfl⟩
theorem b8u:a4B prog 49=true:=by kernel_rfl
end
section
variable {B H:PH} {v:Value} {l:List Slc} {cont:Slc->List Int}
theorem c7e {α:Type} [Inhabited α] {enc:α->Value} (d:Array α) (c:Array Value) (h:d.size<=c.size):(putCells enc 0 d c).toList.take d.size=d.toList.map enc:=by
 apply List.ext_getElem?
 intro i
 by_cases hi:i<d.size
 ·rw[List.getElem?_take_of_lt hi,Array.getElem?_toList]
  unfold putCells
  rw[Array.getElem?_mapIdx,Array.getElem?_eq_getElem (by omega)]
  simp[hi]
 ·rw[List.getElem?_eq_none (by simp;omega),List.getElem?_eq_none (by simp;omega)]
theorem c3q (hle:PH.le B H) (ho:SO B H 33 1 (fun s:Slc=>[vs s]) v l) (h0:l≠[]) (hl:l.length<4611686018427387904) (hp:∀s∈l,SI B (vs s) (cont s)):
  Con prog 48 [v,.func (.func 49) #[] #[]] H fun _ H'=>PH.le B H'/\∃m:List Slc,m.Perm l/\(m.map cont).Pairwise (fun a b=>¬a2W b a<0)/\SO B H' 33 1 (fun s:Slc=>[vs s]) v m:=by
 obtain⟨h1,⟨_,h2⟩|⟨g,cap,cur,rfl,hB,hH,hc1,hc2,hc3,hc4⟩⟩:=ho
 ·exact absurd (List.eq_nil_of_length_eq_zero h2) h0
 rw[Nat.mul_one]at hc3 hc4
 have hfm:∀k:List Slc,(k.flatMap fun s:Slc=>[vs s])=k.map vs:=fun k=>by
  induction k with
  |nil=>rfl
  |cons a k ih=>rw[List.flatMap_cons,ih];rfl
 rw[hfm]at hc4
 haveI:Inhabited {s:Slc//s∈l}:=⟨⟨l.head h0,List.head_mem h0⟩⟩
 have hds:l.attach.toArray.size=l.length:=by simp
 have hcon:=c3o (P:=prog) (ρ:=Tryz.srtL_ren) (α:={s:Slc//s∈l}) (enc:=fun x=>vs x.1) (H:=H) (B:=B) (blk:=g) (cur:=cur) (T:=33) (d:=l.attach.toArray) Tryz.srtL (fun _=>rfl) (d2s fun x:{s:Slc//s∈l}=>cont x.1) (g:=49) (cb:= #[]) (cap:=cap) b8u hH
  (by rw[hds,hc4,List.toList_toArray,show(fun x:{s:Slc//s∈l}=>vs x.1)=vs ∘ Subtype.val from rfl,<-List.map_map,List.attach_map_subtype_val]) (by omega) hle hB (fun x y=>(b8t (hp _ x.2) (hp _ y.2)).give)
 rw[hds]at hcon
 refine Con.mono hcon ?_
 rintro _ H' ⟨rfl,d',hs,hpm,hso,rfl⟩
 refine⟨fun k ob hk=> ?_,d'.toList.map (·.1),?_,?_,?_⟩
 ·rw[PH.put_ne _ _ (fun e=>by rw[e,hB]at hk;cases hk)];exact hle _ _ hk
 ·have:=hpm.map (·.1)
  rwa[List.toList_toArray,List.attach_map_subtype_val]at this
 ·rw[List.map_map,List.pairwise_map,List.pairwise_iff_getElem]
  intro i j hi hj hij
  have:=hso i j (Nat.zero_le _) hij (by simp at hj;omega)
  unfold ltOf at this
  rw[decide_eq_false_iff_not]at this
  rw[getElem!_pos d' i (by simpa using hi),getElem!_pos d' j (by simpa using hj)]at this
  simpa using this
 ·have hln:(d'.toList.map (·.1)).length=l.length:=by rw[List.length_map,Array.length_toList,hs]
  refine⟨by rw[hfm];simp,.inr ⟨g,cap,putCells (fun x:{s:Slc//s∈l}=>vs x.1) 0 d' cur,by rw[hln],hB,PH.put_self _ _ _,by rw[hln];exact hc1,hc2,by unfold putCells;rw[Array.size_mapIdx,hc3,Nat.mul_one],?_⟩⟩
  rw[hln,Nat.mul_one,hfm,List.map_map,<-hs,c7e d' cur (by omega)]
  rfl
end
end Go.Proofs.YtmannekkmdockaaGreatDoor

/- Concrete runs: the iterators over the edges of a set, and over the parts of a set. -/
import Derived.Test.YtkcjbfoejpfbbaaGreatDoorGaD
import Derived.Test.YtkcjbfoejpfbbaaGreatDoorGcA
import Derived.Test.YtkcjbfoejpfbbaaGreatDoorGmT
namespace Go.Proofs.YtkcjbfoejpfbbaaGreatDoor
open Go.Proofs.Tryz
open Go.RowKit Go.RX Go.GS
section
variable {H:PH}
theorem c2t:a4w prog 168=true:=by kernel_rfl
theorem c2u:a4w prog 233=true:=by kernel_rfl
def a1t (p:Nat):Nat:=p&&&((M64-p)%M64)
def d4A (rest b2Z:Nat):Nat->Nat->List Nat
 |0,_=>[]
 |n+1,part=>if part=0 then[]else((part-1)&&&rest|||b2Z)::d4A rest b2Z n ((part-1)&&&rest)
def c2v (p:Nat):List Nat:=d4A (sdf p (a1t p)) (a1t p) (sdf p (a1t p)+1) (sdf p (a1t p))
theorem c2w {p:Nat} (h:p<M64):a1t p<M64:=Nat.lt_of_le_of_lt Nat.and_le_left h
theorem sdf_lt {a b:Nat} (h:a<M64):sdf a b<M64:=Nat.xor_lt_two_pow (n:=64) h (Nat.lt_of_le_of_lt Nat.and_le_left h)
theorem c2x {b p:Nat} {Ro:PH} (hp:p<M64):ItC prog 233 [.pointer (some ⟨b,0,none⟩)] Ro (a6f b p) (fun pre xs=>∃y,(c2v p)[pre.length]? =some y/\xs=[uv y]) (fun xs _=>xs.length=(c2v p).length) (fun _ _=>True):=by
 intro l J Jx hRo hr X hX hd w hw
 refine(a0r (H:=X.or (a6f b p)) (V:=fun _ H'=>∃X' K',PH.le (X'.or K') H'/\Disj X' K'/\((∃xs,xs.length=(c2v p).length/\J xs X')\/(∃pre,True/\Jx pre X'))) a0n b4H (by kernel_rfl) rfl ?_ w hw).mono fun e w' ⟨v,H',he,hst,hV⟩=>⟨v,H',he,hst,hV⟩
 have hb:=PH.or_right hd (a4R b p)
 have hL:=c2w hp
 have hR:sdf p (a1t p)<M64:=sdf_lt hp
 refine a0D a2K rfl rfl hb rfl rfl ?_
 refine a0D a2K rfl rfl hb rfl rfl ?_
 refine a0a ?_
 refine a0a ?_
 refine a0D a2K rfl rfl hb rfl rfl ?_
 refine a0a ?_
 refine a0i (α:=Nat×Nat×List Nat×PH) (fun a=>[uv a.1]) (fun a H'=>a.1<M64/\a.1<a.2.1/\H'=a.2.2.2.or (a6f b p)/\Disj a.2.2.2 (a6f b p)/\a.2.2.1++d4A (sdf p (a1t p)) (a1t p) a.2.1 a.1=c2v p/\J (a.2.2.1.map fun y:Nat=>[uv y]) a.2.2.2) (fun a=>a.2.1) (sdf p (a1t p),sdf p (a1t p)+1,[],X)
  (a2S (b0V rfl (a2H rfl (a8d rfl hp) hp (Nat.mod_lt _ (by decide))) hp hL)) ⟨hR,Nat.lt_succ_self _,rfl,hd,rfl,hX⟩ fun a H' hQ=> ?_
 obtain⟨part,fu,pre,X'⟩:=a
 obtain⟨h1,h2,rfl,hd',hpre,hJ⟩:=hQ
 simp only at h1 h2 hd' hpre hJ
 simp only[cA,nA]
 refine a0a ?_
 obtain⟨fu,rfl⟩:∃m,fu=m+1:=⟨fu-1,by omega⟩
 refine a0o (p:=(part≠0)) (bN0 part) (fun h=> ?_) fun h=> ?_
 ·simp only[d4A,if_neg h]at hpre
  have hq:(part-1)&&&sdf p (a1t p)<M64:=Nat.lt_of_le_of_lt Nat.and_le_right hR
  have hle:(part-1)&&&sdf p (a1t p)<=part-1:=Nat.and_le_left
  have dL:∀{ρ:List Value},D prog ρ (.v 2)=uv p->D prog ρ (.v 3)=uv p->D prog ρ (.op2 .and .u64 (.v 2) (.op1 .neg .u64 (.v 3)))=uv (a1t p):=fun h2 h3=>a2H h2 (a8d h3 hp) hp (Nat.mod_lt _ (by decide))
  have dR:∀{ρ:List Value},D prog ρ (.v 2)=uv p->D prog ρ (.v 3)=uv p->D prog ρ (.v 4)=uv p->D prog ρ (.op2 .andNot .u64 (.v 4) (.op2 .and .u64 (.v 2) (.op1 .neg .u64 (.v 3))))=uv (sdf p (a1t p)):=fun h2 h3 h4=>b0V h4 (dL h2 h3) hp hL
  have dQ:∀{ρ:List Value},D prog ρ (.v 2)=uv p->D prog ρ (.v 3)=uv p->D prog ρ (.v 4)=uv p->D prog ρ (.v 5)=uv part->D prog ρ (.op2 .and .u64 (.op2 .sub .u64 (.v 5) (.k (.int .u64 1))) (.op2 .andNot .u64 (.v 4) (.op2 .and .u64 (.v 2) (.op1 .neg .u64 (.v 3)))))=uv ((part-1)&&&sdf p (a1t p)):=fun h2 h3 h4 h5=>a2H (a8c (B:=1) h5 rfl h1 (by omega)) (dR h2 h3 h4) (by omega) hR
  refine a3o (hr _ [uv ((part-1)&&&sdf p (a1t p)|||a1t p)] X' (a6f b p) ⟨_,by rw[<-hpre,List.length_map,List.getElem?_append_right (Nat.le_refl _),Nat.sub_self];rfl,rfl⟩ hJ hd') rfl rfl rfl (a0F rfl (a4q (dQ rfl rfl rfl rfl) (dL rfl rfl) hq hL)) rfl fun v X2 hd2 hV=> ?_
  obtain⟨bb,rfl,hb1,hb2⟩:∃bb,v= .bool bb/\(bb=true->J ((pre.map fun y:Nat=>[uv y])++[[uv ((part-1)&&&sdf p (a1t p)|||a1t p)]]) X2)/\(bb=false->Jx ((pre.map fun y:Nat=>[uv y])++[[uv ((part-1)&&&sdf p (a1t p)|||a1t p)]]) X2):=by
   rcases hV with⟨rfl,h⟩|⟨rfl,h⟩
   ·exact⟨true,rfl,fun _=>h,(fun h=>nomatch h)⟩
   ·exact⟨false,rfl,(fun h=>nomatch h),fun _=>h⟩
  refine a0a ?_
  refine a0e (b:= !bb) rfl (fun hbb=> ?_) (fun hbb=> ?_)
  ·exact a0b rfl ⟨X2,a6f b p,PH.le.refl _,hd2,.inr ⟨_,trivial,hb2 (by simpa using hbb)⟩⟩
  ·exact⟨((part-1)&&&sdf p (a1t p),fu,pre++[(part-1)&&&sdf p (a1t p)|||a1t p],X2),Nat.lt_succ_self _,a2S (dQ rfl rfl rfl rfl),⟨hq,by show(part-1)&&&sdf p (a1t p)<fu;omega,rfl,hd2,by rw[List.append_assoc];exact hpre,by rw[List.map_append];exact hb1 (by simpa using hbb)⟩⟩
 ·have h0:part=0:=by omega
  subst h0
  simp only[d4A,if_true,List.append_nil]at hpre
  exact a0b rfl ⟨X',a6f b p,PH.le.refl _,hd',.inl ⟨_,by rw[List.length_map,hpre],hJ⟩⟩
theorem d4B:FA prog 38 1 1:=⟨by kernel_rfl,of_decide_eq_true (by kernel_rfl),by kernel_rfl,by kernel_rfl,of_decide_eq_true (by kernel_rfl)⟩
theorem d4C:Sc prog 36:=⟨by kernel_rfl,by kernel_rfl,by kernel_rfl⟩
def c2y (set:Nat):Nat->List (Nat×Nat)->List (Nat×(Nat×Nat))
 |_,[]=>[]
 |i,e::r=>if(bit set e.1&&bit set e.2)=true then(i,e)::c2y set (i+1) r else c2y set (i+1) r
def c4W (b j:Nat) (x v:Value) (T:TypeId) (s:Nat):PH:=(PH.nil.put b (.cells #[x,v] T (0,0))).put j (.cells #[uv s] 34 (0,0))
theorem c2z {b j s:Nat} {x v:Value} {T:TypeId} {es:List (Nat×Nat)} {Ro:PH} (hs:s<M64) (hbj:b≠j) (he:∀e∈es,e.1<=64/\e.2<=64) (hes:es.length<=1000000) (hv:SE Ro 2 (fun e:Nat×Nat=>[ii (e.1:Nat),ii (e.2:Nat)]) v es) (hvc:v.cells= #[v]):
  ItC prog 168 [.pointer (some ⟨b,0,none⟩),.pointer (some ⟨j,0,none⟩)] Ro (c4W b j x v T s) (fun pre xs=>∃y,(c2y s 0 es)[pre.length]? =some y/\xs=[ii (y.1:Nat),ev2 y.2]) (fun xs _=>xs.length=(c2y s 0 es).length) (fun _ _=>True):=by
 intro l J Jx hRo hr X hX hd w hw
 refine(a0r (H:=X.or (c4W b j x v T s)) (V:=fun _ H'=>∃X' K',PH.le (X'.or K') H'/\Disj X' K'/\((∃xs,xs.length=(c2y s 0 es).length/\J xs X')\/(∃pre,True/\Jx pre X'))) a0n b4X (by kernel_rfl) rfl ?_ w hw).mono fun e w' ⟨v,H',he,hst,hV⟩=>⟨v,H',he,hst,hV⟩
 have kb:c4W b j x v T s b=some (.cells #[x,v] T (0,0)):=by unfold c4W;rw[PH.put_ne _ _ hbj];exact PH.put_self _ _ _
 have kj:c4W b j x v T s j=some (.cells #[uv s] 34 (0,0)):=PH.put_self _ _ _
 have hb:=PH.or_right hd kb
 refine a0z d4B ?_
 refine a0D d4C rfl rfl hb (u:=v) (by rfl) rfl ?_
 have hsl:∀{pre X'},J pre X'->SE (X'.or (c4W b j x v T s)) 2 (fun e:Nat×Nat=>[ii (e.1:Nat),ii (e.2:Nat)]) v es:=fun hJ=>hv.mono ((hRo _ _ hJ).trans (PH.le_or _ _))
 refine a0p el_edge (hsl hX) ?_
 refine a0i (α:=Nat×List (Nat×Nat×Nat)×PH) (fun a=>[ii (a.1:Nat)]) (fun a H'=>a.1<=es.length/\H'=a.2.2.or (c4W b j x v T s)/\Disj a.2.2 (c4W b j x v T s)/\a.2.1++c2y s a.1 (es.drop a.1)=c2y s 0 es/\J (a.2.1.map fun y:Nat×Nat×Nat=>[ii (y.1:Int),ev2 y.2]) a.2.2) (fun a=>es.length-a.1) (0,[],X)
  rfl ⟨Nat.zero_le _,rfl,hd,rfl,hX⟩ fun a H' hQ=> ?_
 obtain⟨i,pre,X'⟩:=a
 obtain⟨hi,rfl,hd',hpre,hJ⟩:=hQ
 simp only at hi hd' hpre hJ
 simp only[cA,nA]
 refine a0a ?_
 refine a0a ?_
 refine a0e (b:=decide (((i:Nat):Int)<(es.length:Nat))) rfl (fun h=> ?_) (fun h=> ?_)
 ·replace h:=of_decide_eq_true h
  have hi':i<es.length:=by omega
  obtain⟨e,hx,hdx⟩:=a0q hi'
  obtain⟨he1,he2⟩:=he e (List.mem_of_getElem? hx)
  have hkj:=PH.or_right hd' kj
  refine a0t el_edge (hsl hJ) hx fun _=> ?_
  refine a0c (el_edge.vcells e) ?_
  refine a0D a2K rfl rfl hkj rfl rfl ?_
  refine a0s (b5b hs he1 he2) rfl ?_
  refine a0a ?_
  rw[hdx]at hpre
  refine a0e (b:=bit s e.1&&bit s e.2) rfl (fun hbit=> ?_) (fun hbit=> ?_)
  ·simp only[c2y,hbit,if_true]at hpre
   refine a3o (hr _ [ii (i:Nat),ev2 e] X' (c4W b j x v T s) ⟨(i,e),by rw[<-hpre,List.length_map,List.getElem?_append_right (Nat.le_refl _),Nat.sub_self];rfl,rfl⟩ hJ hd') rfl rfl rfl rfl rfl fun v2 X2 hd2 hV=> ?_
   obtain⟨bb,rfl,hb1,hb2⟩:∃bb,v2= .bool bb/\(bb=true->J ((pre.map fun y:Nat×Nat×Nat=>[ii (y.1:Int),ev2 y.2])++[[ii (i:Nat),ev2 e]]) X2)/\(bb=false->Jx ((pre.map fun y:Nat×Nat×Nat=>[ii (y.1:Int),ev2 y.2])++[[ii (i:Nat),ev2 e]]) X2):=by
    rcases hV with⟨rfl,h⟩|⟨rfl,h⟩
    ·exact⟨true,rfl,fun _=>h,(fun h=>nomatch h)⟩
    ·exact⟨false,rfl,(fun h=>nomatch h),fun _=>h⟩
   refine a0a ?_
   refine a0e (b:= !bb) rfl (fun hbb=> ?_) (fun hbb=> ?_)
   ·exact a0b rfl ⟨X2,_,PH.le.refl _,hd2,.inr ⟨_,trivial,hb2 (by simpa using hbb)⟩⟩
   ·exact⟨(i+1,pre++[(i,e)],X2),by show es.length-(i+1)<es.length-i;omega,a2S (a0k rfl (by omega)),⟨by show i+1<=es.length;omega,rfl,hd2,by rw[List.append_assoc];exact hpre,by rw[List.map_append];exact hb1 (by simpa using hbb)⟩⟩
  ·simp only[c2y,hbit]at hpre
   exact⟨(i+1,pre,X'),by show es.length-(i+1)<es.length-i;omega,a2S (a0k rfl (by omega)),⟨by show i+1<=es.length;omega,rfl,hd',by simpa using hpre,hJ⟩⟩
 ·replace h:=of_decide_eq_false h
  rw[List.drop_eq_nil_of_le (by omega)]at hpre
  simp only[c2y,List.append_nil]at hpre
  exact a0b rfl ⟨X',_,PH.le.refl _,hd',.inl ⟨_,by rw[List.length_map,hpre],hJ⟩⟩
end
end Go.Proofs.YtkcjbfoejpfbbaaGreatDoor

/- Concrete runs: the iterators over the edges of a set, and over the parts of a set. -/
import Derived.Test.YtkcjbfoejpfbbaaGreatDoorGaD
import Derived.Test.YtkcjbfoejpfbbaaGreatDoorGcA
import Derived.Test.YtkcjbfoejpfbbaaGreatDoorGmT
namespace Go.Proofs.YtkcjbfoejpfbbaaGreatDoor
open Go.Proofs.Tryz
open Go.RowKit Go.RX Go.GS
section
variable {H:PH}
theorem a4y:a7q prog 168=true:=by kernel_rfl
theorem c0R:a7q prog 233=true:=by kernel_rfl
def a1g (p:Nat):Nat:=p&&&((M64-p)%M64)
def d3C (rest b2x:Nat):Nat->Nat->List Nat
 |0,_=>[]
 |n+1,part=>if part=0 then[]else((part-1)&&&rest|||b2x)::d3C rest b2x n ((part-1)&&&rest)
def c0S (p:Nat):List Nat:=d3C (sdf p (a1g p)) (a1g p) (sdf p (a1g p)+1) (sdf p (a1g p))
theorem c0T {p:Nat} (h:p<M64):a1g p<M64:=Nat.lt_of_le_of_lt Nat.and_le_left h
theorem sdf_lt {a b:Nat} (h:a<M64):sdf a b<M64:=Nat.xor_lt_two_pow (n:=64) h (Nat.lt_of_le_of_lt Nat.and_le_left h)
theorem c0U {b p:Nat} {Ro:PH} (hp:p<M64):ItC prog 233 [.pointer (some ⟨b,0,none⟩)] Ro (a5M b p) (fun pre xs=>∃y,(c0S p)[pre.length]? =some y/\xs=[uv y]) (fun xs _=>xs.length=(c0S p).length) (fun _ _=>True):=by
 intro l J Jx hRo hr X hX hd w hw
 refine(a0d (H:=X.or (a5M b p)) (V:=fun _ H'=>∃X' K',PH.le (X'.or K') H'/\Disj X' K'/\((∃xs,xs.length=(c0S p).length/\J xs X')\/(∃pre,True/\Jx pre X'))) a0r b4n (by kernel_rfl) rfl ?_ w hw).mono fun e w' ⟨v,H',he,hst,hV⟩=>⟨v,H',he,hst,hV⟩
 have hb:=PH.or_right hd (a4w b p)
 have hL:=c0T hp
 have hR:sdf p (a1g p)<M64:=sdf_lt hp
 refine a0C a2C rfl rfl hb rfl rfl ?_
 simp only[cA,nA]
 refine a0C a2C rfl rfl hb rfl rfl ?_
 simp only[cA,nA]
 refine a0a ⟨_,rfl⟩ ?_
 refine a0a ⟨_,rfl⟩ ?_
 refine a0C a2C rfl rfl hb rfl rfl ?_
 simp only[cA,nA]
 refine a0a ⟨_,rfl⟩ ?_
 refine a0n (α:=Nat×Nat×List Nat×PH) (fun a=>[uv a.1]) (fun a H'=>a.1<M64/\a.1<a.2.1/\H'=a.2.2.2.or (a5M b p)/\Disj a.2.2.2 (a5M b p)/\a.2.2.1++d3C (sdf p (a1g p)) (a1g p) a.2.1 a.1=c0S p/\J (a.2.2.1.map fun y:Nat=>[uv y]) a.2.2.2) (fun a=>a.2.1) (sdf p (a1g p),sdf p (a1g p)+1,[],X)
  (a5E (b3n rfl (a3T rfl (b7C rfl hp) hp (Nat.mod_lt _ (by decide))) hp hL)) ⟨hR,Nat.lt_succ_self _,rfl,hd,rfl,hX⟩ fun a H' hQ=> ?_
 obtain⟨part,fu,pre,X'⟩:=a
 obtain⟨h1,h2,rfl,hd',hpre,hJ⟩:=hQ
 simp only at h1 h2 hd' hpre hJ
 simp only[cA,nA]
 refine a0a ⟨_,rfl⟩ ?_
 obtain⟨fu,rfl⟩:∃m,fu=m+1:=⟨fu-1,by omega⟩
 refine a0e (b:=decide (part≠0)) (bN0 part) (fun h=> ?_) (fun h=> ?_)
 ·replace h:=of_decide_eq_true h
  simp only[d3C,if_neg h]at hpre
  have hq:(part-1)&&&sdf p (a1g p)<M64:=Nat.lt_of_le_of_lt Nat.and_le_right hR
  have hle:(part-1)&&&sdf p (a1g p)<=part-1:=Nat.and_le_left
  have dL:∀{ρ:List Value},D prog ρ (.v 2)=uv p->D prog ρ (.v 3)=uv p->D prog ρ (.op2 .and .u64 (.v 2) (.op1 .neg .u64 (.v 3)))=uv (a1g p):=fun h2 h3=>a3T h2 (b7C h3 hp) hp (Nat.mod_lt _ (by decide))
  have dR:∀{ρ:List Value},D prog ρ (.v 2)=uv p->D prog ρ (.v 3)=uv p->D prog ρ (.v 4)=uv p->D prog ρ (.op2 .andNot .u64 (.v 4) (.op2 .and .u64 (.v 2) (.op1 .neg .u64 (.v 3))))=uv (sdf p (a1g p)):=fun h2 h3 h4=>b3n h4 (dL h2 h3) hp hL
  have dQ:∀{ρ:List Value},D prog ρ (.v 2)=uv p->D prog ρ (.v 3)=uv p->D prog ρ (.v 4)=uv p->D prog ρ (.v 5)=uv part->D prog ρ (.op2 .and .u64 (.op2 .sub .u64 (.v 5) (.k (.int .u64 1))) (.op2 .andNot .u64 (.v 4) (.op2 .and .u64 (.v 2) (.op1 .neg .u64 (.v 3)))))=uv ((part-1)&&&sdf p (a1g p)):=fun h2 h3 h4 h5=>a3T (b0f (B:=1) h5 rfl h1 (by omega)) (dR h2 h3 h4) (by omega) hR
  refine a6t (hr _ [uv ((part-1)&&&sdf p (a1g p)|||a1g p)] X' (a5M b p) ⟨_,by rw[<-hpre,List.length_map,List.getElem?_append_right (Nat.le_refl _),Nat.sub_self];rfl,rfl⟩ hJ hd') rfl rfl rfl (a1s rfl (a9y (dQ rfl rfl rfl rfl) (dL rfl rfl) hq hL)) rfl fun v X2 hd2 hV=> ?_
  simp only[cA,nA]
  obtain⟨bb,rfl,hb1,hb2⟩:∃bb,v= .bool bb/\(bb=true->J ((pre.map fun y:Nat=>[uv y])++[[uv ((part-1)&&&sdf p (a1g p)|||a1g p)]]) X2)/\(bb=false->Jx ((pre.map fun y:Nat=>[uv y])++[[uv ((part-1)&&&sdf p (a1g p)|||a1g p)]]) X2):=by
   rcases hV with⟨rfl,h⟩|⟨rfl,h⟩
   ·exact⟨true,rfl,fun _=>h,(fun h=>nomatch h)⟩
   ·exact⟨false,rfl,(fun h=>nomatch h),fun _=>h⟩
  refine a0a ⟨_,rfl⟩ ?_
  refine a0e (b:= !bb) rfl (fun hbb=> ?_) (fun hbb=> ?_)
  ·exact a0f rfl ⟨X2,a5M b p,PH.le.refl _,hd2,.inr ⟨_,trivial,hb2 (by simpa using hbb)⟩⟩
  ·exact⟨((part-1)&&&sdf p (a1g p),fu,pre++[(part-1)&&&sdf p (a1g p)|||a1g p],X2),Nat.lt_succ_self _,a5E (dQ rfl rfl rfl rfl),⟨hq,by show(part-1)&&&sdf p (a1g p)<fu;omega,rfl,hd2,by rw[List.append_assoc];exact hpre,by rw[List.map_append];exact hb1 (by simpa using hbb)⟩⟩
 ·replace h:=of_decide_eq_false h
  have h0:part=0:=by omega
  subst h0
  simp only[d3C,if_true,List.append_nil]at hpre
  exact a0f rfl ⟨X',a5M b p,PH.le.refl _,hd',.inl ⟨_,by rw[List.length_map,hpre],hJ⟩⟩
theorem d6d:FA prog 38 1 1:=⟨by kernel_rfl,of_decide_eq_true (by kernel_rfl),by kernel_rfl,by kernel_rfl,of_decide_eq_true (by kernel_rfl)⟩
theorem d6e:Sc prog 36:=⟨by kernel_rfl,by kernel_rfl,by kernel_rfl⟩
def a1A (set:Nat):Nat->List (Nat×Nat)->List (Nat×(Nat×Nat))
 |_,[]=>[]
 |i,e::r=>if(bit set e.1&&bit set e.2)=true then(i,e)::a1A set (i+1) r else a1A set (i+1) r
def b1x (b j:Nat) (x v:Value) (T:TypeId) (s:Nat):PH:=(PH.nil.put b (.cells #[x,v] T (0,0))).put j (.cells #[uv s] 34 (0,0))
theorem a4z {b j s:Nat} {x v:Value} {T:TypeId} {es:List (Nat×Nat)} {Ro:PH} (hs:s<M64) (hbj:b≠j) (he:∀e∈es,e.1<=64/\e.2<=64) (hes:es.length<=1000000) (hv:SE Ro 2 (fun e:Nat×Nat=>[ii (e.1:Nat),ii (e.2:Nat)]) v es) (hvc:v.cells= #[v]):
  ItC prog 168 [.pointer (some ⟨b,0,none⟩),.pointer (some ⟨j,0,none⟩)] Ro (b1x b j x v T s) (fun pre xs=>∃y,(a1A s 0 es)[pre.length]? =some y/\xs=[ii (y.1:Nat),ev2 y.2]) (fun xs _=>xs.length=(a1A s 0 es).length) (fun _ _=>True):=by
 intro l J Jx hRo hr X hX hd w hw
 refine(a0d (H:=X.or (b1x b j x v T s)) (V:=fun _ H'=>∃X' K',PH.le (X'.or K') H'/\Disj X' K'/\((∃xs,xs.length=(a1A s 0 es).length/\J xs X')\/(∃pre,True/\Jx pre X'))) a0r b4u (by kernel_rfl) rfl ?_ w hw).mono fun e w' ⟨v,H',he,hst,hV⟩=>⟨v,H',he,hst,hV⟩
 have kb:b1x b j x v T s b=some (.cells #[x,v] T (0,0)):=by unfold b1x;rw[PH.put_ne _ _ hbj];exact PH.put_self _ _ _
 have kj:b1x b j x v T s j=some (.cells #[uv s] 34 (0,0)):=PH.put_self _ _ _
 have hb:=PH.or_right hd kb
 refine a5p d6d rfl rfl rfl ?_
 simp only[cA,nA]
 refine a0C d6e rfl rfl hb (u:=v) (by rfl) rfl ?_
 simp only[cA,nA]
 have hsl:∀{pre X'},J pre X'->SE (X'.or (b1x b j x v T s)) 2 (fun e:Nat×Nat=>[ii (e.1:Nat),ii (e.2:Nat)]) v es:=fun hJ=>hv.mono ((hRo _ _ hJ).trans (PH.le_or _ _))
 refine a0j el_edge rfl rfl (hsl hX) rfl ?_
 refine a0n (α:=Nat×List (Nat×Nat×Nat)×PH) (fun a=>[ii (a.1:Nat)]) (fun a H'=>a.1<=es.length/\H'=a.2.2.or (b1x b j x v T s)/\Disj a.2.2 (b1x b j x v T s)/\a.2.1++a1A s a.1 (es.drop a.1)=a1A s 0 es/\J (a.2.1.map fun y:Nat×Nat×Nat=>[ii (y.1:Int),ev2 y.2]) a.2.2) (fun a=>es.length-a.1) (0,[],X)
  rfl ⟨Nat.zero_le _,rfl,hd,rfl,hX⟩ fun a H' hQ=> ?_
 obtain⟨i,pre,X'⟩:=a
 obtain⟨hi,rfl,hd',hpre,hJ⟩:=hQ
 simp only at hi hd' hpre hJ
 simp only[cA,nA]
 refine a0a ⟨_,rfl⟩ ?_
 refine a0a ⟨_,rfl⟩ ?_
 refine a0e (b:=decide (((i:Nat):Int)<(es.length:Nat))) rfl (fun h=> ?_) (fun h=> ?_)
 ·replace h:=of_decide_eq_true h
  have hi':i<es.length:=by omega
  obtain⟨e,hx,hdx⟩:=a1j hi'
  obtain⟨he1,he2⟩:=he e (List.mem_of_getElem? hx)
  have hkj:=PH.or_right hd' kj
  refine a0k el_edge rfl rfl rfl rfl (fun _=>rfl) (hsl hJ) hx rfl (fun _=>rfl) fun _=> ?_
  simp only[cA,nA]
  refine a0a (el_edge.vcells e) ?_
  refine a0C a2C rfl rfl hkj rfl rfl ?_
  simp only[cA,nA]
  refine a1e (b4A hs he1 he2) rfl ?_
  simp only[cA,nA]
  refine a0a ⟨_,rfl⟩ ?_
  rw[hdx]at hpre
  refine a0e (b:=bit s e.1&&bit s e.2) rfl (fun hbit=> ?_) (fun hbit=> ?_)
  ·simp only[a1A,hbit,if_true]at hpre
   refine a6t (hr _ [ii (i:Nat),ev2 e] X' (b1x b j x v T s) ⟨(i,e),by rw[<-hpre,List.length_map,List.getElem?_append_right (Nat.le_refl _),Nat.sub_self];rfl,rfl⟩ hJ hd') rfl rfl rfl rfl rfl fun v2 X2 hd2 hV=> ?_
   simp only[cA,nA]
   obtain⟨bb,rfl,hb1,hb2⟩:∃bb,v2= .bool bb/\(bb=true->J ((pre.map fun y:Nat×Nat×Nat=>[ii (y.1:Int),ev2 y.2])++[[ii (i:Nat),ev2 e]]) X2)/\(bb=false->Jx ((pre.map fun y:Nat×Nat×Nat=>[ii (y.1:Int),ev2 y.2])++[[ii (i:Nat),ev2 e]]) X2):=by
    rcases hV with⟨rfl,h⟩|⟨rfl,h⟩
    ·exact⟨true,rfl,fun _=>h,(fun h=>nomatch h)⟩
    ·exact⟨false,rfl,(fun h=>nomatch h),fun _=>h⟩
   refine a0a ⟨_,rfl⟩ ?_
   refine a0e (b:= !bb) rfl (fun hbb=> ?_) (fun hbb=> ?_)
   ·exact a0f rfl ⟨X2,_,PH.le.refl _,hd2,.inr ⟨_,trivial,hb2 (by simpa using hbb)⟩⟩
   ·exact⟨(i+1,pre++[(i,e)],X2),by show es.length-(i+1)<es.length-i;omega,a5E (a0x rfl (by omega)),⟨by show i+1<=es.length;omega,rfl,hd2,by rw[List.append_assoc];exact hpre,by rw[List.map_append];exact hb1 (by simpa using hbb)⟩⟩
  ·simp only[a1A,hbit]at hpre
   exact⟨(i+1,pre,X'),by show es.length-(i+1)<es.length-i;omega,a5E (a0x rfl (by omega)),⟨by show i+1<=es.length;omega,rfl,hd',by simpa using hpre,hJ⟩⟩
 ·replace h:=of_decide_eq_false h
  rw[List.drop_eq_nil_of_le (by omega)]at hpre
  simp only[a1A,List.append_nil]at hpre
  exact a0f rfl ⟨X',_,PH.le.refl _,hd',.inl ⟨_,by rw[List.length_map,hpre],hJ⟩⟩
end
end Go.Proofs.YtkcjbfoejpfbbaaGreatDoor

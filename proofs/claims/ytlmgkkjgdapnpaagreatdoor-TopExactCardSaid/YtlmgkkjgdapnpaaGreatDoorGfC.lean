/- Balance: totals, checks. -/
import Derived.Test.YtlmgkkjgdapnpaaGreatDoorGfA
import Derived.Test.YtlmgkkjgdapnpaaGreatDoorRxU
import Derived.Test.YtlmgkkjgdapnpaaGreatDoorRxK
import Derived.Test.YtlmgkkjgdapnpaaGreatDoorGjT
namespace Go.RX
open Go.RowKit Go.RZ
theorem b4T {P:Program} {H:PH} {o:Oper} {x:Operand} {kt et t:TypeId} {κ:Type} {ok:κ->Prop} {ke:κ->Value} {vs:List Value} {m:Value} {L:List (κ×Value)} (ho:o.op= .call ⟨.builtin .len,#[x],#[t]⟩) (hx:a0k [x] vs x=m) (hu:P.underlying t=some (.map kt et)) (h:MK ok ke H m L):Rds P o vs H (.int .i64 (L.length:Nat)):=by
 obtain⟨r,es,clock,rfl,hH,_,rfl⟩:=h
 have:=c5L (P:=P) ho hx hu hH
 have e:(eN ke es).toArray.size=(kvN es).length:=by simp[eN,kvN]
 rw[e]at this
 exact this
end Go.RX
namespace Go.GS
structure PlOk (n k:Nat) (p:List Int):Prop where
 len:p.length=n
 lab:∀x∈p,0<=x/\x<(k:Nat)
 all:∀d,d<k->((d:Nat):Int)∈p
def a0V (f:Un->Int) (us:List Un) (p:List Int):Nat->Nat->Int
 |0,_=>0
 |i+1,d=>a0V f us p i d+(match p[i]?,us[i]? with|some x,some u=>if x=(d:Nat)then f u else 0|_,_=>0)
def a2j (f:Un->Int) (us:List Un) (p:List Int) (k i:Nat):List Int:=(List.range k).map (a0V f us p i)
theorem a1P {f:Un->Int} {us:List Un} {p:List Int} {k i:Nat}:(a2j f us p k i).length=k:=by simp[a2j]
theorem a1V {f:Un->Int} {us:List Un} {p:List Int} {k i d:Nat} (h:d<k):(a2j f us p k i)[d]? =some (a0V f us p i d):=by
 unfold a2j;rw[List.getElem?_map,List.getElem?_range h];rfl
theorem b1W {f:Un->Int} {us:List Un} {p:List Int} {k:Nat}:a2j f us p k 0=List.replicate k 0:=by
 apply List.ext_getElem?
 intro d
 by_cases h:d<k
 ·rw[a1V h,List.getElem?_replicate,if_pos h];rfl
 ·rw[List.getElem?_eq_none (by rw[a1P];omega),List.getElem?_eq_none (by simp;omega)]
theorem b1X {f:Un->Int} {us:List Un} {p:List Int} {k i:Nat} {x:Nat} {u:Un} (hp:p[i]? =some ((x:Nat):Int)) (hu:us[i]? =some u):a2j f us p k (i+1)=(a2j f us p k i).set x (a0V f us p i x+f u):=by
 apply List.ext_getElem?
 intro d
 rw[List.getElem?_set]
 by_cases h:d<k
 ·rw[a1V h]
  show some (a0V f us p i d+_)=_
  rw[hp,hu]
  simp only
  by_cases e:x=d
  ·subst e;rw[if_pos rfl,if_pos rfl,if_pos (by rw[a1P];exact h)]
  ·rw[if_neg (by omega),if_neg e,a1V h,Int.add_zero]
 ·rw[List.getElem?_eq_none (by rw[a1P];omega)]
  split
  ·rename_i e
   rw[if_neg (by rw[a1P];omega)]
  ·rw[List.getElem?_eq_none (by rw[a1P];omega)]
theorem a9j {f:Un->Int} {us:List Un} {p:List Int} {M:Int} (h0:0<=M) (h:∀x∈us,0<=f x/\f x<=M) (d:Nat):∀i:Nat,0<=a0V f us p i d/\a0V f us p i d<=(i:Nat)*M:=by
 intro i
 induction i with
 |zero=>exact⟨Int.le_refl _,by simp[a0V]⟩
 |succ i ih=>
  have e:a0V f us p (i+1) d=a0V f us p i d+(match p[i]?,us[i]? with|some x,some u=>if x=(d:Nat)then f u else 0|_,_=>0):=rfl
  have hb:0<=(match p[i]?,us[i]? with|some x,some u=>if x=(d:Nat)then f u else 0|_,_=>0)/\(match p[i]?,us[i]? with|some x,some u=>if x=(d:Nat)then f u else 0|_,_=>0)<=M:=by
   split
   ·rename_i x u h1 h2
    have:=h u (List.mem_of_getElem? h2)
    split<;>omega
   ·omega
  rw[e,Int.natCast_succ,Int.add_mul,Int.one_mul]
  omega
def a5B (us:List Un):Nat->Int
 |0=>0
 |i+1=>a5B us i+((us[i]?).map (·.ppl)).getD 0
theorem b1Y {us:List Un} (h:∀x∈us,UnV x):∀i:Nat,0<=a5B us i/\a5B us i<=(i:Nat)*1000000000:=by
 intro i
 induction i with
 |zero=>exact⟨Int.le_refl _,by simp[a5B]⟩
 |succ i ih=>
  have e:a5B us (i+1)=a5B us i+((us[i]?).map (·.ppl)).getD 0:=rfl
  have hb:0<=((us[i]?).map (·.ppl)).getD 0/\((us[i]?).map (·.ppl)).getD 0<=1000000000:=by
   cases hx:us[i]? with
   |none=>exact⟨Int.le_refl _,by decide⟩
   |some x=>
    have hv:=h x (List.mem_of_getElem? hx)
    have h1:=hv.p0
    have h2:=hv.p1
    show 0<=x.ppl/\x.ppl<=_
    split at h2<;>omega
  rw[e,Int.natCast_succ,Int.add_mul,Int.one_mul]
  omega
theorem c6p {κ:Type} {L:List (Int×κ)} {k:Nat} (hn:(L.map (·.1)).Nodup) (h1:∀x∈L.map (·.1),(0:Int)<=x/\x<((k:Nat):Int)) (h2:∀d,d<k->((d:Nat):Int)∈L.map (·.1)):L.length=k:=by
 have hp:(L.map fun p:Int×κ=>p.1).Perm ((List.range k).map fun d:Nat=>(d:Int)):=by
  rw[List.perm_ext_iff_of_nodup hn]
  ·intro x
   constructor
   ·intro hx
    obtain⟨a,b⟩:=h1 x hx
    exact List.mem_map.2 ⟨x.toNat,List.mem_range.2 (by omega),by omega⟩
   ·intro hx
    obtain⟨d,hd,rfl⟩:=List.mem_map.1 hx
    exact h2 d (List.mem_range.1 hd)
  ·exact List.pairwise_map.2 (List.nodup_range.imp fun h e=>h (by omega))
 have:=hp.length_eq
 simpa using this
end Go.GS
namespace Go.Proofs.YtlmgkkjgdapnpaaGreatDoor
open Go.Proofs.Tryz
open Go.RowKit Go.RX Go.GS
set_option maxRecDepth 100000
section
variable {H B:PH} {n k:Nat} {us:List Un} {w:Value} {u v:Value}
theorem c0D:Asks prog 190 [ii 0] H (.tuple #[]):=by
 refine a0b mixed d1I (by kernel_rfl) rfl ?_
 refine a0a ⟨_,rfl⟩ ?_
 refine a0e (bF (p:=(0:Int)≠0) (by simp)) ?_
 exact a0c rfl ⟨rfl,rfl⟩
theorem a4c (e:Int):Asks prog 191 [.bool false,ii e] H (.tuple #[]):=by
 refine a0b mixed d1J (by kernel_rfl) rfl ?_
 refine a0a ⟨_,rfl⟩ ?_
 refine a0e rfl ?_
 exact a0c rfl ⟨rfl,rfl⟩
def caB (w:Value) (k:Nat):Array Value:= #[ii 2,ii 3,ii 2,w,ii (k:Nat)]
def coV (w:Value) (k:Nat):Value:= .agg (caB w k)
theorem a8h (h:a3G w=true):(coV w k).cells.size=5/\a0p (coV w k).cells:=⟨rfl,fun c hc=>by
 simp[coV,caB,Value.cells]at hc
 rcases hc with rfl|rfl|rfl|rfl|rfl
 ·rfl
 ·rfl
 ·rfl
 ·exact h
 ·rfl⟩
theorem a8i (hr:RoR H w us) (hv:RoV n us) (hk:1<=k/\k<=8):a1g prog 132 [rov w,ii (k:Nat)] H (coV w k):=by
 refine a0b mixed d1K (by kernel_rfl) rfl ?_
 refine a0a (a1A hr.one) ?_
 refine a0h (a3k hr hv) rfl fun H1 l1=> ?_
 simp only[cA,nA]
 refine a0q (c0D) rfl ?_
 simp only[cA,nA]
 refine a0a ⟨_,rfl⟩ ?_
 refine a0e (bF (p:=((k:Nat):Int)<1) (by omega)) ?_
 refine a0q (a4c 2) (a0R (bF (p:=((k:Nat):Int)>8) (by omega)) rfl) ?_
 simp only[cA,nA]
 refine a0a (el_int.vcells _) ?_
 exact a0c rfl ⟨l1,rfl⟩
def b4U (b:Nat) (w:Value) (k:Nat):PH:=PH.nil.put b (.cells (caB w k) 240 (0,0))
theorem c0E (b:Nat) (w:Value) (k:Nat):b4U b w k b=some (.cells (caB w k) 240 (0,0)):=PH.put_self _ _ _
theorem a8j {X:PH} {b:Nat} (h:X b=none):Disj X (b4U b w k):=b0e (a5p X) h
theorem a8k:a1q prog 231=true:=by kernel_rfl
theorem b0t (hw:a3G w=true):Con prog 193 [coV w k] H fun u H'=>∃b,H b=none/\H'=H.or (b4U b w k)/\u= .func (.func 231) #[] #[.pointer (some ⟨b,0,none⟩)]:=by
 refine a0b mixed d1L (by kernel_rfl) rfl ?_
 refine a0a (a8h hw) ?_
 refine a0A (cs:=caB w k) rfl fun b hb=> ?_
 simp only[cA,nA]
 refine a0O (a0z (vs:=[.pointer (some ⟨b,0,none⟩)]) rfl rfl) rfl ?_
 simp only[cA,nA]
 exact a0c rfl ⟨b,hb,PH.put_or hb,rfl⟩
theorem d5b:FA prog 240 0 0:=⟨by kernel_rfl,of_decide_eq_true (by kernel_rfl),by kernel_rfl,by kernel_rfl,of_decide_eq_true (by kernel_rfl)⟩
theorem c0F:FA prog 35 3 3:=⟨by kernel_rfl,of_decide_eq_true (by kernel_rfl),by kernel_rfl,by kernel_rfl,of_decide_eq_true (by kernel_rfl)⟩
theorem c0G:Sc prog 33:=⟨by kernel_rfl,by kernel_rfl,by kernel_rfl⟩
theorem b0u {b:Nat} {Ro:PH} (hr:RoR Ro w us) (hv:RoV n us):ItC prog 231 [.pointer (some ⟨b,0,none⟩)] Ro (b4U b w k) (fun pre xs=>∃u x,us[pre.length]? =some x/\pre.length<n/\UnR Ro u x/\xs=[ii (pre.length:Nat),veU u]) (fun xs _=>xs.length=n) (fun _ _=>True):=by
 intro l J Jx hRo hY X hX hd w' hw'
 refine(a0b (H:=X.or (b4U b w k)) (V:=fun _ H'=>∃X' K',PH.le (X'.or K') H'/\Disj X' K'/\((∃xs,xs.length=n/\J xs X')\/(∃pre,True/\Jx pre X'))) mixed c6i (by kernel_rfl) rfl ?_ w' hw').mono fun e w' ⟨v,H',he,hst,hV⟩=>⟨v,H',he,hst,hV⟩
 have hb:=PH.or_right hd (c0E b w k)
 obtain⟨ul,hwu,hlen,hun⟩:=hr
 have hle:=hv.le
 have h64:=hv.l64
 refine a0i d5b rfl rfl rfl ?_
 simp only[cA,nA]
 refine a0i c0F rfl rfl rfl ?_
 simp only[cA,nA]
 refine a0g c0G rfl rfl hb rfl rfl ?_
 simp only[cA,nA]
 refine a0j a0U rfl rfl (hwu.mono ((hRo _ _ hX).trans (PH.le_or _ _))) rfl ?_
 simp only[cA,nA]
 refine a0o (α:=Nat×List (List Value)×PH) (fun⟨i,pre,X'⟩=>[ii (i:Nat)]) (fun⟨i,pre,X'⟩=>fun H'=>i<=n/\H'=X'.or (b4U b w k)/\Disj X' (b4U b w k)/\pre.length=i/\J pre X') (fun⟨i,pre,X'⟩=>us.length-i) ((0,[],X)) rfl (⟨Nat.zero_le _,rfl,hd,rfl,hX⟩) fun⟨i,pre,X'⟩ H' hQ=> ?_
 simp only[cA,nA]
 obtain⟨hi,rfl,hd',hpre,hJ⟩:=hQ
 refine a0a ⟨_,rfl⟩ ?_
 refine a0a ⟨_,rfl⟩ ?_
 refine a0f (b:=decide (((i:Nat):Int)<(ul.length:Nat))) rfl (fun h=> ?_) (fun h=> ?_)
 ·replace h:=of_decide_eq_true h
  have hiu:i<ul.length:=by omega
  obtain⟨u,hu,_⟩:=a0t hiu
  obtain⟨x,hx,_⟩:=a0t (show i<us.length by omega)
  have hR:=hun i u x hu hx
  have hwt:u.wat=decide (n<=i):=hR.wat.trans (hv.wat i x hx)
  refine a0m a0U rfl rfl rfl rfl (fun _=>rfl) (hwu.mono ((hRo _ _ hJ).trans (PH.le_or _ _))) hu rfl (fun _=>rfl) fun _=> ?_
  simp only[cA,nA]
  refine a0a (a1O u) ?_
  refine a0a ⟨_,rfl⟩ ?_
  refine a0f (b:=u.wat) rfl (fun hb2=> ?_) (fun hb2=> ?_)
  ·skip
   have hni:n<=i:=by rw[hwt]at hb2;exact of_decide_eq_true hb2
   exact a0c rfl ⟨X',b4U b w k,PH.le.refl _,hd',.inl ⟨pre,by omega,hJ⟩⟩
  ·skip
   have hni:¬n<=i:=by rw[hwt]at hb2;exact of_decide_eq_false hb2
   refine a3X (hY _ [ii (i:Nat),veU u] X' (b4U b w k) ⟨u,x,by rw[hpre];exact hx,by omega,hR,by rw[hpre]⟩ hJ hd') rfl rfl rfl rfl rfl fun v X2 hd2 hV=> ?_
   simp only[cA,nA]
   obtain⟨bb,rfl,hb1,hb3⟩:∃bb,v= .bool bb/\(bb=true->J (pre++[[ii (i:Nat),veU u]]) X2)/\(bb=false->Jx (pre++[[ii (i:Nat),veU u]]) X2):=by
    rcases hV with⟨rfl,h⟩|⟨rfl,h⟩
    ·exact⟨true,rfl,fun _=>h,(fun h=>nomatch h)⟩
    ·exact⟨false,rfl,(fun h=>nomatch h),fun _=>h⟩
   refine a0a ⟨_,rfl⟩ ?_
   refine a0f (b:= !bb) rfl (fun hbb=> ?_) (fun hbb=> ?_)
   ·skip
    exact a0c rfl ⟨X2,b4U b w k,PH.le.refl _,hd2,.inr ⟨_,trivial,hb3 (by simpa using hbb)⟩⟩
   ·skip
    exact⟨(i+1,pre++[[ii (i:Nat),veU u]],X2),by show us.length-(i+1)<us.length-i;omega,(a1R (a0J rfl (by omega))),⟨by show i+1<=n;omega,rfl,hd2,by rw[List.length_append];simp;omega,hb1 (by simpa using hbb)⟩⟩
 ·replace h:=of_decide_eq_false h
  exact a0c rfl ⟨X',b4U b w k,PH.le.refl _,hd',.inl ⟨pre,by omega,hJ⟩⟩
theorem c0H (hr:RoR H w us) (hv:RoV n us):a1g prog 234 [coV w k] H (ii (a5B us n)):=by
 refine a0b mixed d1M (by kernel_rfl) rfl ?_
 have hle:=hv.le
 have h64:=hv.l64
 refine a0a (a8h hr.one) ?_
 refine a0d (b0t hr.one) rfl ?_
 rintro _ _ ⟨b,hb,rfl,rfl⟩
 refine⟨fun h=>(nomatch h),?_⟩
 simp only[cA,nA]
 refine a5q (X:=H) (K:=b4U b w k) (Ro:=H) (fun pre vals X'=>X'=H/\vals=[ii (a5B us pre.length)]) (fun _ _ _=>False) (b0u hr hv) a8k (a8j hb) rfl (fun _ _ _ h=>by rw[h.1];exact PH.le.refl _) ⟨rfl,rfl⟩ ?_ ?_ ?_
 ·rintro pre xs vals X' ⟨u,x,hx,hpn,hR,rfl⟩ _ ⟨rfl,rfl⟩
  refine⟨rfl,?_⟩
  simp only[cA,nA]
  refine a0a (a1O u) ?_
  have hs:=b1Y hv.un pre.length
  have hs1:=b1Y hv.un (pre.length+1)
  have es:a5B us (pre.length+1)=a5B us pre.length+x.ppl:=by show _+_=_;rw[hx];rfl
  refine a0a ⟨_,rfl⟩ ?_
  refine a0a ⟨_,rfl⟩ ?_
  exact⟨rfl,by rw[List.length_append];show _=[ii (a5B us (pre.length+1))];rw[es,<-hR.ppl];exact a1R (a3I (x:=a5B us pre.length) (y:=u.ppl) rfl rfl (by rw[hR.ppl];omega) (by rw[hR.ppl];omega))⟩
 ·rintro xs vals X' K' hxn hd _ ⟨rfl,rfl⟩
  simp only[cA,nA]
  refine a0a (el_int.vcells _) ?_
  exact a0c rfl ⟨PH.le_or _ _,by rw[<-hxn];rfl⟩
 ·exact fun _ _ _ _ _ _ _ h=>h.elim
end
end Go.Proofs.YtlmgkkjgdapnpaaGreatDoor
/- Balance: checks, totals. -/
namespace Go.Proofs.YtlmgkkjgdapnpaaGreatDoor
open Go.Proofs.Tryz
open Go.RowKit Go.RX Go.GS Go.RZ
set_option maxRecDepth 100000
section
variable {H B:PH} {n k:Nat} {us:List Un} {w:Value} {u v:Value} {p:List Int}
theorem d2g {a b:Int} (h:a=b):Value.bool (!(a==b))= .bool false:=by subst h;simp
theorem c0I:prog.underlying 322=some (.map 3 4):=by kernel_rfl
theorem b1Z (hr:RoR H w us) (hv:RoV n us) (hk:1<=k/\k<=8) (hp:SI H v p) (ho:PlOk n k p):a1g prog 192 [coV w k,v] H (.tuple #[]):=by
 refine a0b mixed d1N (by kernel_rfl) rfl ?_
 have hle:=hv.le
 have h64:=hv.l64
 have hpl:=ho.len
 refine a0a (a8h hr.one) ?_
 refine a0d (b0t hr.one) rfl ?_
 rintro _ _ ⟨b,hb,rfl,rfl⟩
 refine⟨fun h=>(nomatch h),?_⟩
 simp only[cA,nA]
 refine a5q (X:=H) (K:=b4U b w k) (Ro:=H) (fun pre vals X'=>X'=H/\vals=[ii (pre.length:Nat)]) (fun _ _ _=>False) (b0u hr hv) a8k (a8j hb) rfl (fun _ _ _ h=>by rw[h.1];exact PH.le.refl _) ⟨rfl,rfl⟩ ?_ ?_ ?_
 ·rintro pre xs vals X' ⟨u,x,hx,hpn,hR,rfl⟩ _ ⟨rfl,rfl⟩
  refine⟨rfl,?_⟩
  simp only[cA,nA]
  refine a0a ⟨_,rfl⟩ ?_
  exact⟨rfl,by rw[List.length_append];exact a1R (a0J (n:=pre.length) rfl (by omega))⟩
 ·rintro xs vals X' K' hxn hd _ ⟨rfl,rfl⟩
  simp only[cA,nA]
  have l0:PH.le X' (X'.or K'):=PH.le_or _ _
  refine a0j a0S rfl rfl (hp.mono l0) rfl ?_
  refine a0a ⟨_,rfl⟩ ?_
  refine a0a ⟨_,rfl⟩ ?_
  refine a0q (a4c 220) (a0R (d2g (a:=((p.length:Nat):Int)) (b:=((xs.length:Nat):Int)) (by omega)) rfl) ?_
  simp only[cA,nA]
  refine a0n (a2A (ok:=fun _:Int=>True) (ke:=ii) b1L rfl) rfl ?_
  rintro v6 H3 ⟨l3,o3⟩
  refine⟨fun h=>(nomatch h),?_⟩
  simp only[cA,nA]
  refine a0j a0S rfl rfl (hp.mono (l0.trans l3)) rfl ?_
  refine a0o (α:=Nat×List (Int×Value)) (fun⟨i,L⟩=>[ii (i:Nat)]) (fun⟨i,L⟩=>fun H'=>i<=p.length/\PH.le (X'.or K') H'/\MKO (fun _:Int=>True) ii (X'.or K') H' v6 L/\(∀x∈L.map (·.1),x∈p)/\∀x∈p.take i,x∈L.map (·.1)) (fun⟨i,L⟩=>p.length-i) ((0,[])) rfl (⟨Nat.zero_le _,l3,o3,(fun x h=>nomatch h),(fun x h=>nomatch h)⟩) fun⟨i,L⟩ H' hQ=> ?_
  simp only[cA,nA]
  obtain⟨hi,l4,o4,hL1,hL2⟩:=hQ
  refine a0a ⟨_,rfl⟩ ?_
  refine a0a ⟨_,rfl⟩ ?_
  refine a0f (b:=decide (((i:Nat):Int)<(p.length:Nat))) rfl (fun h=> ?_) (fun h=> ?_)
  ·replace h:=of_decide_eq_true h
   have hi':i<p.length:=by omega
   obtain⟨x,hx,_⟩:=a0t hi'
   have hxk:=ho.lab x (List.mem_of_getElem? hx)
   refine a0m a0S rfl rfl rfl rfl (fun _=>rfl) (hp.mono (l0.trans l4)) hx rfl (fun _=>rfl) fun _=> ?_
   simp only[cA,nA]
   refine a0a ⟨_,rfl⟩ ?_
   refine a0e (bF (p:=x<0) (by omega)) ?_
   refine a0a ⟨_,rfl⟩ ?_
   refine a0q (a4c 220) (a0R (bF (p:=x≥((k:Nat):Int)) (by omega)) rfl) ?_
   simp only[cA,nA]
   refine a0n (a3z b1L (k:=x) (vs:=[v6,ii x,.bool true]) rfl rfl rfl rfl c0I trivial l4 o4) rfl ?_
   rintro _ H5 ⟨rfl,l5,o5,-⟩
   refine⟨fun h=>(nomatch h),?_⟩
   simp only[cA,nA]
   have hk1:∀y,y∈(a8w L x (Value.bool true)).map (·.1)↔y=x\/y∈L.map (·.1):=fun y=>by
    constructor
    ·intro hy
     obtain⟨q,hq,rfl⟩:=List.mem_map.1 hy
     rcases a2N (x:=q.1) (y:=q.2) hq with⟨h,_⟩|⟨_,h⟩
     ·exact .inl h
     ·exact .inr (List.mem_map.2 ⟨_,h,rfl⟩)
    ·rintro(rfl|hy)
     ·exact List.mem_map.2 ⟨_,a2O,rfl⟩
     ·by_cases e:y=x
      ·subst e;exact List.mem_map.2 ⟨_,a2O,rfl⟩
      ·obtain⟨q,hq,rfl⟩:=List.mem_map.1 hy
       exact List.mem_map.2 ⟨_,a5w (x:=q.1) (y:=q.2) hq e,rfl⟩
   have hm1:∀y∈(a8w L x (Value.bool true)).map (·.1),y∈p:=fun y hy=>by
    rcases(hk1 y).1 hy with rfl|h
    ·exact List.mem_of_getElem? hx
    ·exact hL1 y h
   have hm2:∀y∈p.take (i+1),y∈(a8w L x (Value.bool true)).map (·.1):=fun y hy=>by
    rw[take_snoc hx,List.mem_append,List.mem_singleton]at hy
    rcases hy with hy|hy
    ·exact(hk1 y).2 (.inr (hL2 y hy))
    ·exact(hk1 y).2 (.inl hy)
   exact⟨(i+1,a8w L x (.bool true)),by show p.length-(i+1)<p.length-i;omega,(a1R (a0J rfl (by omega))),⟨by show i+1<=_;omega,l5,o5,hm1,hm2⟩⟩
  ·replace h:=of_decide_eq_false h
   rw[List.take_of_length_le (by omega)]at hL2
   refine a0l (b4T (vs:=[v6]) rfl rfl c0I o4.mk) rfl ?_
   simp only[cA,nA]
   have hlen:L.length=k:=c6p o4.mk.keys.1 (fun x hx=>ho.lab x (hL1 x hx)) (fun d hd=>hL2 _ (ho.all d hd))
   refine a0a ⟨_,rfl⟩ ?_
   refine a0a ⟨_,rfl⟩ ?_
   refine a0q (a4c 220) (a0R (d2g (a:=((L.length:Nat):Int)) (b:=((k:Nat):Int)) (by omega)) rfl) ?_
   simp only[cA,nA]
   exact a0c rfl ⟨l0.trans l4,rfl⟩
 ·exact fun _ _ _ _ _ _ _ h=>h.elim
theorem a8l (hv:RoV n us):∀x∈us,0<=x.ppl/\x.ppl<=1000000000:=fun x hx=>by
 have hu:=hv.un x hx
 have h1:=hu.p0
 have h2:=hu.p1
 split at h2<;>omega
theorem b4V (hr:RoR H w us) (hv:RoV n us) (hk:1<=k/\k<=8) (hp:SI H v p) (ho:PlOk n k p):Con prog 133 [coV w k,v] H fun r H'=>PH.le H H'/\SI H' r (a2j (·.ppl) us p k n):=by
 refine a0b mixed d1O (by kernel_rfl) rfl ?_
 have hle:=hv.le
 have h64:=hv.l64
 have hpl:=ho.len
 refine a0a (a8h hr.one) ?_
 refine a0a (hp.one) ?_
 refine a0h (b1Z hr hv hk hp ho) (a0R rfl (a1a rfl hp.cells)) fun H1 l1=> ?_
 simp only[cA,nA]
 refine a2x el_int (m:=k) (z:=0) (by kernel_rfl) rfl rfl rfl (by omega) rfl fun v3 H2 l2 o2 _=> ?_
 simp only[cA,nA]
 refine a0a (o2.se.one) ?_
 refine a0d (b0t hr.one) rfl ?_
 rintro _ _ ⟨b,hb,rfl,rfl⟩
 refine⟨fun h=>(nomatch h),?_⟩
 simp only[cA,nA]
 refine a5q (X:=H2) (K:=b4U b w k) (Ro:=H) (fun pre vals X'=>PH.le H1 X'/\vals=[]/\SO H1 X' 3 1 (fun z:Int=>[ii z]) v3 (a2j (·.ppl) us p k pre.length)) (fun _ _ _=>False) (b0u hr hv) a8k (a8j hb) rfl (fun _ _ _ h=>l1.trans h.1) ⟨l2,rfl,by rw[List.length_nil,b1W];exact o2⟩ ?_ ?_ ?_
 ·rintro pre xs vals X' ⟨u,x,hx,hpn,hR,rfl⟩ _ ⟨lX,rfl,oX⟩
  refine⟨rfl,?_⟩
  simp only[cA,nA]
  refine a0a (a1O u) ?_
  obtain⟨y,hy,_⟩:=a0t (show pre.length<p.length by omega)
  obtain⟨hy0,hyk⟩:=ho.lab y (List.mem_of_getElem? hy)
  obtain⟨d,rfl⟩:∃d:Nat,y=((d:Nat):Int):=⟨y.toNat,by omega⟩
  have hdk:d<k:=by omega
  have hb1:=a9j (p:=p) (f:=Un.ppl) (by omega) (a8l hv) d pre.length
  have hxb:=a8l hv x (List.mem_of_getElem? hx)
  have hup:=hR.ppl
  refine a0m a0S rfl rfl rfl rfl (fun _=>rfl) (hp.mono (l1.trans lX)) hy (a0R (a1a rfl hp.cells) rfl) (fun _=>rfl) fun _=> ?_
  simp only[cA,nA]
  refine a0m el_int rfl rfl rfl rfl (fun _=>rfl) oX.se (a1V (f:=Un.ppl) (us:=us) (p:=p) (i:=pre.length) hdk) (a0R (a1a rfl oX.se.cells) rfl) (fun _=>rfl) fun _=> ?_
  simp only[cA,nA]
  refine a0a ⟨_,rfl⟩ ?_
  refine a0a ⟨_,rfl⟩ ?_
  refine a1M el_int (a:=a0V Un.ppl us p pre.length d+u.ppl) rfl rfl rfl rfl (fun _=>rfl) (fun _=>rfl) lX oX (by rw[a1P];exact hdk) (a0R (a1a rfl oX.se.cells) rfl) (fun _=>a0R rfl (a3I rfl rfl (by omega) (by omega))) rfl fun p5 u5 H5 l5 o5 _=> ?_
  simp only[cA,nA]
  have e5:(a2j Un.ppl us p k pre.length).set d (a0V Un.ppl us p pre.length d+u.ppl)=a2j Un.ppl us p k (pre.length+1):=by rw[b1X hy hx,hup]
  rw[e5]at o5
  exact⟨l5,rfl,by rw[List.length_append];exact o5⟩
 ·rintro xs vals X' K' hxn hd _ ⟨lX,rfl,oX⟩
  simp only[cA,nA]
  have l0:PH.le X' (X'.or K'):=PH.le_or _ _
  exact a0c (a1a rfl oX.se.cells) ⟨(l1.trans lX).trans l0,by rw[<-hxn];exact oX.se.mono l0⟩
 ·exact fun _ _ _ _ _ _ _ h=>h.elim
end
end Go.Proofs.YtlmgkkjgdapnpaaGreatDoor

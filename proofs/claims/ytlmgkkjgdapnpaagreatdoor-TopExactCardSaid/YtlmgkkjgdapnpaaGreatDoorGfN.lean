/- Judge: majorities and seats. -/
import Derived.Test.YtlmgkkjgdapnpaaGreatDoorGfJ
namespace Go.Proofs.YtlmgkkjgdapnpaaGreatDoor
open Go.Proofs.Tryz
open Go.RowKit Go.RX Go.GS Go.RZ Go.WD
set_option maxRecDepth 100000
section
variable {H B:PH} {n k lv who:Nat} {es:List (Nat×Nat)} {us:List Un} {w rw pv tv:Value} {u v:Value} {p:List Int} {s:Nat}
theorem a8q:FA prog 103 1 1:=⟨by kernel_rfl,of_decide_eq_true (by kernel_rfl),by kernel_rfl,by kernel_rfl,of_decide_eq_true (by kernel_rfl)⟩
theorem c8p:FA prog 35 0 0:=⟨by kernel_rfl,of_decide_eq_true (by kernel_rfl),by kernel_rfl,by kernel_rfl,of_decide_eq_true (by kernel_rfl)⟩
theorem c1w:FA prog 35 1 1:=⟨by kernel_rfl,of_decide_eq_true (by kernel_rfl),by kernel_rfl,by kernel_rfl,of_decide_eq_true (by kernel_rfl)⟩
theorem b5j:Sc prog 99:=⟨by kernel_rfl,by kernel_rfl,by kernel_rfl⟩
theorem c8q {x:Un} (hx:UnV x) (hl:who<2):x.grp[who]? =some (b6D who x):=by
 have:=hx.gl
 unfold b6D
 rw[List.getElem?_eq_getElem (by omega)];rfl
theorem c8r {x:Un} (hx:UnV x) (hl:who<3):x.vot[who]? =some (a5a who x):=by
 have:=hx.vl
 unfold a5a
 rw[List.getElem?_eq_getElem (by omega)];rfl
theorem d5r (hv:RoV n us) (hw:who<2):∀x∈us,0<=b6D who x/\b6D who x<=1000000000:=fun x hx=>by
 have h:=(hv.un x hx).gz _ (List.mem_of_getElem? (c8q (hv.un x hx) hw))
 have h2:=a8l hv x hx
 omega
theorem d7j (hv:RoV n us) (hw:who<3):∀x∈us,0<=a5a who x/\a5a who x<=1000000000:=fun x hx=>by
 have h:=(hv.un x hx).vz _ (List.mem_of_getElem? (c8r (hv.un x hx) hw))
 split at h<;>omega
theorem c1x {b:Nat} {T:TypeId} {x:Un} {u:UC} (hb:H b=some (.cells #[ii (lv:Nat),ii (who:Nat)] T (0,0))) (hu:UnR H u x) (hx:UnV x) (hw:who<2):Asks prog 202 [veU u,.pointer (some ⟨b,0,none⟩)] H (ii (b6D who x)):=by
 refine a0b mixed c6d (by kernel_rfl) rfl ?_
 refine a0a (a1O u) ?_
 refine a0i a8q rfl rfl rfl ?_
 simp only[cA,nA]
 refine a0g sc_int rfl rfl hb rfl rfl ?_
 simp only[cA,nA]
 refine a0m el_int rfl rfl rfl rfl (fun _=>rfl) hu.grp (c8q hx hw) rfl (fun _=>rfl) fun _=> ?_
 simp only[cA,nA]
 exact a0c rfl ⟨rfl,rfl⟩
theorem d5s {ρ:List Value} {a:SV} {x:Int} (ha:D prog ρ a=ii x) (h1:0<=x) (h2:x<4611686018427387904):D prog ρ (.op2 .mul .i64 (.k (.int .i64 2)) a)=ii (2*x):=by
 show a2U .mul .i64 2 (intOf (D prog ρ a))=_
 rw[ha]
 show Value.int .i64 (IntKind.i64.wrap (2*x))=_
 congr 1
 simp[IntKind.wrap,IntKind.bits,IntKind.signed,Int.bmod]
 omega
theorem c1y {a b d:Nat} {T T2:TypeId} {f:Un->Int} (hS:Sce H s n w es rw us pv p k tv) (ha:H a=some (.cells #[v] T (0,0))) (hb:H b=some (.cells #[.pointer (some ⟨s,0,none⟩)] T2 (0,0))) (hv:SI H v (a2j f us p k n)) (hf:∀x∈us,0<=f x/\f x<=1000000000) (hd:d<k):Asks prog 204 [ii (d:Nat),.pointer (some ⟨a,0,none⟩),.pointer (some ⟨b,0,none⟩)] H (.bool (decide (2*a0V f us p n d>a0V Un.ppl us p n d))):=by
 refine a0b mixed c6e (by kernel_rfl) rfl ?_
 have h1:=hS.rv.l64
 have h2:=hS.rv.le
 have h3:=a9j (p:=p) (f:=f) (by omega) hf d n
 refine a0g a1S rfl rfl ha rfl rfl ?_
 simp only[cA,nA]
 refine a0m el_int rfl rfl rfl rfl (fun _=>rfl) hv (a1V (f:=f) (us:=us) (p:=p) (i:=n) hd) rfl (fun _=>rfl) fun _=> ?_
 simp only[cA,nA]
 refine a0a ⟨_,rfl⟩ ?_
 refine a0g b5j rfl rfl hb rfl rfl ?_
 simp only[cA,nA]
 refine a0u (ad:=⟨s,0,none⟩) rfl rfl rfl ?_
 simp only[cA,nA]
 refine a0i b2m rfl rfl rfl ?_
 simp only[cA,nA]
 refine a0g a1S rfl rfl hS.bk rfl rfl ?_
 simp only[cA,nA]
 refine a0m el_int rfl rfl rfl rfl (fun _=>rfl) hS.to (a1V (f:=Un.ppl) (us:=us) (p:=p) (i:=n) hd) rfl (fun _=>rfl) fun _=> ?_
 simp only[cA,nA]
 refine a0a ⟨_,rfl⟩ ?_
 exact a0c rfl ⟨rfl,by show Value.bool (decide (intOf (D prog _ (.op2 .mul .i64 (.k (.int .i64 2)) (.v 5)))>intOf (ii (a0V Un.ppl us p n d))))=_;rw[d5s (x:=a0V f us p n d) rfl h3.1 (by omega)];rfl⟩
theorem c1z:(a0G prog 38).cells= #[.slice none 0 0]:=by kernel_rfl
theorem c1A:a1q prog 202=true:=by kernel_rfl
theorem c1B:a1q prog 204=true:=by kernel_rfl
theorem c1C (hS:Sce H s n w es rw us pv p k tv) (hw:who<2):a1g prog 140 [.pointer (some ⟨s,0,none⟩),qV lv who] H (shR (((c8l us p k n who:Nat):Int):Rat)):=by
 refine a0b mixed d1C (by kernel_rfl) rfl ?_
 have hk:=hS.hk
 have hmb:c8l us p k n who<=k:=by
  unfold c8l
  refine Nat.le_trans List.countP_le_length ?_
  rw[List.length_range];exact Nat.le_refl _
 refine a0a (a9k rfl rfl) ?_
 refine a0A (cs:= #[.pointer (some ⟨s,0,none⟩)]) rfl fun b hb=> ?_
 simp only[cA,nA]
 refine a0a (a3a _ _) ?_
 refine a0A (cs:= #[ii (lv:Nat),ii (who:Nat)]) rfl fun q hq=> ?_
 simp only[cA,nA]
 have lb:=PH.le_put hb (.cells #[.pointer (some ⟨s,0,none⟩)] 99 (0,0))
 have lq:=PH.le_put hq (.cells #[ii (lv:Nat),ii (who:Nat)] 103 (0,0))
 have hbb:=lq _ _ (PH.put_self H b (.cells #[.pointer (some ⟨s,0,none⟩)] 99 (0,0)))
 have hqq:=PH.put_self (H.put b (.cells #[.pointer (some ⟨s,0,none⟩)] 99 (0,0))) q (.cells #[ii (lv:Nat),ii (who:Nat)] 103 (0,0))
 have l0:=lb.trans lq
 have hS0:=hS.mono l0
 generalize (H.put b (.cells #[.pointer (some ⟨s,0,none⟩)] 99 (0,0))).put q (.cells #[ii (lv:Nat),ii (who:Nat)] 103 (0,0))=H0 at hbb hqq l0 hS0⊢
 refine a0i a8q rfl rfl rfl ?_
 simp only[cA,nA]
 refine a0g sc_int rfl rfl hqq rfl rfl ?_
 simp only[cA,nA]
 refine a0a ⟨_,rfl⟩ ?_
 refine a0e (bF (p:=((who:Nat):Int)<0) (by omega)) ?_
 refine a0i a8q rfl rfl rfl ?_
 simp only[cA,nA]
 refine a0g sc_int rfl rfl hqq rfl rfl ?_
 simp only[cA,nA]
 refine a0g b5j rfl rfl hbb rfl rfl ?_
 simp only[cA,nA]
 refine a0u (ad:=⟨s,0,none⟩) rfl rfl rfl ?_
 simp only[cA,nA]
 refine a0i a8p rfl rfl rfl ?_
 simp only[cA,nA]
 refine a0i c8p rfl rfl rfl ?_
 simp only[cA,nA]
 refine a0g sc_int rfl rfl hS0.bk rfl rfl ?_
 simp only[cA,nA]
 refine a0a ⟨_,rfl⟩ ?_
 refine a0a ⟨_,rfl⟩ ?_
 refine a0q (a6S 2) (a0R (bF (p:=((who:Nat):Int)≥2) (by omega)) rfl) ?_
 simp only[cA,nA]
 refine a0g b5j rfl rfl hbb rfl rfl ?_
 simp only[cA,nA]
 refine a0O (a0z (vs:=[.pointer (some ⟨q,0,none⟩)]) rfl rfl) rfl ?_
 simp only[cA,nA]
 refine a0d (b5h (g:=202) (caps:=[.pointer (some ⟨q,0,none⟩)]) (f:=b6D who) hS0 c1A (fun H' x u hl hx hu=>c1x (hl _ _ hqq) hu (hS.rv.un x hx) hw) (d5r hS.rv hw)) rfl ?_
 rintro v16 H1 ⟨l1,o1⟩
 refine⟨fun h=>(nomatch h),?_⟩
 simp only[cA,nA]
 obtain⟨_,a1,c1,rfl,_⟩:=id o1.se
 refine a0A (cs:= #[.slice none 0 0]) rfl fun z hz=> ?_
 simp only[cA,nA]
 have lz:=PH.le_put hz (.cells #[.slice none 0 0] 38 (0,0))
 refine a1f (u:= .slice a1 (a2j (b6D who) us p k n).length c1) a1S rfl rfl rfl (PH.put_self _ _ _) (by simp) rfl rfl rfl (fun h=>(nomatch h)) ?_
 simp only[cA,nA]
 rw[PH.put_put]
 have lz2:=PH.le_put hz (.cells #[.slice a1 (a2j (b6D who) us p k n).length c1] 38 (0,0))
 have hzz:=PH.put_self H1 z (.cells #[.slice a1 (a2j (b6D who) us p k n).length c1] 38 (0,0))
 change den _ _ _ _ _ _ (H1.put z (.cells #[.slice a1 (a2j (b6D who) us p k n).length c1] 38 (0,0)))
 generalize H1.put z (.cells #[.slice a1 (a2j (b6D who) us p k n).length c1] 38 (0,0))=H2 at lz2 hzz⊢
 have l02:=l1.trans lz2
 refine a0g b5j rfl rfl (l02 _ _ hbb) rfl rfl ?_
 simp only[cA,nA]
 refine a0O (a0z (vs:=[.pointer (some ⟨z,0,none⟩),.pointer (some ⟨b,0,none⟩)]) rfl rfl) rfl ?_
 simp only[cA,nA]
 refine a0d (b5i (g:=204) (caps:=[.pointer (some ⟨z,0,none⟩),.pointer (some ⟨b,0,none⟩)]) (q:=fun d=>decide (2*a0V (b6D who) us p n d>a0V Un.ppl us p n d)) ⟨_,_,_,_,_,(hS0.mono l02).bk⟩ hk.2 c1B (fun H' d hl hd=>c1y ((hS0.mono l02).mono hl) (hl _ _ hzz) (hl _ _ (l02 _ _ hbb)) ((o1.se.mono lz2).mono hl) (d5r hS.rv hw) hd)) rfl ?_
 rintro v21 H3 ⟨l3,l,hl,hlen⟩
 refine⟨fun h=>(nomatch h),?_⟩
 simp only[cA,nA]
 refine a0j el_int rfl rfl hl rfl ?_
 simp only[cA,nA]
 have hlm:l.length=c8l us p k n who:=hlen
 rw[hlm]
 refine a0h (a2D (z:=((c8l us p k n who:Nat):Int)) (by omega)) rfl fun H4 l4=> ?_
 simp only[cA,nA]
 refine a0a (a0s _ _) ?_
 exact a0c rfl ⟨l0.trans (l02.trans (l3.trans l4)),rfl⟩
theorem b5k:El prog 300 38 1 false (fun s:Slc=>[vs s]) vs where
 und:=by kernel_rfl
 has:=by kernel_rfl
 cel:=by kernel_rfl
 agg:=by kernel_rfl
 pos:=by decide
 one1:=fun _=>rfl
 small:=by decide
 inf:=⟨(prog.info? 38).getD default,vs (none,0,0),by kernel_rfl,by kernel_rfl,by kernel_rfl,rfl,of_decide_eq_true (by kernel_rfl)⟩
 len:=fun _=>rfl
 val:=fun _=>rfl
 cells:=fun _=>rfl
 one:=fun x c hc=>by simp at hc;subst hc;rfl
theorem b5l:Sc prog 300:=⟨by kernel_rfl,by kernel_rfl,by kernel_rfl⟩
theorem c1D {b j:Nat} {T:TypeId} {x:Un} {u:UC} (hb:H b=some (.cells #[ii (j:Nat)] T (0,0))) (hu:UnR H u x) (hx:UnV x) (hj:j<3):Asks prog 205 [veU u,.pointer (some ⟨b,0,none⟩)] H (ii (a5a j x)):=by
 refine a0b mixed c6f (by kernel_rfl) rfl ?_
 refine a0a (a1O u) ?_
 refine a0g sc_int rfl rfl hb rfl rfl ?_
 simp only[cA,nA]
 refine a0m el_int rfl rfl rfl rfl (fun _=>rfl) hu.vot (c8r hx hj) rfl (fun _=>rfl) fun _=> ?_
 simp only[cA,nA]
 exact a0c rfl ⟨rfl,rfl⟩
def c8s (us:List Un) (p:List Int) (n who d i:Nat):Bool:=(List.range i).all fun i=>decide (i=who)||decide (a0V (a5a i) us p n d<a0V (a5a who) us p n d)
theorem b2o {d i:Nat}:c8s us p n who d (i+1)=(c8s us p n who d i&&(decide (i=who)||decide (a0V (a5a i) us p n d<a0V (a5a who) us p n d))):=by
 unfold c8s
 rw[List.range_succ,List.all_append]
 simp
theorem d2q {d i:Nat} (hi:i<3) (h:(decide (i=who)||decide (a0V (a5a i) us p n d<a0V (a5a who) us p n d))=false):c8s us p n who d 3=false:=by
 unfold c8s
 rw[List.all_eq_false]
 exact⟨i,List.mem_range.2 hi,by rw[h];decide⟩
theorem c1E {z q d:Nat} {T T2:TypeId} {out:Value} {l:List Slc} (hz:H z=some (.cells #[out] T (0,0))) (hq:H q=some (.cells #[ii (lv:Nat),ii (who:Nat)] T2 (0,0))) (hl:SE H 1 (fun s:Slc=>[vs s]) out l) (h3:l.length=3) (hc:∀(i:Nat) r,l[i]? =some r->SI H (vs r) (a2j (a5a i) us p k n)) (hd:d<k) (hw:who<3):Asks prog 206 [ii (d:Nat),.pointer (some ⟨z,0,none⟩),.pointer (some ⟨q,0,none⟩)] H (.bool (c8s us p n who d 3)):=by
 refine a0b mixed c6g (by kernel_rfl) rfl ?_
 refine a0g b5l rfl rfl hz rfl rfl ?_
 simp only[cA,nA]
 refine a0j b5k rfl rfl hl rfl ?_
 simp only[cA,nA]
 refine a0W (α:=Nat) (fun i=>[.bool false,ii (i:Nat)]) (fun i=>i<=3/\c8s us p n who d i=true) (fun i=>3-i) (0) rfl (⟨Nat.zero_le _,rfl⟩) fun i hQ=> ?_
 simp only[cA,nA]
 obtain⟨hi,hsb⟩:=hQ
 refine a0a ⟨_,rfl⟩ ?_
 refine a0a ⟨_,rfl⟩ ?_
 refine a0f (b:=decide (((i:Nat):Int)<(l.length:Nat))) rfl (fun h=> ?_) (fun h=> ?_)
 ·replace h:=of_decide_eq_true h
  have hi':i<3:=by omega
  obtain⟨r,hr,_⟩:=a0t (show i<l.length by omega)
  obtain⟨r2,hr2,_⟩:=a0t (show who<l.length by omega)
  refine a0m b5k rfl rfl rfl rfl (fun _=>rfl) hl hr rfl (fun _=>rfl) fun _=> ?_
  simp only[cA,nA]
  refine a0i a8q rfl rfl rfl ?_
  simp only[cA,nA]
  refine a0g sc_int rfl rfl hq rfl rfl ?_
  simp only[cA,nA]
  refine a0a ⟨_,rfl⟩ ?_
  refine a0f (b:=decide (i≠who)) (by show Value.bool (((i:Nat):Int) !=((who:Nat):Int))=_;rw[bN];congr 1;apply decide_eq_decide.2;omega) (fun hiw=> ?_) (fun hiw=> ?_)
  ·replace hiw:=of_decide_eq_true hiw
   refine a0m el_int rfl rfl rfl rfl (fun _=>rfl) (hc i r hr) (a1V (f:=a5a i) (us:=us) (p:=p) (i:=n) hd) rfl (fun _=>rfl) fun _=> ?_
   simp only[cA,nA]
   refine a0g b5l rfl rfl hz rfl rfl ?_
   simp only[cA,nA]
   refine a0i a8q rfl rfl rfl ?_
   simp only[cA,nA]
   refine a0g sc_int rfl rfl hq rfl rfl ?_
   simp only[cA,nA]
   refine a0m b5k rfl rfl rfl rfl (fun _=>rfl) hl hr2 rfl (fun _=>rfl) fun _=> ?_
   simp only[cA,nA]
   refine a0m el_int rfl rfl rfl rfl (fun _=>rfl) (hc who r2 hr2) (a1V (f:=a5a who) (us:=us) (p:=p) (i:=n) hd) rfl (fun _=>rfl) fun _=> ?_
   simp only[cA,nA]
   refine a0a ⟨_,rfl⟩ ?_
   refine a0a ⟨_,rfl⟩ ?_
   refine a0f (b:=decide (a0V (a5a i) us p n d≥a0V (a5a who) us p n d)) rfl (fun hge=> ?_) (fun hge=> ?_)
   ·replace hge:=of_decide_eq_true hge
    exact a0c rfl ⟨rfl,by rw[d2q hi' (by rw[decide_eq_false hiw,decide_eq_false (by omega)];rfl)];rfl⟩
   ·replace hge:=of_decide_eq_false hge
    exact⟨(i+1),by show 3-(i+1)<3-i;omega,(a0R rfl (a0J rfl (by omega))),⟨⟨hi',by rw[b2o,hsb,decide_eq_true (show a0V (a5a i) us p n d<a0V (a5a who) us p n d by omega)];simp⟩,rfl⟩⟩
  ·replace hiw:=of_decide_eq_false hiw
   have hiw':i=who:=by simpa using hiw
   exact⟨(i+1),by show 3-(i+1)<3-i;omega,(a0R rfl (a0J rfl (by omega))),⟨⟨hi',by rw[b2o,hsb,decide_eq_true hiw'];rfl⟩,rfl⟩⟩
 ·replace h:=of_decide_eq_false h
  obtain rfl:i=3:=by omega
  exact a0c rfl ⟨rfl,by rw[hsb];rfl⟩
theorem c1F:a1q prog 205=true:=by kernel_rfl
theorem c1G:a1q prog 206=true:=by kernel_rfl
theorem c8t:(38:TypeId)≠300:=by decide
theorem d2r:(3:TypeId)≠300:=by decide
theorem c1H:(3:TypeId)≠38:=by decide
theorem c1I (hS:Sce H s n w es rw us pv p k tv) (hw:who<3):a1g prog 141 [.pointer (some ⟨s,0,none⟩),qV lv who] H (shR (((c8m us p k n who:Nat):Int):Rat)):=by
 refine a0b mixed d1D (by kernel_rfl) rfl ?_
 have hk:=hS.hk
 have hmb:c8m us p k n who<=k:=by
  unfold c8m
  refine Nat.le_trans List.countP_le_length ?_
  rw[List.length_range];exact Nat.le_refl _
 refine a0a (a3a _ _) ?_
 refine a0A (cs:= #[ii (lv:Nat),ii (who:Nat)]) rfl fun q hq=> ?_
 simp only[cA,nA]
 have lq:=PH.le_put hq (.cells #[ii (lv:Nat),ii (who:Nat)] 103 (0,0))
 have hqq:=PH.put_self H q (.cells #[ii (lv:Nat),ii (who:Nat)] 103 (0,0))
 have hS0:=hS.mono lq
 generalize H.put q (.cells #[ii (lv:Nat),ii (who:Nat)] 103 (0,0))=H0 at hqq lq hS0⊢
 refine a0i a8q rfl rfl rfl ?_
 simp only[cA,nA]
 refine a0g sc_int rfl rfl hqq rfl rfl ?_
 simp only[cA,nA]
 refine a0a ⟨_,rfl⟩ ?_
 refine a0e (bF (p:=((who:Nat):Int)<0) (by omega)) ?_
 refine a0i a8q rfl rfl rfl ?_
 simp only[cA,nA]
 refine a0g sc_int rfl rfl hqq rfl rfl ?_
 simp only[cA,nA]
 refine a0u (ad:=⟨s,0,none⟩) rfl rfl rfl ?_
 simp only[cA,nA]
 refine a0i a8p rfl rfl rfl ?_
 simp only[cA,nA]
 refine a0i c1w rfl rfl rfl ?_
 simp only[cA,nA]
 refine a0g sc_int rfl rfl hS0.bk rfl rfl ?_
 simp only[cA,nA]
 refine a0a ⟨_,rfl⟩ ?_
 refine a0a ⟨_,rfl⟩ ?_
 refine a0q (a6S 2) (a0R (bF (p:=((who:Nat):Int)≥3) (by omega)) rfl) ?_
 simp only[cA,nA]
 refine a0A (cs:= #[.slice none 0 0]) rfl fun z hz=> ?_
 simp only[cA,nA]
 have lz:=PH.le_put hz (.cells #[.slice none 0 0] 300 (0,0))
 have hzz:=PH.put_self H0 z (.cells #[.slice none 0 0] 300 (0,0))
 generalize H0.put z (.cells #[.slice none 0 0] 300 (0,0))=H1 at lz hzz⊢
 refine a0u (ad:=⟨s,0,none⟩) rfl rfl rfl ?_
 simp only[cA,nA]
 refine a0i a8p rfl rfl rfl ?_
 simp only[cA,nA]
 refine a0i c1w rfl rfl rfl ?_
 simp only[cA,nA]
 refine a0g sc_int rfl rfl (lz _ _ hS0.bk) rfl rfl ?_
 simp only[cA,nA]
 refine a0o (α:=Nat×Value×List Slc) (fun⟨j,out,l⟩=>[ii (j:Nat)]) (fun⟨j,out,l⟩=>fun H'=>j<=3/\PH.le H0 H'/\H' z=some (.cells #[out] 300 (0,0))/\SO H0 H' 38 1 (fun s:Slc=>[vs s]) out l/\l.length=j/\∀(i:Nat) r,l[i]? =some r->SO H0 H' 3 1 (fun z:Int=>[ii z]) (vs r) (a2j (a5a i) us p k n)) (fun⟨j,out,l⟩=>3-j) ((0,.slice none 0 0,[])) rfl (⟨Nat.zero_le _,lz,hzz,SO.nil _ _ _ _ _,rfl,(fun i r h=>nomatch h)⟩) fun⟨j,out,l⟩ H' hQ=> ?_
 simp only[cA,nA]
 obtain⟨hj,lX,hzX,oX,hlX,hcX⟩:=hQ
 refine a0a ⟨_,rfl⟩ ?_
 refine a0a ⟨_,rfl⟩ ?_
 refine a0f (b:=decide (((j:Nat):Int)<3)) rfl (fun h=> ?_) (fun h=> ?_)
 ·replace h:=of_decide_eq_true h
  have hj':j<3:=by omega
  refine a0A (cs:= #[ii 0]) rfl fun c hc=> ?_
  simp only[cA,nA]
  refine a1f (u:=ii (j:Nat)) sc_int rfl rfl rfl (PH.put_self _ _ _) (by simp) rfl rfl rfl (fun h=>(nomatch h)) ?_
  simp only[cA,nA]
  rw[PH.put_put]
  change den _ _ _ _ _ _ (H'.put c (.cells #[ii (j:Nat)] 3 (0,0)))
  have lc:=PH.le_put hc (.cells #[ii (j:Nat)] 3 (0,0))
  have hcc:=PH.put_self H' c (.cells #[ii (j:Nat)] 3 (0,0))
  generalize H'.put c (.cells #[ii (j:Nat)] 3 (0,0))=H2 at lc hcc⊢
  refine a0g b5l rfl rfl (lc _ _ hzX) rfl rfl ?_
  simp only[cA,nA]
  refine a0O (a0z (vs:=[.pointer (some ⟨c,0,none⟩)]) rfl rfl) rfl ?_
  simp only[cA,nA]
  refine a0d (b5h (g:=205) (caps:=[.pointer (some ⟨c,0,none⟩)]) (f:=a5a j) (hS0.mono (lX.trans lc)) c1F (fun H' x u hl hx hu=>c1D (hl _ _ hcc) hu (hS.rv.un x hx) hj') (d7j hS.rv hj')) rfl ?_
  rintro v16 H3 ⟨l3,o3⟩
  refine⟨(fun _=>l3),?_⟩
  simp only[cA,nA]
  obtain⟨_,a1,c1,rfl,_⟩:=id o3.se
  have l23:=lc.trans l3
  obtain⟨XB,xb1,xb2,xb3,xb4⟩:=a2C (oX.mono l23) (lX.trans l23)
  refine a0P b5k rfl rfl rfl (fun _=>rfl) (fun _=>rfl) xb2 xb3 (by omega) (show _=[vs (a1,(a2j (a5a j) us p k n).length,c1)]from rfl) (fun _=>rfl) rfl fun pv2 v24 H7 l7 o7=> ?_
  simp only[cA,nA]
  obtain⟨_,a2,c2,rfl,_⟩:=id o7.se
  have hz7:H7 z=some (.cells #[out] 300 (0,0)):=l7 _ _ ((xb4 z (fun cs=>by rw[l23 _ _ hzX];simp only[ne_eq,Option.some.injEq,Obj.cells.injEq,not_and];intro _ e;exact absurd e.symm c8t)).trans (l23 _ _ hzX))
  have hrow:∀(i:Nat) r,(l++[(a1,(a2j (a5a j) us p k n).length,c1)])[i]? =some r->SO H0 H7 3 1 (fun z:Int=>[ii z]) (vs r) (a2j (a5a i) us p k n):=fun i r hr=>by
   by_cases hi:i<l.length
   ·rw[List.getElem?_append_left hi]at hr
    exact(a2P ((hcX i r hr).mono l23) xb4 c1H).mono l7
   ·rw[List.getElem?_append_right (by omega)]at hr
    have hi2:=(List.getElem?_eq_some_iff.1 hr).1
    have hij:i=j:=by simp at hi2;omega
    subst hij
    rw[hlX,Nat.sub_self]at hr
    injection hr with hr
    subst hr
    exact(a2P (o3.less (lX.trans lc)) xb4 c1H).mono l7
  refine a1f (u:= .slice a2 (l++[(a1,(a2j (a5a j) us p k n).length,c1)]).length c2) b5l rfl rfl rfl hz7 (by simp) rfl rfl rfl (fun h=>(nomatch h)) ?_
  simp only[cA,nA]
  change den _ _ _ _ _ _ (H7.put z (.cells #[.slice a2 (l++[(a1,(a2j (a5a j) us p k n).length,c1)]).length c2] 300 (0,0)))
  have l8:PH.le H0 (H7.put z (.cells #[.slice a2 (l++[(a1,(a2j (a5a j) us p k n).length,c1)]).length c2] 300 (0,0))):=fun b' ob' hbb=>by rw[PH.put_ne _ _ (fun e=>by subst e;rw[hz]at hbb;cases hbb)];exact l7 _ _ (xb1 _ _ hbb)
  exact⟨(j+1,.slice a2 (l++[(a1,(a2j (a5a j) us p k n).length,c1)]).length c2,l++[(a1,(a2j (a5a j) us p k n).length,c1)]),by show 3-(j+1)<3-j;omega,(a1R (a0J rfl (by omega))),⟨hj',l8,PH.put_self _ _ _,(a1s (o7.less xb1) hz7 c8t).mono (PH.cut_put _ _ _),by rw[List.length_append];simp;omega,fun i r hr=>(a1s (hrow i r hr) hz7 d2r).mono (PH.cut_put _ _ _)⟩⟩
 ·replace h:=of_decide_eq_false h
  obtain rfl:j=3:=by omega
  refine a0O (a0z (vs:=[.pointer (some ⟨z,0,none⟩),.pointer (some ⟨q,0,none⟩)]) rfl rfl) rfl ?_
  simp only[cA,nA]
  refine a0d (b5i (g:=206) (caps:=[.pointer (some ⟨z,0,none⟩),.pointer (some ⟨q,0,none⟩)]) (q:=fun d=>c8s us p n who d 3) ⟨_,_,_,_,_,(hS0.mono lX).bk⟩ hk.2 c1G (fun H' d hl hd=>c1E (hl _ _ hzX) (hl _ _ (lX _ _ hqq)) ((oX.mono hl).se) hlX (fun i r hr=>((hcX i r hr).mono hl).se) hd hw)) rfl ?_
  rintro v19 H3 ⟨l3,l',hl',hlen⟩
  refine⟨fun h=>(nomatch h),?_⟩
  simp only[cA,nA]
  refine a0j el_int rfl rfl hl' rfl ?_
  simp only[cA,nA]
  have hlm:l'.length=c8m us p k n who:=hlen
  rw[hlm]
  refine a0h (a2D (z:=((c8m us p k n who:Nat):Int)) (by omega)) rfl fun H4 l4=> ?_
  simp only[cA,nA]
  refine a0a (a0s _ _) ?_
  exact a0c rfl ⟨lq.trans (lX.trans (l3.trans l4)),rfl⟩
end
end Go.Proofs.YtlmgkkjgdapnpaaGreatDoor
/- Judge: Measure. -/
namespace Go.Proofs.YtlmgkkjgdapnpaaGreatDoor
open Go.Proofs.Tryz
open Go.RowKit Go.RX Go.GS Go.RZ Go.WD
set_option maxRecDepth 100000
section
variable {H B:PH} {n k lv who ms:Nat} {es:List (Nat×Nat)} {us:List Un} {w rw pv tv:Value} {u v:Value} {p:List Int} {s:Nat}
noncomputable def a9m (n:Nat) (es:List (Nat×Nat)) (us:List Un) (k ms lv who:Nat) (p:List Int):Rat:=
 match ms with
 |1=>c6q us p k n
 |2=>((b2O (a0V Un.ppl us p n 0) (a2j Un.ppl us p k n):Int):Rat)
 |3=>(((c8e es p:Nat):Int):Rat)
 |4=>((b2N (a0V Un.ppl us p n 0) (a2j Un.ppl us p k n):Int):Rat)
 |5=>(((d2o us p lv n:Nat):Int):Rat)
 |6=>((c8k us p lv n:Int):Rat)
 |7=>(((c8l us p k n who:Nat):Int):Rat)
 |8=>(((c8m us p k n who:Nat):Int):Rat)
 |_=>0
structure d3y (n:Nat) (us:List Un) (ms lv who:Nat):Prop where
 m1:1<=ms
 m8:ms<=8
 lv:lv<2
 who:who<2
 liv:ms=1->a5B us n≠0
def mF (f:FuncId) (s:Nat):Value:= .func (.func f) #[.pointer (some ⟨s,0,none⟩)] #[]
def mA (s:Nat):Value:= .agg #[.nilFunc,mF 134 s,mF 135 s,mF 136 s,mF 137 s,mF 138 s,mF 139 s,mF 140 s,mF 141 s]
theorem d5t (s:Nat):(mA s).cells.size=9/\a0p (mA s).cells:=⟨rfl,fun c hc=>by
 simp[mA,mF,Value.cells]at hc
 rcases hc with rfl|rfl|rfl|rfl|rfl|rfl|rfl|rfl|rfl<;>rfl⟩
theorem a6y (f:FuncId) (s:Nat):(mF f s).cells.size=1/\a0p (mF f s).cells:=⟨rfl,fun c hc=>by
 simp[mF,Value.cells]at hc;subst hc;rfl⟩
theorem d7k:a0G prog 192= .agg #[.nilFunc,.nilFunc,.nilFunc,.nilFunc,.nilFunc,.nilFunc,.nilFunc,.nilFunc,.nilFunc]:=by kernel_rfl
theorem c6H:Asks prog 91 [.pointer (some ⟨s,0,none⟩)] H (mA s):=by
 refine a0b mixed d1E (by kernel_rfl) rfl ?_
 refine a0O (a1c (v:= .pointer (some ⟨s,0,none⟩)) rfl rfl) rfl ?_
 simp only[cA,nA]
 refine a0O (a1c (v:= .pointer (some ⟨s,0,none⟩)) rfl rfl) rfl ?_
 simp only[cA,nA]
 refine a0O (a1c (v:= .pointer (some ⟨s,0,none⟩)) rfl rfl) rfl ?_
 simp only[cA,nA]
 refine a0O (a1c (v:= .pointer (some ⟨s,0,none⟩)) rfl rfl) rfl ?_
 simp only[cA,nA]
 refine a0O (a1c (v:= .pointer (some ⟨s,0,none⟩)) rfl rfl) rfl ?_
 simp only[cA,nA]
 refine a0O (a1c (v:= .pointer (some ⟨s,0,none⟩)) rfl rfl) rfl ?_
 simp only[cA,nA]
 refine a0O (a1c (v:= .pointer (some ⟨s,0,none⟩)) rfl rfl) rfl ?_
 simp only[cA,nA]
 refine a0O (a1c (v:= .pointer (some ⟨s,0,none⟩)) rfl rfl) rfl ?_
 simp only[cA,nA]
 refine a0a (a6y _ s) ?_
 refine a0a (a6y _ s) ?_
 refine a0a (a6y _ s) ?_
 refine a0a (a6y _ s) ?_
 refine a0a (a6y _ s) ?_
 refine a0a (a6y _ s) ?_
 refine a0a (a6y _ s) ?_
 refine a0a (a6y _ s) ?_
 exact a0c rfl ⟨rfl,by show Value.agg (spl (Value.agg (spl (Value.agg (spl (Value.agg (spl (Value.agg (spl (Value.agg (spl (Value.agg (spl (Value.agg (spl (a0G prog 192).cells 1 _)).cells 2 _)).cells 3 _)).cells 4 _)).cells 5 _)).cells 6 _)).cells 7 _)).cells 8 _)=_;rw[d7k];rfl⟩
theorem d5u (hS:Sce H s n w es rw us pv p k tv) (hM:d3y n us ms lv who):∃f,(mA s).cells.getD ms undef=mF f s/\a1q prog f=true/\a1g prog f [.pointer (some ⟨s,0,none⟩),qV lv who] H (shR (a9m n es us k ms lv who p)):=by
 obtain⟨h1,h8,hl,hw,hz⟩:=hM
 match ms,h1,h8,hz with
 |1,_,_,hz=>exact⟨_,rfl,by kernel_rfl,c1q hS (hz rfl)⟩
 |2,_,_,_=>exact⟨_,rfl,by kernel_rfl,c1r hS⟩
 |3,_,_,_=>exact⟨_,rfl,by kernel_rfl,c1t hS⟩
 |4,_,_,_=>exact⟨_,rfl,by kernel_rfl,c1s hS⟩
 |5,_,_,_=>exact⟨_,rfl,by kernel_rfl,c1u hS hl⟩
 |6,_,_,_=>exact⟨_,rfl,by kernel_rfl,c1v hS hl⟩
 |7,_,_,_=>exact⟨_,rfl,by kernel_rfl,c1C hS hw⟩
 |8,_,_,_=>exact⟨_,rfl,by kernel_rfl,c1I hS (by omega)⟩
theorem c1J (hS:Sce H s n w es rw us pv p k tv) (hM:d3y n us ms lv who):a1g prog 34 [.pointer (some ⟨s,0,none⟩),ii (ms:Nat),qV lv who] H (shR (a9m n es us k ms lv who p)):=by
 refine a0b mixed d1F (by kernel_rfl) rfl ?_
 obtain⟨f,hf1,hf2,hf3⟩:=d5u hS hM
 have h1:=hM.m1
 have h8:=hM.m8
 refine a0a (a3a _ _) ?_
 refine a0q (c6H) rfl ?_
 simp only[cA,nA]
 refine a0a (d5t s) ?_
 refine a0a ⟨_,rfl⟩ ?_
 refine a0e (bF (p:=((ms:Nat):Int)<1) (by omega)) ?_
 refine a0q (a6S 2) (a0R (bF (p:=((ms:Nat):Int)≥9) (by omega)) rfl) ?_
 simp only[cA,nA]
 refine a0a ⟨_,_,rfl⟩ ?_
 refine a0a ⟨Int.natCast_nonneg ms,by show((ms:Nat):Int)<((9:Nat):Int);omega⟩ ?_
 refine a0n (c1p (f:=f) (fs:= #[.pointer (some ⟨s,0,none⟩)]) (caps:= #[]) (vs:=[qV lv who]) rfl rfl rfl hf2 hf3) (a0R (show(mA s).cells.getD (0+1*((ms:Nat):Int).toNat) undef=_ by rw[Int.toNat_natCast,Nat.zero_add,Nat.one_mul];exact hf1) rfl) ?_
 rintro _ H1 ⟨l1,rfl⟩
 refine⟨(fun _=>l1),?_⟩
 simp only[cA,nA]
 refine a0a (a0s _ _) ?_
 exact a0c rfl ⟨l1,rfl⟩
end
end Go.Proofs.YtlmgkkjgdapnpaaGreatDoor
/- Judge: Measure, with its errors caught. -/
namespace Go.Proofs.YtlmgkkjgdapnpaaGreatDoor
open Go.Proofs.Tryz
open Go.RowKit Go.RX Go.GS Go.RZ Go.WD
set_option maxRecDepth 100000
section
variable {H B:PH} {n k lv who ms:Nat} {es:List (Nat×Nat)} {us:List Un} {w rw pv tv:Value} {u v:Value} {p:List Int} {s:Nat}
theorem c1K:a1q prog 32=true:=by kernel_rfl
theorem d7l:c0B prog 31 85 61 44 20 ((prog.funcs[31]?).getD default) ((prog.funcs[85]?).getD default) (a6w ((prog.funcs[85]?).getD default).body):=⟨by kernel_rfl,by kernel_rfl,by kernel_rfl,by kernel_rfl,by kernel_rfl,by kernel_rfl,by kernel_rfl,by kernel_rfl,by kernel_rfl,by kernel_rfl⟩
def pt0 (b:Nat):Value:= .pointer (some ⟨b,0,none⟩)
structure d7V (H:PH) (a b c d e f g n:Nat) (w rw pv:Value) (k ms lv who:Nat):Prop where
 gr:H a=some (.cells #[ii (n:Nat),w] 32 (0,0))
 ro:H b=some (.cells #[ii 2,ii 3,ii 2,rw] 35 (0,0))
 pl:H c=some (.cells #[pv] 39 (0,0))
 nk:H d=some (.cells #[ii (k:Nat)] 3 (0,0))
 ms:H e=some (.cells #[ii (ms:Nat)] 3 (0,0))
 lv:H f=some (.cells #[ii (lv:Nat)] 3 (0,0))
 wh:H g=some (.cells #[ii (who:Nat)] 3 (0,0))
theorem b6E {a b c d e f g:Nat} (hc:d7V H a b c d e f g n w rw pv k ms lv who) (hw:SG H w es) (hg:GV n es) (hr:RoR H rw us) (hv:RoV n us) (hp:SI H pv p) (ho:PlOk n k p) (hk:1<=k/\k<=8) (hM:d3y n us ms lv who):a1g prog 32 [pt0 a,pt0 b,pt0 c,pt0 d,pt0 e,pt0 f,pt0 g] H (shR (a9m n es us k ms lv who p)):=by
 refine a0b mixed c6h (by kernel_rfl) rfl ?_
 refine a0N (vs:=[ii (n:Nat),w]) b2n rfl rfl hc.gr rfl (by simp) rfl ?_
 simp only[cA,nA]
 refine a0N (vs:=[ii 2,ii 3,ii 2,rw]) a4d rfl rfl hc.ro rfl (by simp) rfl ?_
 simp only[cA,nA]
 refine a0g a1Q rfl rfl hc.pl rfl rfl ?_
 simp only[cA,nA]
 refine a0g sc_int rfl rfl hc.nk rfl rfl ?_
 simp only[cA,nA]
 refine a0g sc_int rfl rfl hc.ms rfl rfl ?_
 simp only[cA,nA]
 refine a0g sc_int rfl rfl hc.lv rfl rfl ?_
 simp only[cA,nA]
 refine a0g sc_int rfl rfl hc.wh rfl rfl ?_
 simp only[cA,nA]
 refine a0a (el_int.vcells _) ?_
 refine a0a (el_int.vcells _) ?_
 refine a0d (c6G hw hg hr hv hp ho hk) rfl ?_
 rintro _ H1 ⟨l1,s,tv,rfl,hS⟩
 refine⟨(fun _=>l1),?_⟩
 simp only[cA,nA]
 refine a0h (c1J hS hM) rfl fun H2 l2=> ?_
 simp only[cA,nA]
 refine a0a (a0s _ _) ?_
 exact a0c rfl ⟨l1.trans l2,rfl⟩
theorem a8r (hw:SG H w es) (hg:GV n es) (hr:RoR H rw us) (hv:RoV n us) (hp:SI H pv p) (ho:PlOk n k p) (hk:1<=k/\k<=8) (hM:d3y n us ms lv who):a1g prog 8 [gv n w,rov rw,pv,ii (k:Nat),ii (ms:Nat),ii (lv:Nat),ii (who:Nat)] H (.tuple #[shR (a9m n es us k ms lv who p),ii 0]):=by
 refine a0b mixed d1G (by kernel_rfl) rfl ?_
 refine a0a (a2e hw) ?_
 refine a0A (cs:= #[ii (n:Nat),w]) rfl fun a ha=> ?_
 simp only[cA,nA]
 refine a0a (a1A hr.one) ?_
 refine a0A (cs:= #[ii 2,ii 3,ii 2,rw]) rfl fun b hb=> ?_
 simp only[cA,nA]
 refine a0a (hp.one) ?_
 refine a0A (cs:= #[pv]) hp.cells fun c hc=> ?_
 simp only[cA,nA]
 refine a0a (el_int.vcells _) ?_
 refine a0A (cs:= #[ii (k:Nat)]) rfl fun d hd=> ?_
 simp only[cA,nA]
 refine a0a (el_int.vcells _) ?_
 refine a0A (cs:= #[ii (ms:Nat)]) rfl fun e he=> ?_
 simp only[cA,nA]
 refine a0a (el_int.vcells _) ?_
 refine a0A (cs:= #[ii (lv:Nat)]) rfl fun f hf=> ?_
 simp only[cA,nA]
 refine a0a (el_int.vcells _) ?_
 refine a0A (cs:= #[ii (who:Nat)]) rfl fun g hgg=> ?_
 simp only[cA,nA]
 refine a0O (a0z (vs:=[pt0 a,pt0 b,pt0 c,pt0 d,pt0 e,pt0 f,pt0 g]) rfl rfl) rfl ?_
 simp only[cA,nA]
 have la:=PH.le_put ha (.cells #[ii (n:Nat),w] 32 (0,0))
 have lb:=PH.le_put hb (.cells #[ii 2,ii 3,ii 2,rw] 35 (0,0))
 have lc:=PH.le_put hc (.cells #[pv] 39 (0,0))
 have ld:=PH.le_put hd (.cells #[ii (k:Nat)] 3 (0,0))
 have le:=PH.le_put he (.cells #[ii (ms:Nat)] 3 (0,0))
 have lf:=PH.le_put hf (.cells #[ii (lv:Nat)] 3 (0,0))
 have lg:=PH.le_put hgg (.cells #[ii (who:Nat)] 3 (0,0))
 have l6:=lf.trans lg
 have l5:=le.trans l6
 have l4:=ld.trans l5
 have l3:=lc.trans l4
 have l2:=lb.trans l3
 have l1:=la.trans l2
 have hcap:d7V _ a b c d e f g n w rw pv k ms lv who:=⟨l2 _ _ (PH.put_self _ _ _),l3 _ _ (PH.put_self _ _ _),l4 _ _ (PH.put_self _ _ _),l5 _ _ (PH.put_self _ _ _),l6 _ _ (PH.put_self _ _ _),lg _ _ (PH.put_self _ _ _),PH.put_self _ _ _⟩
 refine a0d (a1B (caps:=[pt0 a,pt0 b,pt0 c,pt0 d,pt0 e,pt0 f,pt0 g]) mixed d7l d7T c1K (b6E hcap (hw.mono l1) hg (hr.mono l1) hv (hp.mono l1) ho hk hM) (fun _ _ h=>by rw[h.2];exact d7U _ _)) rfl ?_
 rintro _ H4 ⟨t,⟨l9,rfl⟩,rfl⟩
 refine⟨fun h=>(nomatch h),?_⟩
 simp only[cA,nA]
 refine a0a ⟨_,rfl,by simp⟩ ?_
 refine a0a ⟨_,rfl,by simp⟩ ?_
 refine a0a (a0s _ _) ?_
 exact a0c rfl ⟨l1.trans l9,rfl⟩
end
end Go.Proofs.YtlmgkkjgdapnpaaGreatDoor

/- Balance: what is exported. -/
import Derived.Test.YtlmgkkjgdapnpaaGreatDoorGfC
import Derived.Test.YtlmgkkjgdapnpaaGreatDoorSrG
import Derived.Test.YtlmgkkjgdapnpaaGreatDoorGaH
import Derived.Shelf.SlGeneric
import Derived.Ground.SlsfProg
import Derived.Shelf.SlSortCmp.WholeK
import Derived.Test.YtlmgkkjgdapnpaaGreatDoorProg
namespace Go.GS
def b2N (a:Int) (l:List Int):Int:=l.foldl (fun m x=>if x<m then x else m) a
def b2O (a:Int) (l:List Int):Int:=l.foldl (fun m x=>if x>m then x else m) a
theorem b4W {lo hi:Int}:∀(l:List Int) (a:Int),lo<=a/\a<=hi->(∀x∈l,lo<=x/\x<=hi)->lo<=b2N a l/\b2N a l<=hi:=by
 intro l
 induction l with
 |nil=>intro a h _;exact h
 |cons x l ih=>
  intro a h hl
  have hx:=hl x (by simp)
  exact ih _ (by dsimp only;split<;>omega) (fun y hy=>hl y (by simp[hy]))
theorem b4X {lo hi:Int}:∀(l:List Int) (a:Int),lo<=a/\a<=hi->(∀x∈l,lo<=x/\x<=hi)->lo<=b2O a l/\b2O a l<=hi:=by
 intro l
 induction l with
 |nil=>intro a h _;exact h
 |cons x l ih=>
  intro a h hl
  have hx:=hl x (by simp)
  exact ih _ (by dsimp only;split<;>omega) (fun y hy=>hl y (by simp[hy]))
theorem b2a (a x:Int) (l:List Int):b2N a (l++[x])=if x<b2N a l then x else b2N a l:=by
 unfold b2N;rw[List.foldl_append];rfl
theorem b2b (a x:Int) (l:List Int):b2O a (l++[x])=if x>b2O a l then x else b2O a l:=by
 unfold b2O;rw[List.foldl_append];rfl
theorem b2c {a b:Int} (ha:a≠0) (hb:b≠0):Rat.divInt a b≠0:=fun e=>by
 rw[Rat.divInt_eq_div]at e
 have h1:(a:Rat)≠0:=fun h=>ha (Rat.intCast_inj.1 h)
 have h2:(b:Rat)≠0:=fun h=>hb (Rat.intCast_inj.1 h)
 have:(a:Rat)=(a:Rat)/b*b:=by grind
 rw[e]at this
 grind
theorem a8m (a:Int):Rat.divInt a 1=(a:Rat):=by rw[Rat.divInt_eq_div];grind
def c6q (us:List Un) (p:List Int) (k n:Nat):Rat:=((b2O (a0V Un.ppl us p n 0) (a2j Un.ppl us p k n)-b2N (a0V Un.ppl us p n 0) (a2j Un.ppl us p k n):Int):Rat)/Rat.divInt (a5B us n) (k:Nat)
end Go.GS
namespace Go.Proofs.YtlmgkkjgdapnpaaGreatDoor
open Go.Proofs.Tryz
open Go.RowKit Go.RX Go.GS Go.RZ Go.WD
set_option maxRecDepth 100000
section
variable {H B:PH} {n k:Nat} {us:List Un} {w:Value} {u v:Value} {p:List Int}
theorem d7c {a:Int} (h:a≠0):Value.bool (a==0)= .bool false:=by rw[beq_eq_false_iff_ne.2 h]
theorem a4d:Ag prog 35 4:=⟨by kernel_rfl,by kernel_rfl,by kernel_rfl⟩
theorem a1Q:Sc prog 39:=⟨by kernel_rfl,by kernel_rfl,by kernel_rfl⟩
theorem c0J:a1q prog 131=true:=by kernel_rfl
theorem c0K:a1q prog 274=true:=by kernel_rfl
theorem c0L:a1q prog 233=true:=by kernel_rfl
theorem d7d:c0B prog 130 189 38 44 20 ((prog.funcs[130]?).getD default) ((prog.funcs[189]?).getD default) (a6w ((prog.funcs[189]?).getD default).body):=⟨by kernel_rfl,by kernel_rfl,by kernel_rfl,by kernel_rfl,by kernel_rfl,by kernel_rfl,by kernel_rfl,by kernel_rfl,by kernel_rfl,by kernel_rfl⟩
theorem d7e:c0B prog 273 281 4 44 20 ((prog.funcs[273]?).getD default) ((prog.funcs[281]?).getD default) (a6w ((prog.funcs[281]?).getD default).body):=⟨by kernel_rfl,by kernel_rfl,by kernel_rfl,by kernel_rfl,by kernel_rfl,by kernel_rfl,by kernel_rfl,by kernel_rfl,by kernel_rfl,by kernel_rfl⟩
theorem d7f:c0B prog 232 259 61 44 20 ((prog.funcs[232]?).getD default) ((prog.funcs[259]?).getD default) (a6w ((prog.funcs[259]?).getD default).body):=⟨by kernel_rfl,by kernel_rfl,by kernel_rfl,by kernel_rfl,by kernel_rfl,by kernel_rfl,by kernel_rfl,by kernel_rfl,by kernel_rfl,by kernel_rfl⟩
theorem d8p:CcT prog 38 44 (.slice none 0 0):=⟨by kernel_rfl,by kernel_rfl,by kernel_rfl,by kernel_rfl,by kernel_rfl,by kernel_rfl,by kernel_rfl,fun _=>of_decide_eq_true (by kernel_rfl)⟩
theorem d8q:CcT prog 4 44 (.bool false):=⟨by kernel_rfl,by kernel_rfl,by kernel_rfl,by kernel_rfl,by kernel_rfl,by kernel_rfl,by kernel_rfl,fun _=>of_decide_eq_true (by kernel_rfl)⟩
theorem d7T:CcT prog 61 44 (.agg (Array.replicate 16 (.int .u64 0))):=⟨by kernel_rfl,by kernel_rfl,by kernel_rfl,by kernel_rfl,by kernel_rfl,by kernel_rfl,by kernel_rfl,fun h=>absurd (show a0F prog 61=true by kernel_rfl) (by rw[h];decide)⟩
theorem d7U (a b:Nat):(shv a b).cells.size=prog.cellsOf 61/\a0p (shv a b).cells/\rdV prog 61 (shv a b).cells=shv a b:=by
 have h1:a0F prog 61=true:=by kernel_rfl
 have h2:prog.cellsOf 61=16:=by kernel_rfl
 refine⟨by rw[h2];exact(a0s a b).1,(a0s a b).2,?_⟩
 unfold rdV;rw[h1];rfl
theorem d8r {H:PH} {v:Value} {l:List Int} (h:SI H v l):v.cells.size=prog.cellsOf 38/\a0p v.cells/\rdV prog 38 v.cells=v:=by
 have h1:a0F prog 38=false:=by kernel_rfl
 have h2:prog.cellsOf 38=1:=by kernel_rfl
 refine⟨by rw[h2];exact h.one.1,h.one.2,?_⟩
 unfold rdV;rw[h1,h.cells];rfl
theorem d8s (b:Bool):(Value.bool b).cells.size=prog.cellsOf 4/\a0p (Value.bool b).cells/\rdV prog 4 (Value.bool b).cells= .bool b:=by
 have h1:a0F prog 4=false:=by kernel_rfl
 have h2:prog.cellsOf 4=1:=by kernel_rfl
 refine⟨by rw[h2];rfl,fun c hc=>by simp[Value.cells]at hc;subst hc;rfl,?_⟩
 unfold rdV;rw[h1];rfl
structure d3x (H:PH) (a b c:Nat) (w v:Value) (k:Nat):Prop where
 ro:H a=some (.cells #[ii 2,ii 3,ii 2,w] 35 (0,0))
 nk:H b=some (.cells #[ii (k:Nat)] 3 (0,0))
 pl:H c=some (.cells #[v] 39 (0,0))
theorem c0M {a b c:Nat} (hc:d3x H a b c w v k) (hr:RoR H w us) (hv:RoV n us) (hk:1<=k/\k<=8) (hp:SI H v p) (ho:PlOk n k p):Con prog 131 [.pointer (some ⟨a,0,none⟩),.pointer (some ⟨b,0,none⟩),.pointer (some ⟨c,0,none⟩)] H fun r H'=>PH.le H H'/\SI H' r (a2j (·.ppl) us p k n):=by
 refine a0b mixed c6j (by kernel_rfl) rfl ?_
 refine a0N (vs:=[ii 2,ii 3,ii 2,w]) a4d rfl rfl hc.ro rfl (by simp) rfl ?_
 simp only[cA,nA]
 refine a0g sc_int rfl rfl hc.nk rfl rfl ?_
 simp only[cA,nA]
 refine a0g a1Q rfl rfl hc.pl rfl rfl ?_
 simp only[cA,nA]
 refine a0h (a8i hr hv hk) rfl fun H1 l1=> ?_
 simp only[cA,nA]
 refine a0d (b4V (hr.mono l1) hv hk (hp.mono l1) ho) rfl ?_
 rintro r H2 ⟨l2,h2⟩
 refine⟨(fun _=>l2),?_⟩
 simp only[cA,nA]
 exact a0c rfl ⟨l1.trans l2,h2⟩
theorem c6r (hr:RoR H w us) (hv:RoV n us) (hk:1<=k/\k<=8) (hp:SI H v p) (ho:PlOk n k p):Con prog 90 [rov w,v,ii (k:Nat)] H fun r H'=>PH.le H H'/\∃t,r= .tuple #[t,ii 0]/\SI H' t (a2j (·.ppl) us p k n):=by
 refine a0b mixed d1P (by kernel_rfl) rfl ?_
 refine a0a (a1A hr.one) ?_
 refine a0A (cs:= #[ii 2,ii 3,ii 2,w]) rfl fun a ha=> ?_
 simp only[cA,nA]
 refine a0a (hp.one) ?_
 refine a0A (cs:= #[v]) hp.cells fun c hc=> ?_
 simp only[cA,nA]
 refine a0a (el_int.vcells _) ?_
 refine a0A (cs:= #[ii (k:Nat)]) rfl fun b hb=> ?_
 simp only[cA,nA]
 refine a0O (a0z (vs:=[.pointer (some ⟨a,0,none⟩),.pointer (some ⟨b,0,none⟩),.pointer (some ⟨c,0,none⟩)]) rfl rfl) rfl ?_
 simp only[cA,nA]
 have la:=PH.le_put ha (.cells #[ii 2,ii 3,ii 2,w] 35 (0,0))
 have lc:=PH.le_put hc (.cells #[v] 39 (0,0))
 have lb:=PH.le_put hb (.cells #[ii (k:Nat)] 3 (0,0))
 have l0:=(la.trans lc).trans lb
 have hcap:d3x _ a b c w v k:=⟨lb _ _ (lc _ _ (PH.put_self _ _ _)),PH.put_self _ _ _,lb _ _ (PH.put_self _ _ _)⟩
 refine a0d (a1B (caps:=[.pointer (some ⟨a,0,none⟩),.pointer (some ⟨b,0,none⟩),.pointer (some ⟨c,0,none⟩)]) mixed d7d d8p c0J (c0M hcap (hr.mono l0) hv hk (hp.mono l0) ho) (fun _ _ h=>d8r h.2)) rfl ?_
 rintro _ H4 ⟨t,⟨l4,ht⟩,rfl⟩
 refine⟨fun h=>(nomatch h),?_⟩
 simp only[cA,nA]
 refine a0a ⟨_,rfl,by simp⟩ ?_
 refine a0a ⟨_,rfl,by simp⟩ ?_
 exact a0c rfl ⟨l0.trans l4,t,rfl,ht⟩
theorem b6B {a b c:Nat} (hc:d3x H a b c w v k) (hr:RoR H w us) (hv:RoV n us) (hk:1<=k/\k<=8) (hp:SI H v p) (ho:PlOk n k p):a1g prog 274 [.pointer (some ⟨a,0,none⟩),.pointer (some ⟨b,0,none⟩),.pointer (some ⟨c,0,none⟩)] H (.bool true):=by
 refine a0b mixed c6k (by kernel_rfl) rfl ?_
 refine a0N (vs:=[ii 2,ii 3,ii 2,w]) a4d rfl rfl hc.ro rfl (by simp) rfl ?_
 simp only[cA,nA]
 refine a0g sc_int rfl rfl hc.nk rfl rfl ?_
 simp only[cA,nA]
 refine a0g a1Q rfl rfl hc.pl rfl rfl ?_
 simp only[cA,nA]
 refine a0h (a8i hr hv hk) rfl fun H1 l1=> ?_
 simp only[cA,nA]
 refine a0h (b1Z (hr.mono l1) hv hk (hp.mono l1) ho) rfl fun H2 l2=> ?_
 simp only[cA,nA]
 exact a0c rfl ⟨l1.trans l2,rfl⟩
theorem c0N (hr:RoR H w us) (hv:RoV n us) (hk:1<=k/\k<=8) (hp:SI H v p) (ho:PlOk n k p):a1g prog 262 [rov w,v,ii (k:Nat)] H (ii 0):=by
 refine a0b mixed d1Q (by kernel_rfl) rfl ?_
 refine a0a (a1A hr.one) ?_
 refine a0A (cs:= #[ii 2,ii 3,ii 2,w]) rfl fun a ha=> ?_
 simp only[cA,nA]
 refine a0a (hp.one) ?_
 refine a0A (cs:= #[v]) hp.cells fun c hc=> ?_
 simp only[cA,nA]
 refine a0a (el_int.vcells _) ?_
 refine a0A (cs:= #[ii (k:Nat)]) rfl fun b hb=> ?_
 simp only[cA,nA]
 refine a0O (a0z (vs:=[.pointer (some ⟨a,0,none⟩),.pointer (some ⟨b,0,none⟩),.pointer (some ⟨c,0,none⟩)]) rfl rfl) rfl ?_
 simp only[cA,nA]
 have la:=PH.le_put ha (.cells #[ii 2,ii 3,ii 2,w] 35 (0,0))
 have lc:=PH.le_put hc (.cells #[v] 39 (0,0))
 have lb:=PH.le_put hb (.cells #[ii (k:Nat)] 3 (0,0))
 have l0:=(la.trans lc).trans lb
 have hcap:d3x _ a b c w v k:=⟨lb _ _ (lc _ _ (PH.put_self _ _ _)),PH.put_self _ _ _,lb _ _ (PH.put_self _ _ _)⟩
 refine a0d (a1B (caps:=[.pointer (some ⟨a,0,none⟩),.pointer (some ⟨b,0,none⟩),.pointer (some ⟨c,0,none⟩)]) mixed d7e d8q c0K (b6B hcap (hr.mono l0) hv hk (hp.mono l0) ho) (fun _ _ h=>by rw[h.2];exact d8s true)) rfl ?_
 rintro _ H4 ⟨t,⟨l4,rfl⟩,rfl⟩
 refine⟨fun h=>(nomatch h),?_⟩
 simp only[cA,nA]
 refine a0a ⟨_,rfl,by simp⟩ ?_
 refine a0a ⟨_,rfl,by simp⟩ ?_
 exact a0c rfl ⟨l0.trans l4,rfl⟩
theorem c0O {l:List Int} (hu:SI H u l) (hl:l.length<=1000000) (a:Int):a1g prog 238 [ii a,u] H (ii (b2O a l)):=by
 refine a0b mixed d1T (by kernel_rfl) rfl ?_
 refine a0j el_int rfl rfl hu rfl ?_
 refine a0W (α:=Nat) (fun i=>[ii (b2O a (l.take i)),ii (i:Nat)]) (fun i=>i<=l.length) (fun i=>l.length-i) (0) rfl ((Nat.zero_le _)) fun i hQ=> ?_
 simp only[cA,nA]
 refine a0a ⟨_,rfl⟩ ?_
 refine a0a ⟨_,rfl⟩ ?_
 refine a0f (b:=decide (((i:Nat):Int)<(l.length:Nat))) rfl (fun h=> ?_) (fun h=> ?_)
 ·replace h:=of_decide_eq_true h
  have hi':i<l.length:=by omega
  obtain⟨x,hx,_⟩:=a0t hi'
  refine a0m el_int rfl rfl rfl rfl (fun _=>rfl) hu hx rfl (fun _=>rfl) fun _=> ?_
  simp only[cA,nA]
  refine a0l ((b4N (vs:=[ii (b2O a (l.take i)),ii x]) rfl rfl rfl).rds _) rfl ?_
  simp only[cA,nA]
  exact⟨(i+1),by show l.length-(i+1)<l.length-i;omega,(a0R (by rw[take_snoc hx,b2b];rfl) (a0J rfl (by omega))),⟨hi',rfl⟩⟩
 ·replace h:=of_decide_eq_false h
  rw[List.take_of_length_le (by omega)]
  exact a0c rfl ⟨PH.le.refl _,rfl⟩
theorem c0P {l:List Int} (hu:SI H u l) (hl:l.length<=1000000) (a:Int):a1g prog 239 [ii a,u] H (ii (b2N a l)):=by
 refine a0b mixed d1S (by kernel_rfl) rfl ?_
 refine a0j el_int rfl rfl hu rfl ?_
 refine a0W (α:=Nat) (fun i=>[ii (b2N a (l.take i)),ii (i:Nat)]) (fun i=>i<=l.length) (fun i=>l.length-i) (0) rfl ((Nat.zero_le _)) fun i hQ=> ?_
 simp only[cA,nA]
 refine a0a ⟨_,rfl⟩ ?_
 refine a0a ⟨_,rfl⟩ ?_
 refine a0f (b:=decide (((i:Nat):Int)<(l.length:Nat))) rfl (fun h=> ?_) (fun h=> ?_)
 ·replace h:=of_decide_eq_true h
  have hi':i<l.length:=by omega
  obtain⟨x,hx,_⟩:=a0t hi'
  refine a0m el_int rfl rfl rfl rfl (fun _=>rfl) hu hx rfl (fun _=>rfl) fun _=> ?_
  simp only[cA,nA]
  refine a0l ((a6I (vs:=[ii (b2N a (l.take i)),ii x]) rfl rfl rfl).rds _) rfl ?_
  simp only[cA,nA]
  exact⟨(i+1),by show l.length-(i+1)<l.length-i;omega,(a0R (by rw[take_snoc hx,b2a];rfl) (a0J rfl (by omega))),⟨hi',rfl⟩⟩
 ·replace h:=of_decide_eq_false h
  rw[List.take_of_length_le (by omega)]
  exact a0c rfl ⟨PH.le.refl _,rfl⟩
theorem b2d (a b:Nat):Asks prog 235 [shv a b,ii 0] H (shv a b):=by
 refine a0b mixed d1H (by kernel_rfl) rfl ?_
 refine a0a (a0s a b) ?_
 refine a0a ⟨_,rfl⟩ ?_
 refine a0e (bF (p:=(0:Int)≠0) (by simp)) ?_
 exact a0c rfl ⟨rfl,rfl⟩
theorem b4Y {a b:Int} {r:Rat} (p0: -9223372036854775808<=a) (p1:a<9223372036854775808) (q0: -9223372036854775808<=b) (q1:b<9223372036854775808) (hb:b≠0) (hr:Rat.divInt a b=r) (hg:Rg r):a1g prog 237 [ii a,ii b] H (shR r):=by
 refine a0b mixed d4Z (by kernel_rfl) rfl ?_
 have e:a7L a b= .tuple #[shR r,ii 0]:=by unfold a7L;rw[if_neg hb,hr,a5V hg];rfl
 refine a0h ((show a1g prog 240 [ii a,ii b] H (.tuple #[shR r,ii 0])from(b8X a b p0 p1 q0 q1).mono fun u H' h=>⟨h.1,h.2.trans e⟩)) rfl fun H1 l1=> ?_
 simp only[cA,nA]
 refine a0a ⟨_,rfl,by simp⟩ ?_
 refine a0a ⟨_,rfl,by simp⟩ ?_
 refine a0q (b2d _ _) rfl ?_
 simp only[cA,nA]
 refine a0a (a0s _ _) ?_
 exact a0c rfl ⟨l1,rfl⟩
theorem c8d {i j m:Nat} {r q:Rat} (hr:Rb i r) (hq:Rb j q) (h0:q≠0) (hm:i+j<=m):Rb m (r/q):=by
 refine Rb.le (k:=m) (j:=i+j) ?_ hm
 rw[<-b8Q]
 have hn:q.num≠0:=fun e=>h0 (Rat.num_eq_zero.1 e)
 have hd:(r.den:Int)≠0:=by have:=r.den_nz;omega
 refine a5o (Int.mul_ne_zero hd hn) ?_ ?_
 ·rw[Int.natAbs_mul,Int.natAbs_natCast,Nat.pow_add]
  exact Nat.mul_lt_mul_of_lt_of_le hr.1 (Nat.le_of_lt hq.2) (Nat.two_pow_pos _)
 ·rw[Int.natAbs_mul,Int.natAbs_natCast,Nat.pow_add]
  exact Nat.mul_lt_mul_of_lt_of_le hr.2 (Nat.le_of_lt hq.1) (Nat.two_pow_pos _)
theorem c0Q {r q:Rat} (hr:Rg r) (hq:Rg q) (h0:q≠0) (hrq:Rg (r/q)):a1g prog 236 [shR r,shR q] H (.tuple #[shR (r/q),ii 0]):=
 (c4Z _ _ _ _).mono fun u H' h=>⟨h.1,by
  rw[h.2,b8Z hr,b8Z hq,a9c hr,a9c hq]
  unfold d6N
  rw[if_pos (show(true&&true)=true from rfl),if_neg h0,a5V hrq];rfl⟩
theorem b6C {a b c:Nat} (hc:d3x H a b c w v k) (hr:RoR H w us) (hv:RoV n us) (hk:1<=k/\k<=8) (hp:SI H v p) (ho:PlOk n k p) (hz:a5B us n≠0):a1g prog 233 [.pointer (some ⟨a,0,none⟩),.pointer (some ⟨b,0,none⟩),.pointer (some ⟨c,0,none⟩)] H (shR (c6q us p k n))/\Rb 100 (c6q us p k n):=by
 have h64:=hv.l64
 have hle:=hv.le
 have hps:=b1Y hv.un n
 have hto:∀d,0<=a0V Un.ppl us p n d/\a0V Un.ppl us p n d<=64000000000:=fun d=>by
  have:=a9j (p:=p) (f:=Un.ppl) (by omega) (a8l hv) d n
  omega
 have hall:∀x∈a2j Un.ppl us p k n,0<=x/\x<=64000000000:=fun x hx=>by
  obtain⟨d,_,rfl⟩:=List.mem_map.1 hx
  exact hto d
 have hmx:=b4X _ _ (hto 0) hall
 have hmn:=b4W _ _ (hto 0) hall
 generalize hg:b2O (a0V Un.ppl us p n 0) (a2j Un.ppl us p k n)=g at hmx
 generalize hl:b2N (a0V Un.ppl us p n 0) (a2j Un.ppl us p k n)=l at hmn
 have e0:c6q us p k n=((g-l:Int):Rat)/Rat.divInt (a5B us n) (k:Nat):=by unfold c6q;rw[hg,hl]
 have hp40:(2:Nat)^40=1099511627776:=by decide
 have b1:Rb 40 ((g-l:Int):Rat):=⟨by rw[Rat.num_intCast];omega,by rw[Rat.den_intCast];omega⟩
 have b2:Rb 40 (Rat.divInt (a5B us n) (k:Nat)):=a5o (by omega) (by omega) (by omega)
 have h0:Rat.divInt (a5B us n) (k:Nat)≠0:=b2c hz (by omega)
 have b3:Rb 100 (((g-l:Int):Rat)/Rat.divInt (a5B us n) (k:Nat)):=c8d b1 b2 h0 (by decide)
 have e1:Rat.divInt (g-l) 1=((g-l:Int):Rat):=a8m _
 rw[e0]
 refine⟨?_,b3⟩
 refine a0b mixed c6l (by kernel_rfl) rfl ?_
 refine a0N (vs:=[ii 2,ii 3,ii 2,w]) a4d rfl rfl hc.ro rfl (by simp) rfl ?_
 simp only[cA,nA]
 refine a0g sc_int rfl rfl hc.nk rfl rfl ?_
 simp only[cA,nA]
 refine a0h (a8i hr hv hk) rfl fun H1 l1=> ?_
 simp only[cA,nA]
 refine a0a (a8h hr.one) ?_
 refine a0g a1Q rfl rfl (l1 _ _ hc.pl) rfl rfl ?_
 simp only[cA,nA]
 refine a0d (b4V (hr.mono l1) hv hk (hp.mono l1) ho) rfl ?_
 rintro r H2 ⟨l2,h2⟩
 refine⟨(fun _=>l2),?_⟩
 simp only[cA,nA]
 refine a0h (c0H (hr.mono (l1.trans l2)) hv) rfl fun H3 l3=> ?_
 simp only[cA,nA]
 refine a0a ⟨_,rfl⟩ ?_
 refine a0q (a4c 7) (a0R (d7c hz) rfl) ?_
 simp only[cA,nA]
 refine a0m el_int rfl rfl rfl rfl (fun _=>rfl) (h2.mono l3) (a1V (f:=Un.ppl) (us:=us) (p:=p) (i:=n) (show 0<k by omega)) rfl (fun _=>rfl) fun _=> ?_
 simp only[cA,nA]
 refine a0m el_int rfl rfl rfl rfl (fun _=>rfl) (h2.mono l3) (a1V (f:=Un.ppl) (us:=us) (p:=p) (i:=n) (show 0<k by omega)) rfl (fun _=>rfl) fun _=> ?_
 simp only[cA,nA]
 refine a0g sc_int rfl rfl ((l1.trans (l2.trans l3)) _ _ hc.nk) rfl rfl ?_
 simp only[cA,nA]
 refine a0h (c0O (h2.mono l3) (by rw[a1P];omega) (a0V Un.ppl us p n 0)) rfl fun H4 l4=> ?_
 simp only[cA,nA]
 refine a0h (c0P (h2.mono (l3.trans l4)) (by rw[a1P];omega) (a0V Un.ppl us p n 0)) rfl fun H5 l5=> ?_
 simp only[cA,nA]
 refine a0a ⟨_,rfl⟩ ?_
 refine a0a ⟨_,rfl⟩ ?_
 refine a0h (b4Y (a:=g-l) (b:=1) (by omega) (by omega) (by decide) (by decide) (by decide) e1 (b3w b1 (by decide))) (a0R (by rw[hg,hl];exact a7R rfl rfl (by omega) (by omega)) rfl) fun H6 l6=> ?_
 simp only[cA,nA]
 refine a0h (b4Y (a:=a5B us n) (b:=(k:Nat)) (by omega) (by omega) (by omega) (by omega) (by omega) rfl (b3w b2 (by decide))) rfl fun H7 l7=> ?_
 simp only[cA,nA]
 refine a0h (c0Q (b3w b1 (by decide)) (b3w b2 (by decide)) h0 (b3w b3 (by decide))) rfl fun H8 l8=> ?_
 simp only[cA,nA]
 refine a0a ⟨_,rfl,by simp⟩ ?_
 refine a0a ⟨_,rfl,by simp⟩ ?_
 refine a0q (b2d _ _) rfl ?_
 simp only[cA,nA]
 refine a0a (a0s _ _) ?_
 exact a0c rfl ⟨l1.trans (l2.trans (l3.trans (l4.trans (l5.trans (l6.trans (l7.trans l8)))))),rfl⟩
theorem c0R (hr:RoR H w us) (hv:RoV n us) (hk:1<=k/\k<=8) (hp:SI H v p) (ho:PlOk n k p) (hz:a5B us n≠0):a1g prog 195 [rov w,v,ii (k:Nat)] H (.tuple #[shR (c6q us p k n),ii 0]):=by
 refine a0b mixed d1R (by kernel_rfl) rfl ?_
 refine a0a (a1A hr.one) ?_
 refine a0A (cs:= #[ii 2,ii 3,ii 2,w]) rfl fun a ha=> ?_
 simp only[cA,nA]
 refine a0a (hp.one) ?_
 refine a0A (cs:= #[v]) hp.cells fun c hc=> ?_
 simp only[cA,nA]
 refine a0a (el_int.vcells _) ?_
 refine a0A (cs:= #[ii (k:Nat)]) rfl fun b hb=> ?_
 simp only[cA,nA]
 refine a0O (a0z (vs:=[.pointer (some ⟨a,0,none⟩),.pointer (some ⟨b,0,none⟩),.pointer (some ⟨c,0,none⟩)]) rfl rfl) rfl ?_
 simp only[cA,nA]
 have la:=PH.le_put ha (.cells #[ii 2,ii 3,ii 2,w] 35 (0,0))
 have lc:=PH.le_put hc (.cells #[v] 39 (0,0))
 have lb:=PH.le_put hb (.cells #[ii (k:Nat)] 3 (0,0))
 have l0:=(la.trans lc).trans lb
 have hcap:d3x _ a b c w v k:=⟨lb _ _ (lc _ _ (PH.put_self _ _ _)),PH.put_self _ _ _,lb _ _ (PH.put_self _ _ _)⟩
 refine a0d (a1B (caps:=[.pointer (some ⟨a,0,none⟩),.pointer (some ⟨b,0,none⟩),.pointer (some ⟨c,0,none⟩)]) mixed d7f d7T c0L (b6C hcap (hr.mono l0) hv hk (hp.mono l0) ho hz).1 (fun _ _ h=>by rw[h.2];exact d7U _ _)) rfl ?_
 rintro _ H4 ⟨t,⟨l4,rfl⟩,rfl⟩
 refine⟨fun h=>(nomatch h),?_⟩
 simp only[cA,nA]
 refine a0a ⟨_,rfl,by simp⟩ ?_
 refine a0a ⟨_,rfl,by simp⟩ ?_
 refine a0a (a0s _ _) ?_
 exact a0c rfl ⟨l0.trans l4,rfl⟩
end
end Go.Proofs.YtlmgkkjgdapnpaaGreatDoor
/- Plans: cut edges. -/
namespace Go.GS
theorem PlOk.ok {n k:Nat} {p:List Int} (h:PlOk n k p) (h1:1<=n) (h64:n<=64):LabOk p (k:Nat)/\b7b p k:=by
 refine⟨⟨h.lab,by rw[h.len];omega,by rw[h.len];exact h64⟩,fun d hd e=> ?_⟩
 obtain⟨i,hi⟩:=List.mem_iff_getElem?.1 (h.all d hd)
 have hlt:=(List.getElem?_eq_some_iff.1 hi).1
 have:bit (b3C p d) i=true:=by unfold b3C;rw[a7U,decide_eq_true hlt,decide_eq_true hi];rfl
 rw[e,a1N]at this;cases this
def c8e (es:List (Nat×Nat)) (p:List Int):Nat:=es.countP fun e=>decide (p[e.1]?≠p[e.2]?)
end Go.GS
namespace Go.Proofs.YtlmgkkjgdapnpaaGreatDoor
open Go.Proofs.Tryz
open Go.RowKit Go.RX Go.GS Go.RZ Go.WD
set_option maxRecDepth 100000
section
variable {H B:PH} {n k:Nat} {es:List (Nat×Nat)} {w:Value} {u v:Value} {p:List Int}
theorem c0S (hw:SG H w es) (hg:GV n es) (hu:SI H u p) (hk:1<=k/\k<=8) (ho:PlOk n k p):Con prog 129 [gv n w,u,ii (k:Nat)] H fun r H'=>PH.le H H'/\∃b z,r= .tuple #[.pointer (some ⟨b,0,none⟩),ii 0]/\H' b=some (.cells #[ii (n:Nat),w,u,z] 283 (0,0)):=by
 refine a0b mixed b9e (by kernel_rfl) rfl ?_
 obtain⟨hL,hU⟩:=ho.ok hg.n1 hg.n64
 refine a0a (a2e hw) ?_
 refine a0h (a2f hw hg) rfl fun H1 l1=> ?_
 simp only[cA,nA]
 refine a0a ⟨_,rfl⟩ ?_
 refine a0e (bF (p:=(0:Int)≠0) (by simp)) ?_
 refine a0a ⟨_,rfl⟩ ?_
 refine a0e (bF (p:=((k:Nat):Int)<1) (by omega)) ?_
 refine a0e (bF (p:=((k:Nat):Int)>8) (by omega)) ?_
 refine a0j a0S rfl rfl (hu.mono l1) rfl ?_
 refine a0a ⟨_,rfl⟩ ?_
 refine a0a ⟨_,rfl⟩ ?_
 refine a0e (d2g (a:=((p.length:Nat):Int)) (b:=((n:Nat):Int)) (by have:=ho.len;omega)) ?_
 refine a0q (b0o (hu.mono l1) (k:Nat)) rfl ?_
 simp only[cA,nA]
 refine a0a ⟨_,rfl⟩ ?_
 refine a0e (by show Value.bool (!decide (LabOk p (k:Nat)))=_;rw[decide_eq_true hL];rfl) ?_
 refine a0d (b0p (by omega) (hu.mono l1) hL) rfl ?_
 rintro _ H2 ⟨l2,z,rfl,hz⟩
 refine⟨fun h=>(nomatch h),?_⟩
 simp only[cA,nA]
 refine a0a ⟨_,rfl,by simp⟩ ?_
 refine a0a ⟨_,rfl,by simp⟩ ?_
 refine a0a ⟨_,rfl⟩ ?_
 refine a0e (by show Value.bool (!decide (b7b p k))=_;rw[decide_eq_true hU];rfl) ?_
 refine a0a ((hu.mono l1).one) ?_
 refine a0a ((hz hU).one) ?_
 refine a0A (cs:=_) rfl fun b hb=> ?_
 simp only[cA,nA]
 have hzz:=hz hU
 obtain⟨_,a,c,rfl,_⟩:=id hzz
 obtain⟨_,a2,c2,rfl,_⟩:=id hu
 exact a0c rfl ⟨(l1.trans l2).trans (PH.le_put hb _),b,_,rfl,by rw[PH.put_self];rfl⟩
theorem d5c:FA prog 283 0 0:=⟨by kernel_rfl,of_decide_eq_true (by kernel_rfl),by kernel_rfl,by kernel_rfl,of_decide_eq_true (by kernel_rfl)⟩
theorem c8f:FA prog 283 1 2:=⟨by kernel_rfl,of_decide_eq_true (by kernel_rfl),by kernel_rfl,by kernel_rfl,of_decide_eq_true (by kernel_rfl)⟩
theorem d5d:FA prog 32 1 1:=⟨by kernel_rfl,of_decide_eq_true (by kernel_rfl),by kernel_rfl,by kernel_rfl,of_decide_eq_true (by kernel_rfl)⟩
theorem d5e:Sc prog 30:=⟨by kernel_rfl,by kernel_rfl,by kernel_rfl⟩
theorem c0T {es:List (Nat×Nat)} {p:List Int} {i:Nat} {e:Nat×Nat} (h:es[i]? =some e):c8e (es.take (i+1)) p=c8e (es.take i) p+if p[e.1]?≠p[e.2]? then 1 else 0:=by
 unfold c8e
 rw[take_snoc h,List.countP_append]
 simp[List.countP_cons]
theorem b3J {es:List (Nat×Nat)} {p:List Int}:c8e es p<=es.length:=List.countP_le_length
theorem c0U (hw:SG H w es) (hg:GV n es) (hu:SI H u p) (hk:1<=k/\k<=8) (ho:PlOk n k p):a1g prog 198 [gv n w,u,ii (k:Nat)] H (.tuple #[ii (c8e es p:Nat),ii 0]):=by
 refine a0b mixed d2f (by kernel_rfl) rfl ?_
 have hel:=hg.len
 have hpl:=ho.len
 refine a0a (a2e hw) ?_
 refine a0d (c0S hw hg hu hk ho) rfl ?_
 rintro _ H1 ⟨l1,b,z,rfl,hb⟩
 refine⟨fun h=>(nomatch h),?_⟩
 simp only[cA,nA]
 refine a0a ⟨_,rfl,by simp⟩ ?_
 refine a0a ⟨_,rfl,by simp⟩ ?_
 refine a0a ⟨_,rfl⟩ ?_
 refine a0e (bF (p:=(0:Int)≠0) (by simp)) ?_
 refine a0u (ad:=⟨b,0,none⟩) rfl rfl rfl ?_
 simp only[cA,nA]
 refine a0i d5c rfl rfl rfl ?_
 simp only[cA,nA]
 refine a0i d5d rfl rfl rfl ?_
 simp only[cA,nA]
 refine a0g d5e rfl rfl hb rfl rfl ?_
 simp only[cA,nA]
 refine a0j el_edge rfl rfl (hw.mono l1) rfl ?_
 refine a0W (α:=Nat) (fun i=>[ii (c8e (es.take i) p:Nat),ii (i:Nat)]) (fun i=>i<=es.length) (fun i=>es.length-i) (0) rfl ((Nat.zero_le _)) fun i hQ=> ?_
 simp only[cA,nA]
 refine a0a ⟨_,rfl⟩ ?_
 refine a0a ⟨_,rfl⟩ ?_
 refine a0f (b:=decide (((i:Nat):Int)<(es.length:Nat))) rfl (fun h=> ?_) (fun h=> ?_)
 ·replace h:=of_decide_eq_true h
  have hi':i<es.length:=by omega
  obtain⟨e,he,_⟩:=a0t hi'
  have hed:=hg.ed _ (List.mem_of_getElem? he)
  have hcl:=b3J (es:=es.take i) (p:=p)
  rw[List.length_take]at hcl
  refine a0m el_edge rfl rfl rfl rfl (fun _=>rfl) (hw.mono l1) he rfl (fun _=>rfl) fun _=> ?_
  simp only[cA,nA]
  refine a0a (el_edge.vcells e) ?_
  refine a0u (ad:=⟨b,0,none⟩) rfl rfl rfl ?_
  simp only[cA,nA]
  refine a0i c8f rfl rfl rfl ?_
  simp only[cA,nA]
  refine a0g a1Q rfl rfl hb rfl rfl ?_
  simp only[cA,nA]
  obtain⟨x,hx,_⟩:=a0t (show e.1<p.length by omega)
  obtain⟨y,hy,_⟩:=a0t (show e.2<p.length by omega)
  refine a0m a0S rfl rfl rfl rfl (fun _=>rfl) (hu.mono l1) hx rfl (fun _=>rfl) fun _=> ?_
  simp only[cA,nA]
  refine a0u (ad:=⟨b,0,none⟩) rfl rfl rfl ?_
  simp only[cA,nA]
  refine a0i c8f rfl rfl rfl ?_
  simp only[cA,nA]
  refine a0g a1Q rfl rfl hb rfl rfl ?_
  simp only[cA,nA]
  refine a0m a0S rfl rfl rfl rfl (fun _=>rfl) (hu.mono l1) hy rfl (fun _=>rfl) fun _=> ?_
  simp only[cA,nA]
  have hsn:=c0T (p:=p) he
  rw[hx,hy]at hsn
  refine a0a ⟨_,rfl⟩ ?_
  refine a0a ⟨_,rfl⟩ ?_
  refine a0f (b:=decide (x≠y)) (by show Value.bool (x !=y)=_;rw[bN]) (fun hxy=> ?_) (fun hxy=> ?_)
  ·replace hxy:=of_decide_eq_true hxy
   rw[if_pos (by simpa using hxy)]at hsn
   refine a0a ⟨_,rfl⟩ ?_
   exact⟨(i+1),by show es.length-(i+1)<es.length-i;omega,(a0R (by rw[hsn];exact a0J rfl (by omega)) (a0J rfl (by omega))),⟨hi',rfl⟩⟩
  ·replace hxy:=of_decide_eq_false hxy
   rw[if_neg (by simpa using hxy)]at hsn
   exact⟨(i+1),by show es.length-(i+1)<es.length-i;omega,(a0R (by rw[hsn];rfl) (a0J rfl (by omega))),⟨hi',rfl⟩⟩
 ·replace h:=of_decide_eq_false h
  rw[List.take_of_length_le (by omega)]
  exact a0c rfl ⟨l1,rfl⟩
end
end Go.Proofs.YtlmgkkjgdapnpaaGreatDoor
/- slices.SortFunc of the shelf at structs of this program: laid by the kit. -/
namespace Go.Proofs
open Go.Shelf
def Tryz.srtM_ren:Go.Shelf.Ren:=⟨fun|14=>121|20=>168|21=>169|22=>170|23=>171|24=>172|25=>173|26=>174|27=>175|46=>222|47=>223|48=>224|49=>225|50=>226|15=>122|57=>255|28=>176|29=>177|n=>n,fun|24=>72|22=>42|3=>3|25=>162|4=>4|0=>0|46=>265|45=>264|50=>178|66=>312|39=>173|55=>57|70=>316|76=>344|77=>345|53=>231|5=>5|9=>9|n=>n,fun|n=>n⟩
theorem Tryz.srtM:Go.Proofs.SlLaysF0.n14 prog Tryz.srtM_ren:={
 mixed:=by kernel_rfl
 f14:=⟨f121.name,by decide,Tryz.func121.trans (congrArg some (by kernel_rfl))⟩
 f15:=Tryz.func122.trans (congrArg some (by kernel_rfl))
 f20:=⟨f168.name,by decide,Tryz.func168.trans (congrArg some (by kernel_rfl))⟩
 f21:=⟨f169.name,by decide,Tryz.func169.trans (congrArg some (by kernel_rfl))⟩
 f22:=⟨f170.name,by decide,Tryz.func170.trans (congrArg some (by kernel_rfl))⟩
 f23:=⟨f171.name,by decide,Tryz.func171.trans (congrArg some (by kernel_rfl))⟩
 f24:=⟨f172.name,by decide,Tryz.func172.trans (congrArg some (by kernel_rfl))⟩
 f25:=⟨f173.name,by decide,Tryz.func173.trans (congrArg some (by kernel_rfl))⟩
 f26:=⟨f174.name,by decide,Tryz.func174.trans (congrArg some (by kernel_rfl))⟩
 f27:=⟨f175.name,by decide,Tryz.func175.trans (congrArg some (by kernel_rfl))⟩
 f28:=Tryz.func176.trans (congrArg some (by kernel_rfl))
 f29:=Tryz.func177.trans (congrArg some (by kernel_rfl))
 f46:=⟨f222.name,by decide,Tryz.func222.trans (congrArg some (by kernel_rfl))⟩
 f47:=Tryz.func223.trans (congrArg some (by kernel_rfl))
 f48:=Tryz.func224.trans (congrArg some (by kernel_rfl))
 f49:=⟨f225.name,by decide,Tryz.func225.trans (congrArg some (by kernel_rfl))⟩
 f50:=⟨f226.name,by decide,Tryz.func226.trans (congrArg some (by kernel_rfl))⟩
 f57:=⟨f255.name,by decide,Tryz.func255.trans (congrArg some (by kernel_rfl))⟩
 t0:=Tryz.underlying0
 a0:=Tryz.isAgg0
 z0:=Tryz.sizeOf0
 v0:=Tryz.zeroValue0
 t3:=Tryz.underlying3
 a3:=Tryz.isAgg3
 z3:=Tryz.sizeOf3
 v3:=Tryz.zeroValue3
 t4:=Tryz.underlying4
 a4:=Tryz.isAgg4
 z4:=Tryz.sizeOf4
 v4:=Tryz.zeroValue4
 t5:=Tryz.underlying5
 a5:=Tryz.isAgg5
 z5:=Tryz.sizeOf5
 v5:=Tryz.zeroValue5
 t9:=Tryz.underlying9
 a9:=Tryz.isAgg9
 z9:=Tryz.sizeOf9
 v9:=Tryz.zeroValue9
 t22:=Tryz.underlying42
 a22:=Tryz.isAgg42
 z22:=Tryz.sizeOf42
 v22:=Tryz.zeroValue42
 t25:=Tryz.underlying162
 a25:=Tryz.isAgg162
 z25:=Tryz.sizeOf162
 v25:=Tryz.zeroValue162
 t39:=Tryz.underlying173
 a39:=Tryz.isAgg173
 z39:=Tryz.sizeOf173
 v39:=Tryz.zeroValue173
 t45:=Tryz.underlying264
 a45:=Tryz.isAgg264
 z45:=Tryz.sizeOf264
 v45:=Tryz.zeroValue264
 t46:=Tryz.underlying265
 a46:=Tryz.isAgg265
 z46:=Tryz.sizeOf265
 v46:=Tryz.zeroValue265
 t50:=Tryz.underlying178
 a50:=Tryz.isAgg178
 z50:=Tryz.sizeOf178
 v50:=Tryz.zeroValue178
 t53:=Tryz.underlying231
 a53:=Tryz.isAgg231
 z53:=Tryz.sizeOf231
 v53:=Tryz.zeroValue231
 t55:=Tryz.underlying57
 a55:=Tryz.isAgg57
 z55:=Tryz.sizeOf57
 v55:=Tryz.zeroValue57
 t66:=Tryz.underlying312
 a66:=Tryz.isAgg312
 z66:=Tryz.sizeOf312
 v66:=Tryz.zeroValue312
 t70:=Tryz.underlying316
 a70:=Tryz.isAgg316
 z70:=Tryz.sizeOf316
 v70:=Tryz.zeroValue316
 t76:=Tryz.underlying344
 a76:=Tryz.isAgg344
 z76:=Tryz.sizeOf344
 v76:=Tryz.zeroValue344
 t77:=Tryz.underlying345
 a77:=Tryz.isAgg345
 z77:=Tryz.sizeOf345
 v77:=Tryz.zeroValue345}
def Tryz.srtP_ren:Go.Shelf.Ren:=⟨fun|6=>277|15=>122|14=>283|28=>176|29=>177|20=>285|21=>286|22=>287|23=>288|24=>289|25=>290|26=>291|27=>292|46=>293|47=>223|48=>224|49=>294|50=>295|57=>296|n=>n,fun|22=>328|24=>332|25=>378|3=>3|39=>173|0=>0|53=>231|55=>57|4=>4|46=>265|45=>264|50=>178|5=>5|9=>9|66=>312|70=>316|76=>344|77=>345|n=>n,fun|n=>n⟩
theorem Tryz.srtP:Go.Proofs.SlLaysF0.n6 prog Tryz.srtP_ren:={
 mixed:=by kernel_rfl
 f6:=⟨f277.name,by decide,Tryz.func277.trans (congrArg some (by kernel_rfl))⟩
 f14:=⟨f283.name,by decide,Tryz.func283.trans (congrArg some (by kernel_rfl))⟩
 f15:=Tryz.func122.trans (congrArg some (by kernel_rfl))
 f20:=⟨f285.name,by decide,Tryz.func285.trans (congrArg some (by kernel_rfl))⟩
 f21:=⟨f286.name,by decide,Tryz.func286.trans (congrArg some (by kernel_rfl))⟩
 f22:=⟨f287.name,by decide,Tryz.func287.trans (congrArg some (by kernel_rfl))⟩
 f23:=⟨f288.name,by decide,Tryz.func288.trans (congrArg some (by kernel_rfl))⟩
 f24:=⟨f289.name,by decide,Tryz.func289.trans (congrArg some (by kernel_rfl))⟩
 f25:=⟨f290.name,by decide,Tryz.func290.trans (congrArg some (by kernel_rfl))⟩
 f26:=⟨f291.name,by decide,Tryz.func291.trans (congrArg some (by kernel_rfl))⟩
 f27:=⟨f292.name,by decide,Tryz.func292.trans (congrArg some (by kernel_rfl))⟩
 f28:=Tryz.func176.trans (congrArg some (by kernel_rfl))
 f29:=Tryz.func177.trans (congrArg some (by kernel_rfl))
 f46:=⟨f293.name,by decide,Tryz.func293.trans (congrArg some (by kernel_rfl))⟩
 f47:=Tryz.func223.trans (congrArg some (by kernel_rfl))
 f48:=Tryz.func224.trans (congrArg some (by kernel_rfl))
 f49:=⟨f294.name,by decide,Tryz.func294.trans (congrArg some (by kernel_rfl))⟩
 f50:=⟨f295.name,by decide,Tryz.func295.trans (congrArg some (by kernel_rfl))⟩
 f57:=⟨f296.name,by decide,Tryz.func296.trans (congrArg some (by kernel_rfl))⟩
 t0:=Tryz.underlying0
 a0:=Tryz.isAgg0
 z0:=Tryz.sizeOf0
 v0:=Tryz.zeroValue0
 t3:=Tryz.underlying3
 a3:=Tryz.isAgg3
 z3:=Tryz.sizeOf3
 v3:=Tryz.zeroValue3
 t4:=Tryz.underlying4
 a4:=Tryz.isAgg4
 z4:=Tryz.sizeOf4
 v4:=Tryz.zeroValue4
 t5:=Tryz.underlying5
 a5:=Tryz.isAgg5
 z5:=Tryz.sizeOf5
 v5:=Tryz.zeroValue5
 t9:=Tryz.underlying9
 a9:=Tryz.isAgg9
 z9:=Tryz.sizeOf9
 v9:=Tryz.zeroValue9
 t22:=Tryz.underlying328
 a22:=Tryz.isAgg328
 z22:=Tryz.sizeOf328
 v22:=Tryz.zeroValue328
 t25:=Tryz.underlying378
 a25:=Tryz.isAgg378
 z25:=Tryz.sizeOf378
 v25:=Tryz.zeroValue378
 t39:=Tryz.underlying173
 a39:=Tryz.isAgg173
 z39:=Tryz.sizeOf173
 v39:=Tryz.zeroValue173
 t45:=Tryz.underlying264
 a45:=Tryz.isAgg264
 z45:=Tryz.sizeOf264
 v45:=Tryz.zeroValue264
 t46:=Tryz.underlying265
 a46:=Tryz.isAgg265
 z46:=Tryz.sizeOf265
 v46:=Tryz.zeroValue265
 t50:=Tryz.underlying178
 a50:=Tryz.isAgg178
 z50:=Tryz.sizeOf178
 v50:=Tryz.zeroValue178
 t53:=Tryz.underlying231
 a53:=Tryz.isAgg231
 z53:=Tryz.sizeOf231
 v53:=Tryz.zeroValue231
 t55:=Tryz.underlying57
 a55:=Tryz.isAgg57
 z55:=Tryz.sizeOf57
 v55:=Tryz.zeroValue57
 t66:=Tryz.underlying312
 a66:=Tryz.isAgg312
 z66:=Tryz.sizeOf312
 v66:=Tryz.zeroValue312
 t70:=Tryz.underlying316
 a70:=Tryz.isAgg316
 z70:=Tryz.sizeOf316
 v70:=Tryz.zeroValue316
 t76:=Tryz.underlying344
 a76:=Tryz.isAgg344
 z76:=Tryz.sizeOf344
 v76:=Tryz.zeroValue344
 t77:=Tryz.underlying345
 a77:=Tryz.isAgg345
 z77:=Tryz.sizeOf345
 v77:=Tryz.zeroValue345}
end Go.Proofs

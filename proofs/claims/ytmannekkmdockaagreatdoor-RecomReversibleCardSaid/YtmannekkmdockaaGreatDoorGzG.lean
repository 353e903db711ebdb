/- Chapter 32: the parts of a set, each once; the probabilities as a list. -/
import Derived.Test.YtmannekkmdockaaGreatDoorGzF
import Derived.Test.YtmannekkmdockaaGreatDoorGsY
import Derived.Test.YtmannekkmdockaaGreatDoorGsZ
namespace Go.Proofs.YtmannekkmdockaaGreatDoor
open Go.Proofs.Tryz
open Go.RowKit Go.RX Go.GS Go.RZ
open Go.WD (BP a1E wd rs toI HM sgI Rb)
theorem d5H {part rest x k:Nat} (hk:bit part k=true) (hl:∀j,j<k->bit part j=false) (hp:part&&&rest=part) (hx:x&&&rest=x) (hlt:x<part):x<=(part-1)&&&rest:=by
 have hs:=a8g hk hl
 have hpr:∀y,bit part y=true->bit rest y=true:=fun y hy=>by
  have:bit (part&&&rest) y=true:=by rw[hp];exact hy
  rw[a1R,Bool.and_eq_true]at this;exact this.2
 have hxr:∀y,bit x y=true->bit rest y=true:=fun y hy=>by
  have:bit (x&&&rest) y=true:=by rw[hx];exact hy
  rw[a1R,Bool.and_eq_true]at this;exact this.2
 have hq:∀y,bit (2^(k+1)*(part/2^(k+1))) y=(decide (k+1<=y)&&bit part y):=fun y=>by
  unfold bit
  rw[Nat.testBit_two_pow_mul,Nat.testBit_div_two_pow]
  by_cases h:k+1<=y
  ·rw[decide_eq_true h];simp only[Bool.true_and];congr 1;omega
  ·rw[decide_eq_false h];simp
 have hle:2^(k+1)*(part/2^(k+1))<=(part-1)&&&rest:=sub_le fun y hy=>by
  rw[hq,Bool.and_eq_true,decide_eq_true_iff]at hy
  rw[a1R,a7b hk hl,if_neg (by omega),if_neg (by omega),hy.2,hpr y hy.2];rfl
 generalize hQ:part/2^(k+1)=q at hs hq hle
 have hk2:2^(k+1)=2^k*2:=Nat.pow_succ ..
 have hpos:=Nat.two_pow_pos k
 have h1:x/2^k<2*q+1:=by
  rw[Nat.div_lt_iff_lt_mul hpos]
  have:(2*q+1)*2^k=2^(k+1)*q+2^k:=by rw[hk2];grind
  omega
 by_cases e:x/2^k=2*q
 ·refine sub_le fun y hy=> ?_
  rw[a1R,a7b hk hl,hxr y hy,Bool.and_true]
  by_cases h2:y<k
  ·rw[if_pos h2]
  ·have h3:bit (2^(k+1)*q) y=true:=by
    have e2:2^(k+1)*q=2^k*(x/2^k):=by rw[e,hk2];grind
    rw[e2]
    unfold bit
    rw[Nat.testBit_two_pow_mul,Nat.testBit_div_two_pow,decide_eq_true (show y≥k by omega),Bool.true_and]
    have:y-k+k=y:=by omega
    rw[this];exact hy
   rw[hq,Bool.and_eq_true,decide_eq_true_iff]at h3
   rw[if_neg h2,if_neg (by omega)];exact h3.2
 ·have h2:x/2^k+1<=2*q:=by omega
  have h3:=Nat.lt_mul_div_succ x hpos
  have h4:2^k*(x/2^k+1)<=2^k*(2*q):=Nat.mul_le_mul_left _ h2
  have e2:2^(k+1)*q=2^k*(2*q):=by rw[hk2];grind
  omega
theorem d2m {s:Nat} (h0:s≠0):∃k,bit s k=true/\∀j,j<k->bit s j=false:=by
 obtain⟨x,hx⟩:=a2z h0
 have:∀m,(∃k,k<m/\bit s k=true)->∃k,bit s k=true/\∀j,j<k->bit s j=false:=by
  intro m
  induction m with
  |zero=>rintro⟨k,h,_⟩;omega
  |succ m ih=>
   rintro⟨k,h1,h2⟩
   by_cases h:∃k,k<m/\bit s k=true
   ·exact ih h
   ·refine⟨k,h2,fun j hj=> ?_⟩
    cases hb:bit s j with
    |false=>rfl
    |true=>exact absurd ⟨j,by omega,hb⟩ h
 exact this (x+1) ⟨x,by omega,hx⟩
theorem b6Y {rest least:Nat}:∀{n part x:Nat},part&&&rest=part->x&&&rest=x->x<part->part<=n->(x|||least)∈b6f rest least n part
 |0,part,x,_,_,h,hn=>by omega
 |n+1,part,x,hp,hx,h,hn=>by
  have h0:part≠0:=by omega
  obtain⟨k,hk,hl⟩:=d2m h0
  have hge:=d5H hk hl hp hx h
  have hle:(part-1)&&&rest<=part-1:=Nat.and_le_left
  unfold b6f
  rw[if_neg h0,List.mem_cons]
  by_cases e:x=(part-1)&&&rest
  ·exact .inl (by rw[e])
  ·exact .inr (b6Y (by rw[Nat.and_assoc,Nat.and_self]) hx (by omega) (by omega))
theorem c3b {rest least:Nat} (hd:least&&&rest=0):∀{n part:Nat},(b6f rest least n part).Nodup
 |0,_=>List.nodup_nil
 |n+1,part=>by
  unfold b6f
  split
  ·exact List.nodup_nil
  ·refine List.nodup_cons.2 ⟨fun h=> ?_,c3b hd⟩
   obtain⟨x,h1,h2,h3⟩:=b1B h
   have f:∀y,y&&&rest=y->(y|||least)&&&rest=y:=fun y hy=>by rw[Nat.and_or_distrib_right,hy,hd,Nat.or_zero]
   have e1:=f _ (show((part-1)&&&rest)&&&rest=(part-1)&&&rest by rw[Nat.and_assoc,Nat.and_self])
   rw[h3,f x h1]at e1
   omega
theorem c3c {S:Nat}:a1c S&&&sdf S (a1c S)=0:=a0F fun y=>by
 rw[a1R,a0p,a0J]
 cases bit (a1c S) y<;>simp
theorem b6Z (S:Nat):(a1z S).Nodup:=c3b c3c
theorem c3d {S a:Nat} (hs:S<M64) (h0:S≠0) (hsub:∀y,bit a y=true->bit S y=true) (hl:bit a (lst S)=true) (hne:a≠S):a∈a1z S:=by
 obtain⟨m,r,he,hm,_,_⟩:=a9d hs h0
 have hL:a1c S=2^m:=a5p hs he
 have hlm:lst S=m:=by unfold lst;rw[he];rfl
 unfold a1z
 rw[hL]
 rw[hlm]at hl
 have e:a=sdf a (2^m)|||2^m:=a0F fun y=>by
  rw[a0G,a0p,a0v]
  by_cases hy:m=y
  ·subst hy;simp[hl]
  ·simp[hy]
 have hr:sdf a (2^m)&&&sdf S (2^m)=sdf a (2^m):=a0F fun y=>by
  rw[a1R,a0p,a0p]
  cases ha:bit a y with
  |true=>rw[hsub y ha];simp
  |false=>simp
 have hle:sdf a (2^m)<=sdf S (2^m):=sub_le fun y hy=>by
  rw[a0p]at hy⊢
  simp only[Bool.and_eq_true]at hy⊢
  exact⟨hsub y hy.1,hy.2⟩
 have hlt:sdf a (2^m)<sdf S (2^m):=by
  rcases Nat.lt_or_ge (sdf a (2^m)) (sdf S (2^m))with h|h
  ·exact h
  ·refine absurd ?_ hne
   have e3:sdf a (2^m)=sdf S (2^m):=by omega
   refine a0F fun y=> ?_
   by_cases hy:m=y
   ·subst hy;rw[hl,hm]
   ·have h4:bit (sdf a (2^m)) y=bit (sdf S (2^m)) y:=by rw[e3]
    rw[a0p,a0p,a0v]at h4
    simpa[hy]using h4
 rw[e]
 exact b6Y (Nat.and_self _) hr hlt (by omega)
noncomputable def b8q (L M:List (List Int×Rat)):List (List Int×Rat):=M.foldl (fun L x=>a6Q L x.1 x.2) L
theorem b7a:∀{M L:List (List Int×Rat)},((L++M).map (·.1)).Nodup->b8q L M=L++M
 |[],L,_=>by simp[b8q]
 |x::M,L,h=>by
  have h1:a6Q L x.1 x.2=L++[x]:=by
   unfold a6Q
   rw[if_neg]
   rw[List.map_append,List.nodup_append]at h
   exact fun hx=>h.2.2 _ hx x.1 (by simp) rfl
  have h2:=b7a (M:=M) (L:=L++[x]) (by rw[List.append_assoc];exact h)
  show M.foldl _ (a6Q L x.1 x.2)=_
  rw[h1]
  rw[List.append_assoc]at h2
  exact h2
section
variable {es:List (Nat×Nat)} {wl:List Int} {lo hi:Int} {n k m:Nat} {p:List Int}
noncomputable def c6Y (es:List (Nat×Nat)) (wl:List Int) (lo hi:Int) (p:List Int) (pr:Nat×Nat) (a:Nat):Bool:=alB es wl lo hi a&&(alB es wl lo hi (sdf (unP p pr) a)&& !decide (a0r p=a0r (a2h p pr a)))
noncomputable def c3e (es:List (Nat×Nat)) (n m:Nat) (p:List Int) (pr:Nat×Nat) (a:Nat):Rat:=(((tN es a:Int):Rat)*((tN es (sdf (unP p pr) a):Int):Rat))/c3J es n m (unP p pr)
noncomputable def a8U (es:List (Nat×Nat)) (wl:List Int) (lo hi:Int) (p:List Int) (pr:Nat×Nat):List Nat:=if tN es (unP p pr)=0 then[]else(a1z (unP p pr)).filter (c6Y es wl lo hi p pr)
noncomputable def a6W (es:List (Nat×Nat)) (wl:List Int) (lo hi:Int) (k:Nat) (p:List Int):List ((Nat×Nat)×Nat):=(a0A k).flatMap fun pr=>(a8U es wl lo hi p pr).map fun a=>(pr,a)
noncomputable def c8o (es:List (Nat×Nat)) (n m:Nat) (p:List Int) (x:(Nat×Nat)×Nat):List Int×Rat:=(a0r (a2h p x.1 x.2),c3e es n m p x.1 x.2)
theorem b0b (pr:Nat×Nat):∀(l:List Nat) (L:List (List Int×Rat)),l.foldl (a4z es wl lo hi n m p pr) L=b8q L ((l.filter (c6Y es wl lo hi p pr)).map fun a=>c8o es n m p (pr,a))
 |[],L=>rfl
 |a::l,L=>by
  rw[List.foldl_cons,b0b pr l]
  unfold a4z
  have hh:(c6Y es wl lo hi p pr a=true)↔(alB es wl lo hi a=true/\alB es wl lo hi (sdf (unP p pr) a)=true/\a0r p≠a0r (a2h p pr a)):=by
   unfold c6Y
   simp
  by_cases h:c6Y es wl lo hi p pr a=true
  ·rw[if_pos (hh.1 h),List.filter_cons_of_pos h];rfl
  ·rw[if_neg (mt hh.2 h),List.filter_cons_of_neg h]
theorem b8r:a1J es wl lo hi n k p=b8q [] ((a6W es wl lo hi k p).map (c8o es n (a0A k).length p)):=by
 unfold a1J a6W
 generalize (a0A k).length=m
 have:∀(l:List (Nat×Nat)) (L:List (List Int×Rat)),l.foldl (a3G es wl lo hi n m p) L=b8q L ((l.flatMap fun pr=>(a8U es wl lo hi p pr).map fun a=>(pr,a)).map (c8o es n m p)):=by
  intro l
  induction l with
  |nil=>intro L;rfl
  |cons pr l ih=>
   intro L
   rw[List.foldl_cons,ih,List.flatMap_cons,List.map_append]
   unfold b8q
   rw[List.foldl_append]
   congr 1
   unfold a3G a8U
   split
   ·rfl
   ·rw[b0b,List.map_map];rfl
 exact this _ _
theorem b7b (hL:LabOk p (k:Nat)) (hU:a3B p k) (hpl:p.length=n) (hn:n<=64) {pr:Nat×Nat} (hpr:pr∈a0A k) {a:Nat} (ha:a∈a1z (unP p pr)):Prt p k pr.1 pr.2 a/\bit a (lst (unP p pr))=true:=by
 have hpk:=a5F hpr
 have hS:=a9W hpl hn pr
 have hS0:unP p pr≠0:=fun e=>hU pr.1 (by omega) (by unfold unP at e;exact(Nat.or_eq_zero_iff.1 e).1)
 obtain⟨h1,h2,h3⟩:=a8E (a1g hn hS) hS0 ha
 obtain⟨⟨a0,a2⟩,s0,s2⟩:=a8F hS hn hS0 ha
 exact⟨⟨hL,hU,hpk.1,hpk.2,h1,a0,s0⟩,h2⟩
theorem idx_mem {x:(Nat×Nat)×Nat}:x∈a6W es wl lo hi k p↔x.1∈a0A k/\x.2∈a1z (unP p x.1)/\tN es (unP p x.1)≠0/\alB es wl lo hi x.2=true/\alB es wl lo hi (sdf (unP p x.1) x.2)=true/\a0r p≠a0r (a2h p x.1 x.2):=by
 unfold a6W
 rw[List.mem_flatMap]
 constructor
 ·rintro⟨pr,hpr,h⟩
  obtain⟨a,ha,rfl⟩:=List.mem_map.1 h
  unfold a8U at ha
  split at ha
  ·cases ha
  ·rename_i h0
   obtain⟨h1,h2⟩:=List.mem_filter.1 ha
   unfold c6Y at h2
   simp only[Bool.and_eq_true,Bool.not_eq_true',decide_eq_false_iff_not]at h2
   exact⟨hpr,h1,h0,h2.1,h2.2.1,h2.2.2⟩
 ·rintro⟨h1,h2,h3,h4,h5,h6⟩
  refine⟨x.1,h1,List.mem_map.2 ⟨x.2,?_,rfl⟩⟩
  unfold a8U
  rw[if_neg h3,List.mem_filter]
  unfold c6Y
  simp[h2,h4,h5,h6]
theorem d2n (i j:Nat):(b4B i j).Nodup:=by
 unfold b4B
 exact a8I List.nodup_range fun x _ y _ h=>by have:=(Prod.mk.inj h).2;omega
theorem d2o (k:Nat):(a0A k).Nodup:=by
 unfold a0A prI
 refine a6u Prod.fst List.nodup_range (fun a _=>d2n a k) fun a _ y hy=> ?_
 unfold b4B at hy
 obtain⟨d,_,rfl⟩:=List.mem_map.1 hy;rfl
theorem c6Z {k i j:Nat} (h1:i<j) (h2:j<k):(i,j)∈a0A k:=by
 unfold a0A prI
 refine List.mem_flatMap.2 ⟨i,List.mem_range.2 (by omega),?_⟩
 unfold b4B
 exact List.mem_map.2 ⟨j-(i+1),List.mem_range.2 (by omega),by congr 1;omega⟩
theorem d5I:(a6W es wl lo hi k p).Nodup:=by
 unfold a6W
 refine a6u Prod.fst (d2o k) (fun pr _=>a8I ?_ fun x _ y _ h=>(Prod.mk.inj h).2) fun pr _ y hy=> ?_
 ·unfold a8U
  split
  ·exact List.nodup_nil
  ·exact(b6Z _).filter _
 ·obtain⟨d,_,rfl⟩:=List.mem_map.1 hy;rfl
theorem a5a (pr:Nat×Nat) (a:Nat):(a2h p pr a).length=p.length:=by unfold a2h;rw[a0Q,a1t]
theorem d2p (hL:LabOk p (k:Nat)) (hU:a3B p k) (hc:a0x p=p) (hpl:p.length=n) (hn:n<=64) {x y:(Nat×Nat)×Nat} (hx:x.1∈a0A k/\x.2∈a1z (unP p x.1)) (hy:y.1∈a0A k/\y.2∈a1z (unP p y.1)) (hne:p≠a2h p x.1 x.2) (he:a2h p x.1 x.2=a2h p y.1 y.2):x=y:=by
 obtain⟨p1,b1⟩:=b7b hL hU hpl hn hx.1 hx.2
 obtain⟨p2,b2⟩:=b7b hL hU hpl hn hy.1 hy.2
 obtain⟨h1,h2,h3⟩:=p1.uniq p2 (by rw[hc];exact fun e=>hne e.symm) he b1 b2 (fun e=>by unfold unP;rw[e])
 exact Prod.ext (Prod.ext h1 h2) h3
theorem d5J (hL:LabOk p (k:Nat)) (hU:a3B p k) (hc:a0x p=p) (hpl:p.length=n) (hn:n<=64):(((a6W es wl lo hi k p).map (c8o es n m p)).map (·.1)).Nodup:=by
 rw[List.map_map]
 refine a8I d5I fun x hx y hy e=> ?_
 obtain⟨x1,x2,_,_,_,x6⟩:=idx_mem.1 hx
 obtain⟨y1,y2,_⟩:=idx_mem.1 hy
 exact d2p hL hU hc hpl hn ⟨x1,x2⟩ ⟨y1,y2⟩ (fun h=>x6 (by rw[<-h])) (c2K (by rw[a5a,a5a]) e)
theorem b3h (hL:LabOk p (k:Nat)) (hU:a3B p k) (hc:a0x p=p) (hpl:p.length=n) (hn:n<=64):a1J es wl lo hi n k p=(a6W es wl lo hi k p).map (c8o es n (a0A k).length p):=by
 rw[b8r,b7a,List.nil_append]
 rw[List.nil_append]
 exact d5J hL hU hc hpl hn
end
end Go.Proofs.YtmannekkmdockaaGreatDoor
/- Chapter 32: Go. -/
namespace Go.Proofs.YtmannekkmdockaaGreatDoor
open Go.Proofs.Tryz
open Go.RowKit Go.RX Go.GS Go.RZ
open Go.WD (BP a1E wd rs toI HM sgI Rb)
set_option maxRecDepth 100000
section
variable {H:PH} {u v w wts:Value} {p p1 p2 wl:List Int} {n:Nat} {es:List (Nat×Nat)} {lo hi ds:Int} {l:List Slc}
theorem c7a {f:FuncId} {caps:List Value} {q:Slc->Bool} (hu:SE H 1 (fun s:Slc=>[vs s]) u l) (hent:a4B prog f=true) (hf:∀H' x,PH.le H H'->x∈l->a3M prog f (vs x::caps) H' (.bool (q x))):Con prog 144 [u,.func (.func f) #[] caps.toArray] H fun r H'=>PH.le H H'/\∃z:Int,r=ii z/\decide (z≥0)=l.any q:=by
 refine a0b mixed d0b (by kernel_rfl) rfl ?_
 have hl:=hu.len
 refine a0h a2e rfl rfl hu rfl ?_
 refine a0k (α:=Nat×Int) (fun⟨i,p⟩=>[ii p,ii (i:Nat)]) (fun⟨i,p⟩=>fun H'=>i<=l.length/\PH.le H H'/\(l.take i).any q=false) (fun⟨i,p⟩=>l.length-i) ((0,0)) rfl (⟨Nat.zero_le _,PH.le.refl _,rfl⟩) fun⟨i,p⟩ H' hQ=> ?_
 simp only[cA,nA]
 obtain⟨hi,l1,hq⟩:=hQ
 refine a0a ⟨_,rfl⟩ ?_
 refine a0a ⟨_,rfl⟩ ?_
 refine a0e (b:=decide (((i:Nat):Int)<(l.length:Nat))) rfl (fun h=> ?_) (fun h=> ?_)
 ·replace h:=of_decide_eq_true h
  have hi':i<l.length:=by omega
  obtain⟨x,hx,hdx⟩:=a0B hi'
  refine a0i a2e rfl rfl rfl rfl (fun _=>rfl) (hu.mono l1) hx rfl (fun _=>rfl) fun _=> ?_
  simp only[cA,nA]
  refine a0l (a1O (f:=f) (caps:=caps.toArray) (vs:=[vs x]) rfl rfl rfl hent (hf _ x l1 (List.mem_of_getElem? hx))) rfl ?_
  rintro _ H2 ⟨l2,rfl⟩
  refine⟨fun h=>(nomatch h),?_⟩
  simp only[cA,nA]
  refine a0a ⟨_,rfl⟩ ?_
  refine a0e (b:=q x) rfl (fun hqx=> ?_) (fun hqx=> ?_)
  ·skip
   exact a0c rfl ⟨l1.trans l2,_,rfl,by rw[List.any_eq_true.2 ⟨x,List.mem_of_getElem? hx,hqx⟩];exact decide_eq_true (by omega)⟩
  ·skip
   exact⟨(i+1,p),by show l.length-(i+1)<l.length-i;omega,(a1s rfl (a0w rfl (by omega))),⟨hi',l1.trans l2,by rw[take_snoc hx,List.any_append,hq];simp[hqx]⟩⟩
 ·replace h:=of_decide_eq_false h
  rw[List.take_of_length_le (by omega)]at hq
  exact a0c rfl ⟨l1,_,rfl,by rw[hq];rfl⟩
theorem c3f {f:FuncId} {caps:List Value} {q:Slc->Bool} (hu:SE H 1 (fun s:Slc=>[vs s]) u l) (hent:a4B prog f=true) (hf:∀H' x,PH.le H H'->x∈l->a3M prog f (vs x::caps) H' (.bool (q x))):a3M prog 87 [u,.func (.func f) #[] caps.toArray] H (.bool (l.any q)):=by
 refine a0b mixed c9Y (by kernel_rfl) rfl ?_
 refine a0d (c7a hu hent hf) rfl ?_
 rintro _ H1 ⟨l1,z,rfl,hz⟩
 refine⟨fun h=>(nomatch h),?_⟩
 simp only[cA,nA]
 refine a0a ⟨_,rfl⟩ ?_
 exact a0c rfl ⟨l1,hz ▸ rfl⟩
theorem c7b:a4B prog 61=true:=by kernel_rfl
theorem c3g:a4B prog 88=true:=by kernel_rfl
theorem c8p:Sc prog 138:=⟨by kernel_rfl,by kernel_rfl,by kernel_rfl⟩
def d6p (c:Value):Value:= .func (.func 61) #[c] #[]
theorem b8s {b:Nat} {T:TypeId} (hc:Chn H n w wts es wl) (hb:H b=some (.cells #[d6p (chv wts lo hi ds n w)] T (0,0))) (hu:SI H u p):a3M prog 88 [u,.pointer (some ⟨b,0,none⟩)] H (.bool (!a3L n es wl lo hi ds p)):=by
 refine a0b mixed c5U (by kernel_rfl) rfl ?_
 refine a0L c8p rfl rfl hb rfl rfl ?_
 simp only[cA,nA]
 refine a0l (Go.RZ.opn_callw (P:=prog) (ws:=[u]) (bs:= #[chv wts lo hi ds n w]) (caps:= #[]) (vs:=[d6p (chv wts lo hi ds n w),u]) rfl rfl rfl c7b (a8q (lo:=lo) (hi:=hi) (ds:=ds) hc hu)) rfl ?_
 rintro _ H2 ⟨l2,rfl⟩
 refine⟨fun h=>(nomatch h),?_⟩
 simp only[cA,nA]
 refine a0a ⟨_,rfl⟩ ?_
 exact a0c rfl ⟨l2,rfl⟩
noncomputable def smE (n:Nat) (es:List (Nat×Nat)) (wl:List Int) (lo hi ds:Int) (l:List (List Int)):Int:=if bdE n wl lo hi ds≠0 then bdE n wl lo hi ds else if 12<n then 3 else if l.any (fun p=> !a3L n es wl lo hi ds p)then 8 else 0
theorem b3i {cont:Slc->List Int} (hT:Tb H) (hw:SG H w es) (hg:GV n es) (hwt:SI H wts wl) (hu:SE H 1 (fun s:Slc=>[vs s]) v l) (hp:∀s∈l,SI H (vs s) (cont s)):a3M prog 46 [gv n w,bv wts lo hi ds,v] H (ii (smE n es wl lo hi ds (l.map cont))):=by
 refine a0b mixed d0Q (by kernel_rfl) rfl ?_
 unfold smE
 refine a0a (a0T hw) ?_
 refine a0a (a2J (a0z hwt) _ _ _) ?_
 refine a0n (a5x hw hg hwt) rfl fun H1 l1=> ?_
 simp only[cA,nA]
 refine a0a ⟨_,rfl⟩ ?_
 refine a0e (b:=decide (bdE n wl lo hi ds≠0)) (bN _ _) (fun h0=> ?_) (fun h0=> ?_)
 ·replace h0:=of_decide_eq_true h0
  exact a0c rfl ⟨l1,by rw[if_pos h0];rfl⟩
 ·replace h0:=of_decide_eq_false h0
  have h0:=Classical.byContradiction h0
  rw[if_neg (fun h=>h h0)]
  refine a0a ⟨_,rfl⟩ ?_
  refine a0e (b:=decide (((n:Nat):Int)>12)) rfl (fun h1=> ?_) (fun h1=> ?_)
  ·replace h1:=of_decide_eq_true h1
   exact a0c rfl ⟨l1,by rw[if_pos (by omega)];rfl⟩
  ·replace h1:=of_decide_eq_false h1
   rw[if_neg (by omega)]
   have hb:=a9J h0
   refine a3z (b2M rfl) rfl ?_
   simp only[cA,nA]
   refine a1G (cs:= #[.nilFunc]) (by kernel_rfl) fun b hbb=> ?_
   simp only[cA,nA]
   refine b0W (u:=d6p (chv wts lo hi ds n w)) c8p rfl rfl rfl (PH.put_self _ _ _) (by simp) rfl rfl rfl (fun h=>(nomatch h)) ?_
   simp only[cA,nA]
   rw[PH.put_put]
   have hb2:=PH.put_self H1 b (.cells #[d6p (chv wts lo hi ds n w)] 138 (0,0))
   refine a3z (a1j (vs:=[.pointer (some ⟨b,0,none⟩)]) rfl rfl) rfl ?_
   simp only[cA,nA]
   refine a0n (c3f (caps:=[.pointer (some ⟨b,0,none⟩)]) (q:=fun s=> !a3L n es wl lo hi ds (cont s)) ((hu.mono l1).mono (PH.le_put hbb _)) c3g (fun H' x hle hx=>b8s ((Chn.mono ⟨hT,hw,hg,hwt,hb.1,hb.2.2.2.2.2⟩ l1).mono ((PH.le_put hbb _).trans hle)) (hle _ _ hb2) ((hp x hx).mono (l1.trans ((PH.le_put hbb _).trans hle))))) rfl fun H3 l3=> ?_
   simp only[cA,nA]
   have hany:(l.map cont).any (fun p=> !a3L n es wl lo hi ds p)=l.any (fun s=> !a3L n es wl lo hi ds (cont s)):=by rw[List.any_map];rfl
   rw[hany]
   refine a0a ⟨_,rfl⟩ ?_
   refine a0e (b:=(l.any fun s=> !a3L n es wl lo hi ds (cont s))) rfl (fun hq=> ?_) (fun hq=> ?_)
   ·skip
    exact a0c rfl ⟨l1.trans ((PH.le_put hbb _).trans l3),by rw[if_pos hq];rfl⟩
   ·skip
    exact a0c rfl ⟨l1.trans ((PH.le_put hbb _).trans l3),by rw[if_neg (by rw[hq];simp)];rfl⟩
theorem c8q {q:List Int} (h1:SI H u p) (h2:SI H u q):p=q:=by
 obtain⟨a1,a,c,e1,b1,c1,d1⟩:=h1
 obtain⟨a2,a',c',e2,b2,c2,d2⟩:=h2
 rw[e1]at e2
 injection e2 with e3 e4 e5
 have hm:∀l:List Int,(l.flatMap fun z:Int=>[ii z])=l.map ii:=fun l=>by
  induction l with
  |nil=>rfl
  |cons a l ih=>rw[List.flatMap_cons,ih];rfl
 rcases d1 with d1|⟨b,o,cs,T,fz,f1,f2,f3⟩
 ·rw[List.eq_nil_of_length_eq_zero d1,List.eq_nil_of_length_eq_zero (l:=q) (by omega)]
 ·rcases d2 with d2|⟨b',o',cs',T',fz',g1,g2,g3⟩
  ·rw[List.eq_nil_of_length_eq_zero d2,List.eq_nil_of_length_eq_zero (l:=p) (by omega)]
  ·rw[<-e3,f1]at g1
   injection g1 with g1
   injection g1 with g4 g5
   subst g4 g5
   rw[f2]at g2
   injection g2 with g2
   injection g2 with g2
   subst g2
   rw[e4]at f3
   have h:=f3.symm.trans g3
   rw[hm,hm]at h
   exact(List.map_inj_right (f:=ii) fun x y h=>by injection h).1 h
theorem c3h {k:Nat} (h:a3B p k):k<=p.length:=by
 have:=a7j (l:=(List.range k).map fun d:Nat=>(d:Int)) (m:=p) (by
  rw[List.nodup_iff_pairwise_ne,List.pairwise_map]
  exact List.nodup_range.imp fun h e=>h (by omega)) fun x hx=>by
  obtain⟨d,hd,rfl⟩:=List.mem_map.1 hx
  exact mask_mem2.1 (h d (List.mem_range.1 hd))
 simpa using this
theorem c8r:∀w,(zeroValue 118).run prog w= .ok (.agg #[.bool false,.slice none 0 0,.bool false,.slice none 0 0]) w:=fun w=>by
 rfl
theorem c3i {l:List (List Int)} (h:smE n es wl lo hi ds l=0):bdE n wl lo hi ds=0/\n<=12/\∀p∈l,a3L n es wl lo hi ds p=true:=by
 unfold smE at h
 split at h
 ·rename_i h1;exact absurd h h1
 ·rename_i h1
  split at h
  ·cases h
  ·rename_i h2
   split at h
   ·cases h
   ·rename_i h3
    refine⟨Classical.byContradiction h1,by omega,fun p hp=> ?_⟩
    cases hf:a3L n es wl lo hi ds p with
    |true=>rfl
    |false=>exact absurd (List.any_eq_true.2 ⟨p,hp,by rw[hf];rfl⟩) h3
theorem b7c (h:a3L n es wl lo hi ds p=true):∃k:Nat,ds=(k:Int)/\1<=k/\k<=8/\p.length=n/\LabOk p (k:Nat)/\a3B p k/\k<=n:=by
 unfold a3L at h
 rw[Bool.and_eq_true,decide_eq_true_eq]at h
 obtain⟨h1,h2,h3,h4,h5⟩:=c7U h.1
 obtain⟨k,rfl⟩:∃k:Nat,ds=(k:Int):=⟨ds.toNat,by omega⟩
 rw[Int.toNat_natCast]at h5
 exact⟨k,rfl,by omega,by omega,h3,h4,h5,h3 ▸ c3h h5⟩
theorem d5K {L:List (List Int×Rat)} {k:List Int} (h:k∉L.map (·.1)):vO L k=0:=by
 have:L.find? (fun x=>decide (x.1=k))=none:=List.find?_eq_none.2 fun x hx hk=>h (List.mem_map.2 ⟨x,hx,by simpa using hk⟩)
 unfold vO
 rw[this];rfl
noncomputable def goQ (es:List (Nat×Nat)) (wl:List Int) (lo hi:Int) (n k:Nat) (p q:List Int):Rat:=vO (a1Z es wl lo hi n k (a0x p)) (a0r (a0x q))
noncomputable def goR (n:Nat) (es:List (Nat×Nat)) (wl:List Int) (lo hi ds:Int) (p q:List Int):Value:=if smE n es wl lo hi ds [p,q]≠0 then .tuple #[shv 0 0,ii (smE n es wl lo hi ds [p,q])]else a3x (goQ es wl lo hi n ds.toNat p q)
theorem c3j (r:Rat):∃(n d:Nat) (e:Int),a3x r= .tuple #[shv n d,ii e]:=by
 unfold a3x
 split
 ·exact⟨_,_,0,rfl⟩
 ·exact⟨_,_,6,rfl⟩
theorem a6R {k:Nat}:((a1Z es wl lo hi n k p).map (·.1)).Nodup:=by
 unfold a1Z
 split
 ·exact c2R b4G _ _
 ·exact b4G
theorem c3k {V:List (List Int×Value)} {L:List (List Int×Rat)} {κ:List Int} (hnd:(L.map (·.1)).Nodup) (hke:V.map (·.1)=L.map (·.1)) (hrp:∀k v q,(k,v)∈V->(k,q)∈L->Rp H v q):
  ∃b x,((b=false/\x= .agg #[.bool false,.slice none 0 0,.bool false,.slice none 0 0]/\κ∉V.map (·.1))\/(b=true/\(κ,x)∈V))/\(x.cells.size=4/\a0t x.cells)/\(b=true->Rp H x (vO L κ))/\(b=false->vO L κ=0):=by
 by_cases h:κ∈V.map (·.1)
 ·obtain⟨⟨k,x⟩,hx,rfl⟩:=List.mem_map.1 h
  have h':=h
  rw[hke]at h'
  obtain⟨⟨k',q⟩,hq,e⟩:=List.mem_map.1 h'
  simp only at e
  subst e
  have hr:=hrp _ _ _ hx hq
  exact⟨true,x,.inr ⟨rfl,hx⟩,hr.rq,fun _=>by rw[a5K hnd hq];exact hr,fun h=>by cases h⟩
 ·refine⟨false,_,.inl ⟨rfl,rfl,h⟩,⟨rfl,fun c hc=> ?_⟩,fun h=>(by cases h),fun _=>d5K (by rw[<-hke];exact h)⟩
  simp[Value.cells]at hc
  rcases hc with rfl|rfl|rfl|rfl<;>rfl
theorem b4L {q:List Int} (hT:Tb H) (hw:SG H w es) (hg:GV n es) (hwt:SI H wts wl) (hu:SI H u p) (hv:SI H v q):Con prog 16 [gv n w,bv wts lo hi ds,u,v] H fun r H'=>PH.le H H'/\r=goR n es wl lo hi ds p q:=by
 refine a0b mixed d4y (by kernel_rfl) rfl ?_
 obtain⟨s1,rfl⟩:=a4e hu
 obtain⟨s2,rfl⟩:=a4e hv
 have hcp:∀s∈[s1,s2],SI H (vs s) (if s=s1 then p else q):=fun s hs=>by
  split
  ·rename_i h;subst h;exact hu
  ·rename_i h
   rcases List.mem_cons.1 hs with h1|h1
   ·exact absurd h1 h
   ·rw[List.mem_singleton.1 h1];exact hv
 have hcm:[s1,s2].map (fun s=>if s=s1 then p else q)=[p,q]:=by
  show[if s1=s1 then p else q,if s2=s1 then p else q]=_
  rw[if_pos rfl]
  split
  ·rename_i h;subst h;rw[c8q hu hv]
  ·rfl
 unfold goR
 refine a0a (a0T hw) ?_
 refine a0a (a2J (a0z hwt) _ _ _) ?_
 refine a0X a2e (N:=2) (l:=[s1,s2]) (vs:=[vs s1,vs s2]) rfl (by decide) (by decide) rfl rfl rfl fun v4 H1 l1 o1 _=> ?_
 simp only[cA,nA]
 refine a0n (b3i (cont:=fun s=>if s=s1 then p else q) (hT.mono l1) (hw.mono l1) hg (hwt.mono l1) o1.se (fun s hs=>(hcp s hs).mono l1)) rfl fun H2 l2=> ?_
 simp only[cA,nA]
 rw[hcm]
 refine a0a ⟨_,rfl⟩ ?_
 refine a0e (b:=decide (smE n es wl lo hi ds [p,q]≠0)) (bN _ _) (fun h0=> ?_) (fun h0=> ?_)
 ·replace h0:=of_decide_eq_true h0
  exact a0c (congrArg (fun z=>Value.tuple #[z,ii (smE n es wl lo hi ds [p,q])]) a4U) ⟨l1.trans l2,by rw[if_pos h0]⟩
 ·replace h0:=of_decide_eq_false h0
  have h0:=Classical.byContradiction h0
  rw[if_neg (fun h=>h h0)]
  obtain⟨hb0,hn12,hft⟩:=c3i h0
  have hb:=a9J hb0
  obtain⟨k,rfl,hk1,hk8,hpl,hL,hU,hkn⟩:=b7c (hft p (.head _))
  obtain⟨k',hk',-,-,hql,hL',hU',-⟩:=b7c (hft q (.tail _ (.head _)))
  obtain rfl:k=k':=by omega
  refine a0d (a7k (hu.mono (l1.trans l2)) ⟨fun x hx=>by have:=hL.1 x hx;omega,hL.2⟩) rfl ?_
  rintro _ H3 ⟨l3,z,rfl,hz⟩
  refine⟨fun h=>(nomatch h),?_⟩
  simp only[cA,nA]
  refine a0a ⟨_,rfl,by simp⟩ ?_
  refine a0a ⟨_,rfl,by simp⟩ ?_
  refine a0d (a7k (hv.mono ((l1.trans l2).trans l3)) ⟨fun x hx=>by have:=hL'.1 x hx;omega,hL'.2⟩) rfl ?_
  rintro _ H4 ⟨l4,z2,rfl,hz2⟩
  refine⟨fun h=>(nomatch h),?_⟩
  simp only[cA,nA]
  have l04:=((l1.trans l2).trans l3).trans l4
  refine a0a ⟨_,rfl,by simp⟩ ?_
  refine a0a ⟨_,rfl,by simp⟩ ?_
  refine a0d (b3f (p:=a0x p) (k:=k) (lo:=lo) (hi:=hi) ⟨hT.mono l04,hw.mono l04,hg,hwt.mono l04,hb.1,hb.2.2.2.2.2⟩ (hz.se.mono l4) hn12 hkn (by rw[a0Q];exact hpl) hk1 hk8 (a2y hL hU) (a1M hL hU)) rfl ?_
  rintro v8 H5 ⟨l5,m5⟩
  refine⟨fun h=>(nomatch h),?_⟩
  simp only[cA,nA]
  refine a0d (a4w (hz2.se.mono l5) (by rw[a0Q];omega)) rfl ?_
  rintro _ H6 ⟨l6,rfl⟩
  refine⟨fun h=>(nomatch h),?_⟩
  simp only[cA,nA]
  have hqz:∀z∈a0x q,0<=z/\z<9223372036854775808:=fun z hz=>by have:=(a2y hL' hU').1 z hz;omega
  obtain⟨V,hmo,hke,hrp⟩:=m5.mono l6
  obtain⟨b,x,hub,hx1,hx2,hx3⟩:∃b x,((b=false/\x= .agg #[.bool false,.slice none 0 0,.bool false,.slice none 0 0]/\a0r (a0x q)∉V.map (·.1))\/(b=true/\(a0r (a0x q),x)∈V))/\(x.cells.size=4/\a0t x.cells)/\(b=true->Rp H6 x (goQ es wl lo hi n k p q))/\(b=false->goQ es wl lo hi n k p q=0):=c3k (L:=a1Z es wl lo hi n k (a0x p)) a6R hke hrp
  refine a0g (b6M b3b (vs:=[v8,kV (a0r (a0x q))]) (ok2:=true) (k:=a0r (a0x q)) (u:=x) (b:=b) rfl rfl rfl a6q (b3c (by rw[a0Q];omega) hqz) c8r hmo.mk hub) rfl ?_
  simp only[cA,nA]
  refine a0a ⟨_,rfl,by simp⟩ ?_
  refine a0a ⟨_,rfl,by simp⟩ ?_
  refine a0a hx1 ?_
  refine a0a ⟨_,rfl⟩ ?_
  refine a0e (b:=b) rfl (fun hbb=> ?_) (fun hbb=> ?_)
  ·skip
   refine a0d (a2u (hx2 hbb)) (a3K (a9V (hx2 hbb))) ?_
   rintro u7 H7 ⟨l7,hu7⟩
   refine⟨fun h=>(nomatch h),?_⟩
   simp only[cA,nA]
   obtain⟨a7,d7,e7,ht7⟩:=c3j (goQ es wl lo hi n k p q)
   rw[ht7]at hu7
   subst hu7
   refine a0a ⟨_,rfl,by simp⟩ ?_
   refine a0a ⟨_,rfl,by simp⟩ ?_
   refine a0a (a0E a7 d7) ?_
   exact a0c rfl ⟨(l04.trans (l5.trans l6)).trans l7,by rw[Int.toNat_natCast,ht7];rfl⟩
  ·skip
   refine a0d (a6p 0 (by omega) (by omega)) rfl ?_
   rintro v9 H7 ⟨l7,q7⟩
   refine⟨fun h=>(nomatch h),?_⟩
   simp only[cA,nA]
   refine a0d (a2u q7) rfl ?_
   rintro u8 H8 ⟨l8,hu8⟩
   refine⟨fun h=>(nomatch h),?_⟩
   simp only[cA,nA]
   obtain⟨a7,d7,e7,ht7⟩:=c3j 0
   rw[show((0:Int):Rat)=0 from rfl,ht7]at hu8
   subst hu8
   refine a0a ⟨_,rfl,by simp⟩ ?_
   refine a0a ⟨_,rfl,by simp⟩ ?_
   refine a0a (a0E a7 d7) ?_
   exact a0c rfl ⟨((l04.trans (l5.trans l6)).trans l7).trans l8,by rw[Int.toNat_natCast,hx3 hbb,ht7];rfl⟩
end
end Go.Proofs.YtmannekkmdockaaGreatDoor

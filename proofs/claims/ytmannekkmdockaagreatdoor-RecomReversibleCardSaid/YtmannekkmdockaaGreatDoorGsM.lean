/- Chapter 32: graphs, part 3. -/
import Derived.Test.YtmannekkmdockaaGreatDoorRzB
import Derived.Test.YtmannekkmdockaaGreatDoorGsF
namespace Go.RX
open Go.RowKit
theorem a6g {P:Program} {ρ:List Value} {x:SV} {v:Value} (h:D P ρ x=v) (hc:v.cells= #[v]):D P ρ (.cell x 0 0 noI)=v:=by
 show(D P ρ x).cells.getD (0+0*a2r (D P ρ noI)) undef=v
 rw[h,hc,Nat.zero_mul];rfl
end Go.RX
namespace Go.Proofs.YtmannekkmdockaaGreatDoor
open Go.Proofs.Tryz
open Go.RowKit Go.RX Go.GS
section
variable {H:PH} {n:Nat} {w:Value} {es:List (Nat×Nat)} {set:Nat}
theorem a1g {n:Nat} (h:n<=64) {s:Nat} (hs:s<2^n):s<M64:=Nat.lt_of_lt_of_le hs (Nat.pow_le_pow_right (n:=2) (by decide) h)
theorem d0B {n s x:Nat} (hs:s<2^n) (h:bit s x=true):x<n:=by
 apply Nat.lt_of_not_le
 intro hn
 have:=Nat.testBit_lt_two_pow (Nat.lt_of_lt_of_le hs (Nat.pow_le_pow_right (n:=2) (by decide) hn))
 rw[bit,this]at h;cases h
set_option maxHeartbeats 1000000 in
theorem c0X (hT:Tb H) (hw:SG H w es) (hg:GV n es) (hs:set<2^n):Con prog 182 [gv n w,uv set] H fun u H'=>PH.le H H'/\∃l,SU H' u l/\(l.length=1↔Cn es set):=by
 refine a0b mixed c5p (by kernel_rfl) rfl ?_
 have hn:=hg.n64
 have hs':=a1g hn hs
 refine a0a (a0T hw) ?_
 refine a0a (el_u64.vcells set) ?_
 refine a0d (d0v hw hg) rfl ?_
 rintro u H1 ⟨l1,o1⟩
 refine⟨fun h=>(nomatch h),?_⟩
 simp only[cA,nA]
 have hu:=o1.se
 refine a0a hu.one ?_
 refine a0k (α:=Value×Nat×List Nat) (fun⟨v,rest,l⟩=>[v,uv rest,gv n w,uv set,u]) (fun⟨v,rest,l⟩=>fun H'=>PH.le H1 H'/\SO H1 H' 54 1 (fun s:Nat=>[uv s]) v l/\rest<M64/\(∀y,bit rest y=true->bit set y=true)/\CS es set rest l.length/\l.length+card rest<=64) (fun⟨v,rest,l⟩=>card rest) ((.slice none 0 0,set,[])) rfl (⟨PH.le.refl _,SO.nil _ _ _ _ _,hs',fun _ h=>h,.inl ⟨rfl,rfl⟩,by simpa using a2d set⟩) fun⟨v,rest,l⟩ H' hQ=> ?_
 simp only[cA,nA]
 obtain⟨l2,o2,hr,hrs,hC,hcl⟩:=hQ
 refine a0a ⟨_,rfl⟩ ?_
 refine a0e (b:=decide (rest≠0)) (bN0 rest) (fun h=> ?_) (fun h=> ?_)
 ·replace h:=of_decide_eq_true h
  obtain⟨x,r,hel⟩:∃x r,els rest=x::r:=by
   cases hel:els rest with
   |nil=>exact absurd (a8f hr hel) h
   |cons x r=>exact⟨x,r,rfl⟩
  obtain⟨hx,hx64,_⟩:=a5o hel
  have hxs:=hrs x hx
  refine a0k (α:=Nat) (fun part=>[uv part,gv n w,uv set,u]) (fun part=>fun H''=>PH.le H' H''/\part<M64/\bit part x=true/\∀y,bit part y=true->Rch es set x y) (fun part=>64-card part) (2^x) (d3a (by rw[a4X (B:=(M64-rest)%M64) rfl (c0I rfl hr) hr (Nat.mod_lt _ (by decide)),a5p hr hel]) rfl rfl rfl) (⟨PH.le.refl _,a0S hx64,by rw[a0v];simp,fun y hy=>by rw[a0v]at hy;simp at hy;subst hy;exact .base⟩) fun part H2 hQ2=> ?_
  simp only[cA,nA]
  obtain⟨l3,hp,hpx,hpr⟩:=hQ2
  refine a0a (el_u64.vcells part) ?_
  refine a0d (c5A (H:=H2) (s:=part)) rfl ?_
  rintro _ _ ⟨b,hb,rfl,rfl⟩
  refine⟨fun h=>(nomatch h),?_⟩
  simp only[cA,nA]
  have l4:PH.le H1 H2:=l2.trans l3
  have hu2:SU H2 u (nbs n es):=hu.mono l4
  have hpn:∀y,bit part y=true->y<n:=fun y hy=>d0B hs ((hpr y hy).mem hxs)
  refine b5G (X:=H2) (K:=a6U b part) (Ro:=H2) (fun pre vals X'=>X'=H2/\vals=[uv (grow es set part ((els part).take pre.length))]) (fun _ _ _=>False) (c0M hp ((hT.mono l1).mono l4)) c0K (a8k _ hb) rfl (fun _ _ _ h=>by rw[h.1];exact PH.le.refl _) ⟨rfl,rfl⟩ ?_ ?_ ?_
  ·rintro pre xs vals X' ⟨y,hy,rfl,hpre⟩ _ ⟨rfl,rfl⟩
   refine⟨rfl,?_⟩
   simp only[cA,nA]
   have hyp:bit part y=true:=(a1Y hp).1 (List.mem_of_getElem? hy)
   refine a0i el_u64 rfl rfl rfl rfl (fun _=>rfl) hu2 (b2E es (hpn y hyp)) (a1s (a6g rfl hu2.cells) rfl) (fun _=>rfl) fun _=> ?_
   simp only[cA,nA]
   have hgl:=c0V (es:=es) hs' hp ((els part).take pre.length)
   have hnb:=d4s hg.ed hn y
   refine a0a ⟨_,rfl⟩ ?_
   refine a0a ⟨_,rfl⟩ ?_
   refine a0a ⟨_,rfl⟩ ?_
   exact⟨rfl,by rw[List.length_append];simp only[List.length_cons,List.length_nil];rw[take_snoc hy,a8o];exact a3K (a9G rfl (a4X rfl rfl hnb hs') hgl (b5H hnb))⟩
  ·rintro xs vals X' K' rfl hd _ ⟨rfl,rfl⟩
   rw[List.length_map,List.take_length]
   simp only[cA,nA]
   have hgl:=c0V (es:=es) hs' hp (els part)
   have l5:PH.le X' (X'.or K'):=PH.le_or _ _
   refine a0a ⟨_,rfl⟩ ?_
   refine a0a ⟨_,rfl⟩ ?_
   refine a0e (b:=decide (grow es set part (els part)=part)) (by show Value.bool (((grow es set part (els part):Nat):Int)==((part:Nat):Int))=_;rw[bE];congr 1;apply decide_eq_decide.2;omega) (fun h2=> ?_) (fun h2=> ?_)
   ·replace h2:=of_decide_eq_true h2
    have hcl2:=c5I hg.ed hp hpx hpr h2
    refine a3k el_u64 rfl rfl rfl (fun _=>rfl) (fun _=>rfl) (l4.trans l5) (o2.mono (l3.trans l5)) (by omega) rfl (fun _=>rfl) rfl fun p v2 H3 l6 o3=> ?_
    simp only[cA,nA]
    have hlt:card (sdf rest part)<card rest:=b1b (fun y hy=>by rw[a0p]at hy;exact(Bool.and_eq_true _ _ ▸ hy).1) hx (by rw[a0p,hpx];simp) hx64
    exact⟨(v2,sdf rest part,l++[part]),hlt,(by simp only[List.map_cons,List.map_nil];rw[a9H rfl rfl hr hp];rfl),⟨l6,o3,sdf_lt hr,fun y hy=>hrs y (by rw[a0p]at hy;exact(Bool.and_eq_true _ _ ▸ hy).1),by rw[List.length_append];exact hC.next hx hxs hcl2,by rw[List.length_append];simp only[List.length_cons,List.length_nil];omega⟩⟩
   ·replace h2:=of_decide_eq_false h2
    obtain⟨z,hz1,hz2⟩:=b2H (fun e=>h2 e.symm) (fun y hy=>by rw[a5v];exact .inl hy)
    have hlt:card part<card (grow es set part (els part)):=b1b (fun y hy=>by rw[a5v];exact .inl hy) hz1 hz2 (a1r hgl hz1)
    have hc64:=a2d (grow es set part (els part))
    exact⟨grow es set part (els part),by omega,rfl,⟨l3.trans l5,hgl,by rw[a5v];exact .inl hpx,c5J hg.ed hp hpr⟩⟩
  ·exact fun _ _ _ _ _ _ _ h=>h.elim
 ·replace h:=of_decide_eq_false h
  have h0:rest=0:=by omega
  subst h0
  exact a0c rfl ⟨l1.trans l2,l,o2.se,hC.end⟩
end
end Go.Proofs.YtmannekkmdockaaGreatDoor
/- Plans. -/
namespace Go.GS
def LabOk (p:List Int) (k:Int):Prop:=(∀x∈p,0<=x/\x<k)/\0<p.length/\p.length<=64
instance (p:List Int) (k:Int):Decidable (LabOk p k):=inferInstanceAs (Decidable (_/\_/\_))
def mkN (p:List Int) (d:Int) (m:Nat):Nat:=(List.range m).foldl (fun s i=>if p[i]? =some d then s|||2^i else s) 0
theorem b5V (p:List Int) (d:Int) (m:Nat):mkN p d (m+1)=if p[m]? =some d then mkN p d m|||2^m else mkN p d m:=by
 unfold mkN;rw[List.range_succ,List.foldl_append];rfl
theorem b1c (p:List Int) (d:Int) (m i:Nat):bit (mkN p d m) i=(decide (i<m)&&decide (p[i]? =some d)):=by
 induction m with
 |zero=>simp[mkN,bit]
 |succ m ih=>
  rw[b5V]
  split
  ·rename_i h
   rw[a0G,a0v,ih]
   by_cases e:m=i
   ·subst e;simp[h]
   ·simp[e,show(i<m+1)=(i<m)from by apply propext;omega]
  ·rename_i h
   rw[ih]
   by_cases e:i=m
   ·subst e;simp[h]
   ·simp[show(i<m+1)=(i<m)from by apply propext;omega]
theorem a5w (p:List Int) (d:Int) {m:Nat} (h:m<=64):mkN p d m<2^m:=by
 apply Nat.lt_pow_two_of_testBit
 intro i hi
 have:=b1c p d m i
 unfold bit at this
 rw[this]
 simp[show ¬i<m by omega]
theorem c0Y (p:List Int) (d:Int) {m:Nat} (h:m<=64):mkN p d m<M64:=Nat.lt_of_lt_of_le (a5w p d h) (Nat.pow_le_pow_right (n:=2) (by decide) h)
def a0o (p:List Int) (d:Int):Nat:=mkN p d p.length
def b5W (p:List Int) (k m:Nat):List Nat:=(List.range k).map fun d:Nat=>mkN p d m
theorem a4t (p:List Int) (k m:Nat):(b5W p k m).length=k:=by simp[b5W]
theorem a8p (p:List Int) (m:Nat) {k d:Nat} (h:d<k):(b5W p k m)[d]? =some (mkN p d m):=by simp[b5W,h]
theorem c0Z (p:List Int) (k:Nat):b5W p k 0=List.replicate k 0:=by
 apply List.ext_getElem
 ·simp[b5W]
 ·intro i h1 h2;simp[b5W,mkN]
theorem c1a (p:List Int) (k:Nat) {m d:Nat} (h:p[m]? =some (d:Int)):(b5W p k m).set d (mkN p d m|||2^m)=b5W p k (m+1):=by
 apply List.ext_getElem?
 intro i
 by_cases hi:i<k
 ·rw[a8p _ _ hi,b5V]
  by_cases e:d=i
  ·subst e;rw[List.getElem?_set_self (by simp[a4t,hi]),if_pos h]
  ·rw[List.getElem?_set_ne e,a8p _ _ hi,if_neg (by rw[h];simp;omega)]
 ·rw[List.getElem?_eq_none (by simp[a4t];omega),List.getElem?_eq_none (by simp[a4t];omega)]
def masks (p:List Int) (k:Nat):List Nat:=b5W p k p.length
def a3B (p:List Int) (k:Nat):Prop:=∀d,d<k->a0o p (d:Nat)≠0
instance (p:List Int) (k:Nat):Decidable (a3B p k):=inferInstanceAs (Decidable (∀d,d<k->_))
def plE (n:Nat) (p:List Int) (k:Int):Int:=if k<1\/k>8 then 2 else if p.length=n/\LabOk p k/\a3B p k.toNat then 0 else 210
theorem LabOk.at {p:List Int} {k:Int} (h:LabOk p k) {i:Nat} {x:Int} (hx:p[i]? =some x):0<=x/\x<k:=h.1 x (List.mem_of_getElem? hx)
noncomputable def cnB (es:List (Nat×Nat)) (set:Nat):Bool:= @decide (Cn es set) (Classical.propDecidable _)
theorem cnB_iff {es:List (Nat×Nat)} {set:Nat}:cnB es set=true↔Cn es set:= @decide_eq_true_iff _ (Classical.propDecidable _)
theorem c7U {n:Nat} {p:List Int} {k:Int} (h:plE n p k=0):1<=k/\k<=8/\p.length=n/\LabOk p k/\a3B p k.toNat:=by
 unfold plE at h
 split at h
 ·cases h
 ·split at h
  ·rename_i h1 h2;exact⟨by omega,by omega,h2⟩
  ·cases h
theorem b1d {p:List Int} {k s:Nat} (h:s∈masks p k) (hp:p.length<=64):s<2^p.length:=by
 simp only[masks,b5W,List.mem_map]at h
 obtain⟨d,_,rfl⟩:=h
 exact a5w p d hp
end Go.GS
/- Chapter 32: library, part 3. -/
namespace Go.Proofs.YtmannekkmdockaaGreatDoor
open Go.Proofs.Tryz
open Go.RowKit Go.RX Go.GS
section
variable {H:PH} {u v:Value} {l:List Int}
theorem c5K {f:FuncId} {caps:List Value} {q:Int->Bool} (hu:SI H u l) (hent:a4B prog f=true) (hf:∀H' x,PH.le H H'->x∈l->a3M prog f (ii x::caps) H' (.bool (q x))):Con prog 175 [u,.func (.func f) #[] caps.toArray] H fun r H'=>PH.le H H'/\∃z:Int,r=ii z/\decide (z≥0)=l.any q:=by
 refine a0b mixed c9Z (by kernel_rfl) rfl ?_
 have hl:=hu.len
 refine a0h el_int rfl rfl hu rfl ?_
 refine a0k (α:=Nat×Int) (fun⟨i,p⟩=>[ii p,ii (i:Nat)]) (fun⟨i,p⟩=>fun H'=>i<=l.length/\PH.le H H'/\(l.take i).any q=false) (fun⟨i,p⟩=>l.length-i) ((0,0)) rfl (⟨Nat.zero_le _,PH.le.refl _,rfl⟩) fun⟨i,p⟩ H' hQ=> ?_
 simp only[cA,nA]
 obtain⟨hi,l1,hq⟩:=hQ
 refine a0a ⟨_,rfl⟩ ?_
 refine a0a ⟨_,rfl⟩ ?_
 refine a0e (b:=decide (((i:Nat):Int)<(l.length:Nat))) rfl (fun h=> ?_) (fun h=> ?_)
 ·replace h:=of_decide_eq_true h
  have hi':i<l.length:=by omega
  obtain⟨x,hx,hdx⟩:=a0B hi'
  refine a0i el_int rfl rfl rfl rfl (fun _=>rfl) (hu.mono l1) hx rfl (fun _=>rfl) fun _=> ?_
  simp only[cA,nA]
  refine a0l (a1O (f:=f) (caps:=caps.toArray) (vs:=[ii x]) rfl rfl rfl hent (hf _ x l1 (List.mem_of_getElem? hx))) rfl ?_
  rintro _ H2 ⟨l2,rfl⟩
  refine⟨fun h=>(nomatch h),?_⟩
  simp only[cA,nA]
  refine a0a ⟨_,rfl⟩ ?_
  refine a0e (b:=q x) rfl (fun hqx=> ?_) (fun hqx=> ?_)
  ·skip
   exact a0c rfl ⟨l1.trans l2,_,rfl,by rw[List.any_eq_true.2 ⟨x,List.mem_of_getElem? hx,hqx⟩];exact decide_eq_true (by omega)⟩
  ·skip
   exact⟨(i+1,p),by show l.length-(i+1)<l.length-i;omega,(a1s rfl (a0w rfl (by omega))),⟨hi',l1.trans l2,by rw[take_snoc hx,List.any_append,hq];simp[hqx]⟩⟩
 ·replace h:=of_decide_eq_false h
  rw[List.take_of_length_le (by omega)]at hq
  exact a0c rfl ⟨l1,_,rfl,by rw[hq];rfl⟩
theorem c1b {f:FuncId} {caps:List Value} {q:Int->Bool} (hu:SI H u l) (hent:a4B prog f=true) (hf:∀H' x,PH.le H H'->x∈l->a3M prog f (ii x::caps) H' (.bool (q x))):a3M prog 104 [u,.func (.func f) #[] caps.toArray] H (.bool (l.any q)):=by
 refine a0b mixed c9W (by kernel_rfl) rfl ?_
 refine a0d (c5K hu hent hf) rfl ?_
 rintro _ H1 ⟨l1,z,rfl,hz⟩
 refine⟨fun h=>(nomatch h),?_⟩
 simp only[cA,nA]
 refine a0a ⟨_,rfl⟩ ?_
 exact a0c rfl ⟨l1,hz ▸ rfl⟩
theorem c5L (hu:SI H u l) (y:Int):Con prog 230 [u,ii y] H fun r H'=>H'=H/\∃z:Int,r=ii z/\decide (z≥0)=l.contains y:=by
 refine a0b mixed d0c (by kernel_rfl) rfl ?_
 have hl:=hu.len
 refine a0h el_int rfl rfl hu rfl ?_
 refine a0K (α:=Nat×Int) (fun⟨i,p⟩=>[ii p,ii (i:Nat)]) (fun⟨i,p⟩=>i<=l.length/\(l.take i).contains y=false) (fun⟨i,p⟩=>l.length-i) ((0,0)) rfl (⟨Nat.zero_le _,rfl⟩) fun⟨i,p⟩ hQ=> ?_
 simp only[cA,nA]
 obtain⟨hi,hq⟩:=hQ
 refine a0a ⟨_,rfl⟩ ?_
 refine a0a ⟨_,rfl⟩ ?_
 refine a0e (b:=decide (((i:Nat):Int)<(l.length:Nat))) rfl (fun h=> ?_) (fun h=> ?_)
 ·replace h:=of_decide_eq_true h
  have hi':i<l.length:=by omega
  obtain⟨x,hx,hdx⟩:=a0B hi'
  refine a0i el_int rfl rfl rfl rfl (fun _=>rfl) hu hx rfl (fun _=>rfl) fun _=> ?_
  simp only[cA,nA]
  refine a0a ⟨_,rfl⟩ ?_
  refine a0a ⟨_,rfl⟩ ?_
  refine a0e (b:=decide (y=x)) (bE y x) (fun hyx=> ?_) (fun hyx=> ?_)
  ·replace hyx:=of_decide_eq_true hyx
   exact a0c rfl ⟨rfl,_,rfl,by rw[List.contains_iff_mem.2 (hyx ▸ List.mem_of_getElem? hx)];exact decide_eq_true (by omega)⟩
  ·replace hyx:=of_decide_eq_false hyx
   exact⟨(i+1,p),by show l.length-(i+1)<l.length-i;omega,(a1s rfl (a0w rfl (by omega))),⟨⟨hi',by rw[take_snoc hx,b0Y,hq];simp[hyx]⟩,rfl⟩⟩
 ·replace h:=of_decide_eq_false h
  rw[List.take_of_length_le (by omega)]at hq
  exact a0c rfl ⟨rfl,_,rfl,by rw[hq];rfl⟩
theorem d0C (hu:SI H u l) (y:Int):Asks prog 188 [u,ii y] H (.bool (l.contains y)):=by
 refine a0b mixed d4i (by kernel_rfl) rfl ?_
 refine a0d (c5L hu y) rfl ?_
 rintro _ _ ⟨rfl,z,rfl,hz⟩
 refine⟨fun h=>(nomatch h),?_⟩
 simp only[cA,nA]
 refine a0a ⟨_,rfl⟩ ?_
 exact a0c rfl ⟨rfl,hz ▸ rfl⟩
theorem b5X {m:List Int} (hu:SI H u l) (hv:SI H v m):Asks prog 38 [u,v] H (.bool (decide (l=m))):=by
 refine a0b mixed c9V (by kernel_rfl) rfl ?_
 have hl:=hu.len
 have hm:=hv.len
 refine a0h el_int rfl rfl hu rfl ?_
 refine a0h el_int rfl rfl hv rfl ?_
 refine a0a ⟨_,rfl⟩ ?_
 refine a0a ⟨_,rfl⟩ ?_
 refine a0e (b:=decide (l.length≠m.length)) (by show Value.bool (((l.length:Nat):Int) !=((m.length:Nat):Int))=_;rw[bN];congr 1;apply decide_eq_decide.2;omega) (fun h=> ?_) (fun h=> ?_)
 ·replace h:=of_decide_eq_true h
  exact a0c rfl ⟨rfl,by rw[decide_eq_false (fun e=>h (by rw[e]))];rfl⟩
 ·replace h:=of_decide_eq_false h
  have hlm:l.length=m.length:=by omega
  refine a0h el_int rfl rfl hu rfl ?_
  refine a0K (α:=Nat×Value) (fun⟨i,p⟩=>[p,ii (i:Nat)]) (fun⟨i,p⟩=>i<=l.length/\l.take i=m.take i) (fun⟨i,p⟩=>l.length-i) ((0,.bool false)) rfl (⟨Nat.zero_le _,rfl⟩) fun⟨i,p⟩ hQ=> ?_
  simp only[cA,nA]
  obtain⟨hi,hq⟩:=hQ
  refine a0a ⟨_,rfl⟩ ?_
  refine a0a ⟨_,rfl⟩ ?_
  refine a0e (b:=decide (((i:Nat):Int)<(l.length:Nat))) rfl (fun h2=> ?_) (fun h2=> ?_)
  ·replace h2:=of_decide_eq_true h2
   have hi':i<l.length:=by omega
   obtain⟨x,hx,hdx⟩:=a0B hi'
   refine a0i el_int rfl rfl rfl rfl (fun _=>rfl) hu hx rfl (fun _=>rfl) fun _=> ?_
   simp only[cA,nA]
   obtain⟨y,hy,hdy⟩:=a0B (l:=m) (i:=i) (by omega)
   refine a0i el_int rfl rfl rfl rfl (fun _=>rfl) hv hy rfl (fun _=>rfl) fun _=> ?_
   simp only[cA,nA]
   refine a0a ⟨_,rfl⟩ ?_
   refine a0a ⟨_,rfl⟩ ?_
   refine a0e (b:=decide (x≠y)) (bN x y) (fun hxy=> ?_) (fun hxy=> ?_)
   ·replace hxy:=of_decide_eq_true hxy
    exact a0c rfl ⟨rfl,by rw[decide_eq_false (fun e=>hxy (by subst e;rw[hx]at hy;exact Option.some.inj hy))];rfl⟩
   ·replace hxy:=of_decide_eq_false hxy
    have hxy:x=y:=Classical.byContradiction hxy
    exact⟨(i+1,p),by show l.length-(i+1)<l.length-i;omega,(a1s rfl (a0w rfl (by omega))),⟨⟨hi',by rw[take_snoc hx,take_snoc hy,hq,hxy]⟩,rfl⟩⟩
  ·replace h2:=of_decide_eq_false h2
   rw[List.take_of_length_le (by omega),List.take_of_length_le (by omega)]at hq
   exact a0c rfl ⟨rfl,by rw[decide_eq_true hq];rfl⟩
end
section
variable {H:PH} {u v:Value} {l:List Nat}
theorem c5M {f:FuncId} {caps:List Value} {q:Nat->Bool} (hu:SU H u l) (hent:a4B prog f=true) (hf:∀H' x,PH.le H H'->x∈l->a3M prog f (uv x::caps) H' (.bool (q x))):Con prog 177 [u,.func (.func f) #[] caps.toArray] H fun r H'=>PH.le H H'/\∃z:Int,r=ii z/\decide (z≥0)=l.any q:=by
 refine a0b mixed d0a (by kernel_rfl) rfl ?_
 have hl:=hu.len
 refine a0h el_u64 rfl rfl hu rfl ?_
 refine a0k (α:=Nat×Int) (fun⟨i,p⟩=>[ii p,ii (i:Nat)]) (fun⟨i,p⟩=>fun H'=>i<=l.length/\PH.le H H'/\(l.take i).any q=false) (fun⟨i,p⟩=>l.length-i) ((0,0)) rfl (⟨Nat.zero_le _,PH.le.refl _,rfl⟩) fun⟨i,p⟩ H' hQ=> ?_
 simp only[cA,nA]
 obtain⟨hi,l1,hq⟩:=hQ
 refine a0a ⟨_,rfl⟩ ?_
 refine a0a ⟨_,rfl⟩ ?_
 refine a0e (b:=decide (((i:Nat):Int)<(l.length:Nat))) rfl (fun h=> ?_) (fun h=> ?_)
 ·replace h:=of_decide_eq_true h
  have hi':i<l.length:=by omega
  obtain⟨x,hx,hdx⟩:=a0B hi'
  refine a0i el_u64 rfl rfl rfl rfl (fun _=>rfl) (hu.mono l1) hx rfl (fun _=>rfl) fun _=> ?_
  simp only[cA,nA]
  refine a0l (a1O (f:=f) (caps:=caps.toArray) (vs:=[uv x]) rfl rfl rfl hent (hf _ x l1 (List.mem_of_getElem? hx))) rfl ?_
  rintro _ H2 ⟨l2,rfl⟩
  refine⟨fun h=>(nomatch h),?_⟩
  simp only[cA,nA]
  refine a0a ⟨_,rfl⟩ ?_
  refine a0e (b:=q x) rfl (fun hqx=> ?_) (fun hqx=> ?_)
  ·skip
   exact a0c rfl ⟨l1.trans l2,_,rfl,by rw[List.any_eq_true.2 ⟨x,List.mem_of_getElem? hx,hqx⟩];exact decide_eq_true (by omega)⟩
  ·skip
   exact⟨(i+1,p),by show l.length-(i+1)<l.length-i;omega,(a1s rfl (a0w rfl (by omega))),⟨hi',l1.trans l2,by rw[take_snoc hx,List.any_append,hq];simp[hqx]⟩⟩
 ·replace h:=of_decide_eq_false h
  rw[List.take_of_length_le (by omega)]at hq
  exact a0c rfl ⟨l1,_,rfl,by rw[hq];rfl⟩
theorem c1c {f:FuncId} {caps:List Value} {q:Nat->Bool} (hu:SU H u l) (hent:a4B prog f=true) (hf:∀H' x,PH.le H H'->x∈l->a3M prog f (uv x::caps) H' (.bool (q x))):a3M prog 107 [u,.func (.func f) #[] caps.toArray] H (.bool (l.any q)):=by
 refine a0b mixed c9X (by kernel_rfl) rfl ?_
 refine a0d (c5M hu hent hf) rfl ?_
 rintro _ H1 ⟨l1,z,rfl,hz⟩
 refine⟨fun h=>(nomatch h),?_⟩
 simp only[cA,nA]
 refine a0a ⟨_,rfl⟩ ?_
 exact a0c rfl ⟨l1,hz ▸ rfl⟩
end
section
variable {H:PH} {n:Nat} {w:Value} {es:List (Nat×Nat)} {set:Nat}
theorem c5N (hw:SG H w es) (hg:GV n es) (hs:set<M64):a3M prog 181 [gv n w,uv set] H (ii (if set<2^n then 0 else 2)):=by
 refine a0b mixed d4j (by kernel_rfl) rfl ?_
 refine a0a (a0T hw) ?_
 refine a0n (a5t hw hg) rfl fun H1 l1=> ?_
 simp only[cA,nA]
 refine a0a ⟨_,rfl⟩ ?_
 refine a0j (bF (p:=(0:Int)≠0) (by simp)) ?_
 refine a0u (a7T set hs) rfl ?_
 simp only[cA,nA]
 refine a0a ⟨_,rfl⟩ ?_
 refine a0a ⟨_,rfl⟩ ?_
 refine a0e (b:=decide (set≥2^n)) (by show Value.bool (decide (((Go.WD.blen set:Nat):Int)>((n:Nat):Int)))=_;congr 1;apply decide_eq_decide.2;constructor<;>intro hh<;>first|(have:=Go.WD.blen_ge hh;omega)|(apply Nat.le_of_not_lt;intro h2;have:=Go.WD.blen_le h2;omega)) (fun h=> ?_) (fun h=> ?_)
 ·replace h:=of_decide_eq_true h
  exact a0c rfl ⟨l1,by rw[if_neg (by omega)];rfl⟩
 ·replace h:=of_decide_eq_false h
  exact a0c rfl ⟨l1,by rw[if_pos (by omega)];rfl⟩
noncomputable def d6m (n:Nat) (es:List (Nat×Nat)) (set:Nat):Value:=if set<2^n then .tuple #[.bool (cnB es set),ii 0]else .tuple #[.bool false,ii 2]
theorem c1d (hT:Tb H) (hw:SG H w es) (hg:GV n es) (hs:set<M64):a3M prog 112 [gv n w,uv set] H (d6m n es set):=by
 refine a0b mixed d0g (by kernel_rfl) rfl ?_
 have hn:=hg.n64
 refine a0a (a0T hw) ?_
 refine a0n (c5N hw hg hs) rfl fun H1 l1=> ?_
 simp only[cA,nA]
 refine a0a ⟨_,rfl⟩ ?_
 refine a0e (b:=decide (¬set<2^n)) (by show Value.bool ((if set<2^n then(0:Int)else 2) !=0)=_;by_cases hh:set<2^n<;>simp[hh]) (fun h=> ?_) (fun h=> ?_)
 ·replace h:=of_decide_eq_true h
  exact a0c rfl ⟨l1,by unfold d6m;rw[if_neg h,if_neg h];rfl⟩
 ·replace h:=of_decide_eq_false h
  have h:set<2^n:=Classical.byContradiction h
  refine a0d (c0X (hT.mono l1) (hw.mono l1) hg h) rfl ?_
  rintro u H2 ⟨l2,l,hl,hc⟩
  refine⟨fun h=>(nomatch h),?_⟩
  simp only[cA,nA]
  have e:cnB es set=decide (l.length=1):=by rw[Bool.eq_iff_iff,cnB_iff,<-hc];simp
  refine a0h el_u64 rfl rfl hl rfl ?_
  refine a0a ⟨_,rfl⟩ ?_
  exact a0c rfl ⟨l1.trans l2,by rw[show d6m n es set= .tuple #[.bool (cnB es set),ii 0]from if_pos h,e];show Value.tuple #[.bool (((l.length:Nat):Int)==1),_]=_;rw[bE,show decide (((l.length:Nat):Int)=1)=decide (l.length=1)from decide_eq_decide.2 (by omega)];rfl⟩
end
end Go.Proofs.YtmannekkmdockaaGreatDoor
/- Chapter 32: plans. -/
namespace Go.Proofs.YtmannekkmdockaaGreatDoor
open Go.Proofs.Tryz
open Go.RowKit Go.RX Go.GS
section
variable {H:PH} {u v w:Value} {p:List Int} {n:Nat} {es:List (Nat×Nat)}
theorem b1e (hu:SI H u p) (k:Int):Asks prog 63 [u,ii k] H (.bool (decide (LabOk p k))):=by
 refine a0b mixed d0i (by kernel_rfl) rfl ?_
 have hl:=hu.len
 refine a0h el_plan rfl rfl hu rfl ?_
 refine a0K (α:=Nat×Value) (fun⟨i,z⟩=>[z,ii (i:Nat)]) (fun⟨i,z⟩=>i<=p.length/\∀x∈p.take i,0<=x/\x<k) (fun⟨i,z⟩=>p.length-i) ((0,.bool false)) rfl (⟨Nat.zero_le _,fun x hx=>by cases hx⟩) fun⟨i,z⟩ hQ=> ?_
 simp only[cA,nA]
 obtain⟨hi,hq⟩:=hQ
 refine a0a ⟨_,rfl⟩ ?_
 refine a0a ⟨_,rfl⟩ ?_
 refine a0e (b:=decide (((i:Nat):Int)<(p.length:Nat))) rfl (fun h=> ?_) (fun h=> ?_)
 ·replace h:=of_decide_eq_true h
  have hi':i<p.length:=by omega
  obtain⟨x,hx,hdx⟩:=a0B hi'
  refine a0i el_plan rfl rfl rfl rfl (fun _=>rfl) hu hx rfl (fun _=>rfl) fun _=> ?_
  simp only[cA,nA]
  have hxm:=List.mem_of_getElem? hx
  refine a0a ⟨_,rfl⟩ ?_
  refine a0e (b:=decide (x<0)) rfl (fun h2=> ?_) (fun h2=> ?_)
  ·replace h2:=of_decide_eq_true h2
   exact a0c rfl ⟨rfl,by rw[decide_eq_false (fun e=>by have:=e.1 x hxm;omega)];rfl⟩
  ·replace h2:=of_decide_eq_false h2
   refine a0a ⟨_,rfl⟩ ?_
   refine a0e (b:=decide (x≥k)) rfl (fun h3=> ?_) (fun h3=> ?_)
   ·replace h3:=of_decide_eq_true h3
    exact a0c rfl ⟨rfl,by rw[decide_eq_false (fun e=>by have:=e.1 x hxm;omega)];rfl⟩
   ·replace h3:=of_decide_eq_false h3
    exact⟨(i+1,z),by show p.length-(i+1)<p.length-i;omega,(a1s rfl (a0w rfl (by omega))),⟨⟨hi',by rw[take_snoc hx];intro y hy;rw[List.mem_append,List.mem_singleton]at hy;rcases hy with hy|rfl;(exact hq y hy);omega⟩,rfl⟩⟩
 ·replace h:=of_decide_eq_false h
  rw[List.take_of_length_le (by omega)]at hq
  refine a0h el_plan rfl rfl hu rfl ?_
  refine a0a ⟨_,rfl⟩ ?_
  refine a0e (b:=decide (((p.length:Nat):Int)>0)) rfl (fun h4=> ?_) (fun h4=> ?_)
  ·replace h4:=of_decide_eq_true h4
   refine a0h el_plan rfl rfl hu rfl ?_
   refine a0a ⟨_,rfl⟩ ?_
   exact a0c rfl ⟨rfl,congrArg Value.bool (decide_eq_decide.2 ⟨fun h5=>⟨hq,by omega,by have h6:((p.length:Nat):Int)<=64:=h5;omega⟩,fun h5=>by have:=h5.2.2;show((p.length:Nat):Int)<=64;omega⟩)⟩
  ·replace h4:=of_decide_eq_false h4
   exact a0c rfl ⟨rfl,by rw[decide_eq_false (fun e=>by have:=e.2.1;omega)];rfl⟩
theorem b5Y {k:Nat} (hk:k<=8) (hu:SI H u p) (hL:LabOk p (k:Int)):Con prog 68 [u,ii (k:Nat)] H fun r H'=>PH.le H H'/\∃z,r= .tuple #[z,.bool (decide (a3B p k))]/\(a3B p k->SU H' z (masks p k)):=by
 refine a0b mixed d0j (by kernel_rfl) rfl ?_
 have hl:=hu.len
 have hp64:=hL.2.2
 refine a3j el_u64 (z:=(0:Nat)) d4t rfl rfl rfl (by omega) rfl fun v H1 l1 o1 _=> ?_
 simp only[cA,nA]
 rw[<-c0Z p]at o1
 refine a0h el_plan rfl rfl (hu.mono l1) rfl ?_
 refine a0k (α:=Nat) (fun i=>[ii (i:Nat)]) (fun i=>fun H'=>i<=p.length/\PH.le H H'/\SO H H' 54 1 (fun s:Nat=>[uv s]) v (b5W p k i)) (fun i=>p.length-i) (0) rfl (⟨Nat.zero_le _,l1,o1⟩) fun i H' hQ=> ?_
 simp only[cA,nA]
 obtain⟨hi,l2,o2⟩:=hQ
 refine a0a ⟨_,rfl⟩ ?_
 refine a0a ⟨_,rfl⟩ ?_
 refine a0e (b:=decide (((i:Nat):Int)<(p.length:Nat))) rfl (fun h=> ?_) (fun h=> ?_)
 ·replace h:=of_decide_eq_true h
  have hi':i<p.length:=by omega
  obtain⟨x,hx,hdx⟩:=a0B hi'
  refine a0i el_plan rfl rfl rfl rfl (fun _=>rfl) (hu.mono l2) hx rfl (fun _=>rfl) fun _=> ?_
  simp only[cA,nA]
  have hxk:=hL.at hx
  obtain⟨d,rfl⟩:∃d:Nat,x=(d:Int):=⟨x.toNat,by omega⟩
  refine a0i el_u64 rfl rfl rfl rfl (fun _=>rfl) o2.se (a8p p i (show d<k by omega)) rfl (fun _=>rfl) fun _=> ?_
  simp only[cA,nA]
  refine a0a ⟨_,_,rfl⟩ ?_
  refine a0a (by show(0:Int)<=((i:Nat):Int);omega) ?_
  refine a0a ⟨_,rfl⟩ ?_
  refine a0R el_u64 (a:=mkN p (d:Nat) i|||2^i) rfl rfl rfl rfl (fun _=>rfl) (fun _=>rfl) l2 o2 (by rw[a4t];omega) rfl (fun _=>a1s rfl (a9G rfl (a6e rfl (by omega)) (c0Y _ _ (by omega)) (a0S (by omega)))) rfl fun p' u' H3 l4 o4 _=> ?_
  simp only[cA,nA]
  rw[c1a p k hx]at o4
  exact⟨i+1,by omega,(a3K (a0w rfl (by omega))),⟨hi',l4,o4⟩⟩
 ·replace h:=of_decide_eq_false h
  have he:i=p.length:=by omega
  subst he
  refine a0k (α:=Nat×Value×Value) (fun⟨d,z1,z2⟩=>[z1,z2,ii (d:Nat)]) (fun⟨d,z1,z2⟩=>fun H2=>H2=H'/\d<=k/\∀j,j<d->a0o p (j:Nat)≠0) (fun⟨d,z1,z2⟩=>k-d) ((0,.slice none 0 0,.bool false)) rfl (⟨rfl,Nat.zero_le _,fun j hj=>by cases hj⟩) fun⟨d,z1,z2⟩ H2 hQ2=> ?_
  simp only[cA,nA]
  obtain⟨rfl,hd,hq⟩:=hQ2
  refine a0a ⟨_,rfl⟩ ?_
  refine a0a ⟨_,rfl⟩ ?_
  refine a0e (b:=decide (((d:Nat):Int)<(k:Nat))) rfl (fun h2=> ?_) (fun h2=> ?_)
  ·replace h2:=of_decide_eq_true h2
   refine a0i el_u64 rfl rfl rfl rfl (fun _=>rfl) o2.se (a8p p _ (show d<k by omega)) rfl (fun _=>rfl) fun _=> ?_
   simp only[cA,nA]
   refine a0a ⟨_,rfl⟩ ?_
   refine a0e (b:=decide (mkN p (d:Nat) p.length=0)) (bE0 _) (fun h3=> ?_) (fun h3=> ?_)
   ·replace h3:=of_decide_eq_true h3
    exact a0c rfl ⟨l2,_,by rw[decide_eq_false (fun e=>e d (by omega) h3)];rfl,fun e=>absurd h3 (e d (by omega))⟩
   ·replace h3:=of_decide_eq_false h3
    exact⟨(d+1,z1,z2),by show k-(d+1)<k-d;omega,(a8T rfl rfl (a0w rfl (by omega))),⟨rfl,by show d+1<=k;omega,fun j hj=>by rcases Nat.lt_succ_iff_lt_or_eq.1 hj with hj|rfl;(exact hq j hj);exact h3⟩⟩
  ·replace h2:=of_decide_eq_false h2
   have he:d=k:=by omega
   subst he
   exact a0c rfl ⟨l2,v,by rw[decide_eq_true (p:=a3B p d) hq];rfl,fun _=>o2.se⟩
theorem c5O (hw:SG H w es) (hg:GV n es) (hu:SI H u p) (k:Int):Con prog 176 [gv n w,u,ii k] H fun r H'=>PH.le H H'/\∃q,r= .tuple #[q,ii (plE n p k)]:=by
 refine a0b mixed d0k (by kernel_rfl) rfl ?_
 refine a0a (a0T hw) ?_
 refine a0n (a5t hw hg) rfl fun H1 l1=> ?_
 simp only[cA,nA]
 refine a0a ⟨_,rfl⟩ ?_
 refine a0j (bF (p:=(0:Int)≠0) (by simp)) ?_
 refine a0a ⟨_,rfl⟩ ?_
 refine a0e (b:=decide (k<1)) rfl (fun h=> ?_) (fun h=> ?_)
 ·replace h:=of_decide_eq_true h
  exact a0c rfl ⟨l1,_,by rw[show plE n p k=2 from if_pos (.inl h)];rfl⟩
 ·replace h:=of_decide_eq_false h
  refine a0e (b:=decide (k>8)) rfl (fun h2=> ?_) (fun h2=> ?_)
  ·replace h2:=of_decide_eq_true h2
   exact a0c rfl ⟨l1,_,by rw[show plE n p k=2 from if_pos (.inr h2)];rfl⟩
  ·replace h2:=of_decide_eq_false h2
   have hk:¬(k<1\/k>8):=by omega
   obtain⟨m,rfl⟩:∃m:Nat,k=(m:Int):=⟨k.toNat,by omega⟩
   refine a0h el_plan rfl rfl (hu.mono l1) rfl ?_
   refine a0a ⟨_,rfl⟩ ?_
   refine a0a ⟨_,rfl⟩ ?_
   refine a0e (b:=decide (p.length≠n)) (by show Value.bool (((p.length:Nat):Int) !=((n:Nat):Int))=_;rw[bN];congr 1;apply decide_eq_decide.2;omega) (fun h3=> ?_) (fun h3=> ?_)
   ·replace h3:=of_decide_eq_true h3
    exact a0c rfl ⟨l1,_,by rw[show plE n p (m:Nat)=210 from(if_neg hk).trans (if_neg fun e=>h3 e.1)];rfl⟩
   ·replace h3:=of_decide_eq_false h3
    refine a0P (b1e (hu.mono l1) (m:Nat)) rfl ?_
    simp only[cA,nA]
    refine a0a ⟨_,rfl⟩ ?_
    refine a0e (b:= !decide (LabOk p (m:Nat))) rfl (fun h4=> ?_) (fun h4=> ?_)
    ·skip
     exact a0c rfl ⟨l1,_,by rw[show plE n p (m:Nat)=210 from(if_neg hk).trans (if_neg fun e=>by simp[e.2.1]at h4)];rfl⟩
    ·skip
     have hL:LabOk p (m:Nat):=by simpa using h4
     refine a0d (b5Y (by omega) (hu.mono l1) hL) rfl ?_
     rintro _ H2 ⟨l2,z,rfl,hz⟩
     refine⟨fun h=>(nomatch h),?_⟩
     simp only[cA,nA]
     refine a0a ⟨_,rfl,by simp⟩ ?_
     refine a0a ⟨_,rfl,by simp⟩ ?_
     refine a0a ⟨_,rfl⟩ ?_
     refine a0e (b:= !decide (a3B p m)) rfl (fun h5=> ?_) (fun h5=> ?_)
     ·skip
      exact a0c rfl ⟨l1.trans l2,_,by rw[show plE n p (m:Nat)=210 from(if_neg hk).trans (if_neg fun e=>by have:=e.2.2;rw[Int.toNat_natCast]at this;simp[this]at h5)];rfl⟩
     ·skip
      have hU:a3B p m:=by simpa using h5
      refine a0a ((hu.mono l1).one) ?_
      refine a0a ((hz hU).one) ?_
      refine a1G (cs:=_) rfl fun b hb=> ?_
      simp only[cA,nA]
      exact a0c rfl ⟨(l1.trans l2).trans (PH.le_put hb _),_,by rw[show plE n p (m:Nat)=0 from(if_neg hk).trans (if_pos ⟨by omega,hL,by rw[Int.toNat_natCast];exact hU⟩)];rfl⟩
theorem c1e (hw:SG H w es) (hg:GV n es) (hu:SI H u p) (k:Int):a3M prog 106 [gv n w,u,ii k] H (ii (plE n p k)):=by
 refine a0b mixed d0l (by kernel_rfl) rfl ?_
 refine a0a (a0T hw) ?_
 refine a0d (c5O hw hg hu k) rfl ?_
 rintro _ H1 ⟨l1,q,rfl⟩
 refine⟨fun h=>(nomatch h),?_⟩
 simp only[cA,nA]
 refine a0a ⟨_,rfl,by simp⟩ ?_
 refine a0a ⟨_,rfl,by simp⟩ ?_
 exact a0c rfl ⟨l1,rfl⟩
theorem b1f (hu:SI H u p) (k:Nat) (h1:1<=k) (h8:k<=8) (hL:LabOk p (k:Nat)) (hU:a3B p k):Con prog 25 [u,ii (k:Nat)] H fun r H'=>PH.le H H'/\∃z,r= .tuple #[z,ii 0]/\SU H' z (masks p k):=by
 refine a0b mixed d0n (by kernel_rfl) rfl ?_
 refine a0a ⟨_,rfl⟩ ?_
 refine a0j (bF (p:=((k:Nat):Int)<1) (by omega)) ?_
 refine a0j (bF (p:=((k:Nat):Int)>8) (by omega)) ?_
 refine a0P (b1e hu (k:Nat)) rfl ?_
 simp only[cA,nA]
 refine a0a ⟨_,rfl⟩ ?_
 refine a0j (by show Value.bool (!decide (LabOk p (k:Nat)))=_;rw[decide_eq_true hL];rfl) ?_
 refine a0d (b5Y h8 hu hL) rfl ?_
 rintro _ H2 ⟨l2,z,rfl,hz⟩
 refine⟨fun h=>(nomatch h),?_⟩
 simp only[cA,nA]
 refine a0a ⟨_,rfl,by simp⟩ ?_
 refine a0a ⟨_,rfl,by simp⟩ ?_
 refine a0a ⟨_,rfl⟩ ?_
 refine a0j (by show Value.bool (!decide (a3B p k))=_;rw[decide_eq_true hU];rfl) ?_
 exact a0c rfl ⟨l2,z,rfl,hz hU⟩
end
end Go.Proofs.YtmannekkmdockaaGreatDoor
/- What is allowed. -/
namespace Go.GS
def c7V (wl:List Int) (s:Nat):Int:=((els s).map fun x=>wl.getD x 0).sum
def c7W (wl:List Int):Prop:=∀x∈wl,0<=x/\x<=1000000000
instance (wl:List Int):Decidable (c7W wl):=inferInstanceAs (Decidable (∀x∈wl,_))
def bdE (n:Nat) (wl:List Int) (lo hi ds:Int):Int:=if wl.length=n/\0<=lo/\lo<=hi/\1<=ds/\ds<=8/\c7W wl then 0 else 320
noncomputable def alB (es:List (Nat×Nat)) (wl:List Int) (lo hi:Int) (set:Nat):Bool:=Go.GS.cnB es set&&(decide (c7V wl set≥lo)&&decide (c7V wl set<=hi))
noncomputable def a3L (n:Nat) (es:List (Nat×Nat)) (wl:List Int) (lo hi ds:Int) (p:List Int):Bool:=decide (plE n p ds=0)&&(masks p ds.toNat).all (alB es wl lo hi)
theorem a9J {n:Nat} {wl:List Int} {lo hi ds:Int} (h:bdE n wl lo hi ds=0):wl.length=n/\0<=lo/\lo<=hi/\1<=ds/\ds<=8/\c7W wl:=by
 unfold bdE at h
 split at h
 ·assumption
 ·cases h
theorem c1f:∀(l:List Int),(∀x∈l,0<=x/\x<=1000000000)->0<=l.sum/\l.sum<=1000000000*l.length:=by
 intro l
 induction l with
 |nil=>intro _;simp
 |cons a l ih=>
  intro h
  have h1:=h a (by simp)
  have h2:=ih fun x hx=>h x (List.mem_cons_of_mem _ hx)
  rw[List.sum_cons,List.length_cons]
  omega
end Go.GS

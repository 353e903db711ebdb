/- Chapter 32: graphs, part 3. -/
import Derived.Test.YtkcjbfoejpfbbaaGreatDoorGaD
import Derived.Test.YtkcjbfoejpfbbaaGreatDoorGsO
import Derived.Test.YtkcjbfoejpfbbaaGreatDoorGmT
namespace Go.RX
open Go.RowKit
theorem a3W {P:Program} {ρ:List Value} {x:SV} {v:Value} (h:D P ρ x=v) (hc:v.cells= #[v]):D P ρ (.cell x 0 0 noI)=v:=by
 show(D P ρ x).cells.getD (0+0*a1w (D P ρ noI)) undef=v
 rw[h,hc,Nat.zero_mul];rfl
end Go.RX
namespace Go.Proofs.YtkcjbfoejpfbbaaGreatDoor
open Go.Proofs.Tryz
open Go.RowKit Go.RX Go.GS
section
variable {H:PH} {n:Nat} {w:Value} {es:List (Nat×Nat)} {set:Nat}
theorem a3X {n:Nat} (h:n<=64) {s:Nat} (hs:s<2^n):s<M64:=Nat.lt_of_lt_of_le hs (Nat.pow_le_pow_right (n:=2) (by decide) h)
theorem c9N {n s x:Nat} (hs:s<2^n) (h:bit s x=true):x<n:=by
 apply Nat.lt_of_not_le
 intro hn
 have:=Nat.testBit_lt_two_pow (Nat.lt_of_lt_of_le hs (Nat.pow_le_pow_right (n:=2) (by decide) hn))
 rw[bit,this]at h;cases h
set_option maxHeartbeats 1000000 in
theorem b9Q (hT:Tb H) (hw:SG H w es) (hg:GV n es) (hs:set<2^n):Con prog 103 [gv n w,uv set] H fun u H'=>PH.le H H'/\∃l,SU H' u l/\(l.length=1↔Cn es set):=by
 refine a0d a0r b4d (by kernel_rfl) rfl ?_
 have hn:=hg.n64
 have hs':=a3X hn hs
 refine a0a (a1m hw) ?_
 refine a0a (el_u64.vcells set) ?_
 refine a0h (c9C hw hg) rfl ?_
 rintro u H1 ⟨l1,o1⟩
 refine⟨fun h=>(nomatch h),?_⟩
 simp only[cA,nA]
 have hu:=o1.se
 refine a0a hu.one ?_
 refine a0n (α:=Value×Nat×List Nat) (fun⟨v,rest,l⟩=>[v,uv rest,gv n w,uv set,u]) (fun⟨v,rest,l⟩=>fun H'=>PH.le H1 H'/\SO H1 H' 34 1 (fun s:Nat=>[uv s]) v l/\rest<M64/\(∀y,bit rest y=true->bit set y=true)/\CS es set rest l.length/\l.length+card rest<=64) (fun⟨v,rest,l⟩=>card rest) ((.slice none 0 0,set,[])) rfl (⟨PH.le.refl _,SO.nil _ _ _ _ _,hs',fun _ h=>h,.inl ⟨rfl,rfl⟩,by simpa using a1u set⟩) fun⟨v,rest,l⟩ H' hQ=> ?_
 simp only[cA,nA]
 obtain⟨l2,o2,hr,hrs,hC,hcl⟩:=hQ
 refine a0a ⟨_,rfl⟩ ?_
 refine a0e (b:=decide (rest≠0)) (bN0 rest) (fun h=> ?_) (fun h=> ?_)
 ·replace h:=of_decide_eq_true h
  obtain⟨x,r,hel⟩:∃x r,els rest=x::r:=by
   cases hel:els rest with
   |nil=>exact absurd (a4M hr hel) h
   |cons x r=>exact⟨x,r,rfl⟩
  obtain⟨hx,hx64,_⟩:=a3x hel
  have hxs:=hrs x hx
  refine a0n (α:=Nat) (fun part=>[uv part,gv n w,uv set,u]) (fun part=>fun H''=>PH.le H' H''/\part<M64/\bit part x=true/\∀y,bit part y=true->Rch es set x y) (fun part=>64-card part) (2^x) (d1J (by rw[a3T (B:=(M64-rest)%M64) rfl (b7C rfl hr) hr (Nat.mod_lt _ (by decide)),b0c hr hel]) rfl rfl rfl) (⟨PH.le.refl _,a0N hx64,by rw[a0D];simp,fun y hy=>by rw[a0D]at hy;simp at hy;subst hy;exact .base⟩) fun part H2 hQ2=> ?_
  simp only[cA,nA]
  obtain⟨l3,hp,hpx,hpr⟩:=hQ2
  refine a0a (el_u64.vcells part) ?_
  refine a0h (c4K (H:=H2) (s:=part)) rfl ?_
  rintro _ _ ⟨b,hb,rfl,rfl⟩
  refine⟨fun h=>(nomatch h),?_⟩
  simp only[cA,nA]
  have l4:PH.le H1 H2:=l2.trans l3
  have hu2:SU H2 u (nbs n es):=hu.mono l4
  have hpn:∀y,bit part y=true->y<n:=fun y hy=>c9N hs ((hpr y hy).mem hxs)
  refine b3f (X:=H2) (K:=a5M b part) (Ro:=H2) (fun pre vals X'=>X'=H2/\vals=[uv (grow es set part ((els part).take pre.length))]) (fun _ _ _=>False) (b0R hp ((hT.mono l1).mono l4)) b0P (b0Q _ hb) rfl (fun _ _ _ h=>by rw[h.1];exact PH.le.refl _) ⟨rfl,rfl⟩ ?_ ?_ ?_
  ·rintro pre xs vals X' ⟨y,hy,rfl,hpre⟩ _ ⟨rfl,rfl⟩
   refine⟨rfl,?_⟩
   simp only[cA,nA]
   have hyp:bit part y=true:=(a2v hp).1 (List.mem_of_getElem? hy)
   refine a0k el_u64 rfl rfl rfl rfl (fun _=>rfl) hu2 (b0h es (hpn y hyp)) (a1s (a3W rfl hu2.cells) rfl) (fun _=>rfl) fun _=> ?_
   simp only[cA,nA]
   have hgl:=b7E (es:=es) hs' hp ((els part).take pre.length)
   have hnb:=d2d hg.ed hn y
   refine a0a ⟨_,rfl⟩ ?_
   refine a0a ⟨_,rfl⟩ ?_
   refine a0a ⟨_,rfl⟩ ?_
   exact⟨rfl,by rw[List.length_append];simp only[List.length_cons,List.length_nil];rw[take_snoc hy,a6x];exact a5E (a9y rfl (a3T rfl rfl hnb hs') hgl (b3j hnb))⟩
  ·rintro xs vals X' K' rfl hd _ ⟨rfl,rfl⟩
   rw[List.length_map,List.take_length]
   simp only[cA,nA]
   have hgl:=b7E (es:=es) hs' hp (els part)
   have l5:PH.le X' (X'.or K'):=PH.le_or _ _
   refine a0a ⟨_,rfl⟩ ?_
   refine a0a ⟨_,rfl⟩ ?_
   refine a0e (b:=decide (grow es set part (els part)=part)) (by show Value.bool (((grow es set part (els part):Nat):Int)==((part:Nat):Int))=_;rw[bE];congr 1;apply decide_eq_decide.2;omega) (fun h2=> ?_) (fun h2=> ?_)
   ·replace h2:=of_decide_eq_true h2
    have hcl2:=c3H hg.ed hp hpx hpr h2
    refine a2z el_u64 rfl rfl rfl (fun _=>rfl) (fun _=>rfl) (l4.trans l5) (o2.mono (l3.trans l5)) (by omega) rfl (fun _=>rfl) rfl fun p v2 H3 l6 o3=> ?_
    simp only[cA,nA]
    have hlt:card (sdf rest part)<card rest:=a8R (fun y hy=>by rw[a1T]at hy;exact(Bool.and_eq_true _ _ ▸ hy).1) hx (by rw[a1T,hpx];simp) hx64
    exact⟨(v2,sdf rest part,l++[part]),hlt,(by simp only[List.map_cons,List.map_nil];rw[b3n rfl rfl hr hp];rfl),⟨l6,o3,sdf_lt hr,fun y hy=>hrs y (by rw[a1T]at hy;exact(Bool.and_eq_true _ _ ▸ hy).1),by rw[List.length_append];exact hC.next hx hxs hcl2,by rw[List.length_append];simp only[List.length_cons,List.length_nil];omega⟩⟩
   ·replace h2:=of_decide_eq_false h2
    obtain⟨z,hz1,hz2⟩:=b7G (fun e=>h2 e.symm) (fun y hy=>by rw[a4i];exact .inl hy)
    have hlt:card part<card (grow es set part (els part)):=a8R (fun y hy=>by rw[a4i];exact .inl hy) hz1 hz2 (a1D hgl hz1)
    have hc64:=a1u (grow es set part (els part))
    exact⟨grow es set part (els part),by omega,rfl,⟨l3.trans l5,hgl,by rw[a4i];exact .inl hpx,c3I hg.ed hp hpr⟩⟩
  ·exact fun _ _ _ _ _ _ _ h=>h.elim
 ·replace h:=of_decide_eq_false h
  have h0:rest=0:=by omega
  subst h0
  exact a0f rfl ⟨l1.trans l2,l,o2.se,hC.end⟩
end
end Go.Proofs.YtkcjbfoejpfbbaaGreatDoor
/- Chapter 32: library, part 3. -/
namespace Go.Proofs.YtkcjbfoejpfbbaaGreatDoor
open Go.Proofs.Tryz
open Go.RowKit Go.RX Go.GS
section
variable {H:PH} {u v:Value} {l:List Int}
theorem c4R {f:FuncId} {caps:List Value} {q:Int->Bool} (hu:SI H u l) (hent:a7q prog f=true) (hf:∀H' x,PH.le H H'->x∈l->a8O prog f (ii x::caps) H' (.bool (q x))):Con prog 109 [u,.func (.func f) #[] caps.toArray] H fun r H'=>PH.le H H'/\∃z:Int,r=ii z/\decide (z≥0)=l.any q:=by
 refine a0d a0r b8Z (by kernel_rfl) rfl ?_
 have hl:=hu.len
 refine a0j a0q rfl rfl hu rfl ?_
 refine a0n (α:=Nat×Int) (fun⟨i,p⟩=>[ii p,ii (i:Nat)]) (fun⟨i,p⟩=>fun H'=>i<=l.length/\PH.le H H'/\(l.take i).any q=false) (fun⟨i,p⟩=>l.length-i) ((0,0)) rfl (⟨Nat.zero_le _,PH.le.refl _,rfl⟩) fun⟨i,p⟩ H' hQ=> ?_
 simp only[cA,nA]
 obtain⟨hi,l1,hq⟩:=hQ
 refine a0a ⟨_,rfl⟩ ?_
 refine a0a ⟨_,rfl⟩ ?_
 refine a0e (b:=decide (((i:Nat):Int)<(l.length:Nat))) rfl (fun h=> ?_) (fun h=> ?_)
 ·replace h:=of_decide_eq_true h
  have hi':i<l.length:=by omega
  obtain⟨x,hx,hdx⟩:=a1j hi'
  refine a0k a0q rfl rfl rfl rfl (fun _=>rfl) (hu.mono l1) hx rfl (fun _=>rfl) fun _=> ?_
  simp only[cA,nA]
  refine a0s (a9W (f:=f) (caps:=caps.toArray) (vs:=[ii x]) rfl rfl rfl hent (hf _ x l1 (List.mem_of_getElem? hx))) rfl ?_
  rintro _ H2 ⟨l2,rfl⟩
  refine⟨fun h=>(nomatch h),?_⟩
  simp only[cA,nA]
  refine a0a ⟨_,rfl⟩ ?_
  refine a0e (b:=q x) rfl (fun hqx=> ?_) (fun hqx=> ?_)
  ·skip
   exact a0f rfl ⟨l1.trans l2,_,rfl,by rw[List.any_eq_true.2 ⟨x,List.mem_of_getElem? hx,hqx⟩];exact decide_eq_true (by omega)⟩
  ·skip
   exact⟨(i+1,p),by show l.length-(i+1)<l.length-i;omega,(a1s rfl (a0x rfl (by omega))),⟨hi',l1.trans l2,by rw[take_snoc hx,List.any_append,hq];simp[hqx]⟩⟩
 ·replace h:=of_decide_eq_false h
  rw[List.take_of_length_le (by omega)]at hq
  exact a0f rfl ⟨l1,_,rfl,by rw[hq];rfl⟩
theorem b9R {f:FuncId} {caps:List Value} {q:Int->Bool} (hu:SI H u l) (hent:a7q prog f=true) (hf:∀H' x,PH.le H H'->x∈l->a8O prog f (ii x::caps) H' (.bool (q x))):a8O prog 53 [u,.func (.func f) #[] caps.toArray] H (.bool (l.any q)):=by
 refine a0d a0r b8V (by kernel_rfl) rfl ?_
 refine a0h (c4R hu hent hf) rfl ?_
 rintro _ H1 ⟨l1,z,rfl,hz⟩
 refine⟨fun h=>(nomatch h),?_⟩
 simp only[cA,nA]
 refine a0a ⟨_,rfl⟩ ?_
 exact a0f rfl ⟨l1,hz ▸ rfl⟩
theorem c4S (hu:SI H u l) (y:Int):Con prog 104 [u,ii y] H fun r H'=>H'=H/\∃z:Int,r=ii z/\decide (z≥0)=l.contains y:=by
 refine a0d a0r b9d (by kernel_rfl) rfl ?_
 have hl:=hu.len
 refine a0j a0q rfl rfl hu rfl ?_
 refine a0S (α:=Nat×Int) (fun⟨i,p⟩=>[ii p,ii (i:Nat)]) (fun⟨i,p⟩=>i<=l.length/\(l.take i).contains y=false) (fun⟨i,p⟩=>l.length-i) ((0,0)) rfl (⟨Nat.zero_le _,rfl⟩) fun⟨i,p⟩ hQ=> ?_
 simp only[cA,nA]
 obtain⟨hi,hq⟩:=hQ
 refine a0a ⟨_,rfl⟩ ?_
 refine a0a ⟨_,rfl⟩ ?_
 refine a0e (b:=decide (((i:Nat):Int)<(l.length:Nat))) rfl (fun h=> ?_) (fun h=> ?_)
 ·replace h:=of_decide_eq_true h
  have hi':i<l.length:=by omega
  obtain⟨x,hx,hdx⟩:=a1j hi'
  refine a0k a0q rfl rfl rfl rfl (fun _=>rfl) hu hx rfl (fun _=>rfl) fun _=> ?_
  simp only[cA,nA]
  refine a0a ⟨_,rfl⟩ ?_
  refine a0a ⟨_,rfl⟩ ?_
  refine a0e (b:=decide (y=x)) (bE y x) (fun hyx=> ?_) (fun hyx=> ?_)
  ·replace hyx:=of_decide_eq_true hyx
   exact a0f rfl ⟨rfl,_,rfl,by rw[List.contains_iff_mem.2 (hyx ▸ List.mem_of_getElem? hx)];exact decide_eq_true (by omega)⟩
  ·replace hyx:=of_decide_eq_false hyx
   exact⟨(i+1,p),by show l.length-(i+1)<l.length-i;omega,(a1s rfl (a0x rfl (by omega))),⟨⟨hi',by rw[take_snoc hx,a9k,hq];simp[hyx]⟩,rfl⟩⟩
 ·replace h:=of_decide_eq_false h
  rw[List.take_of_length_le (by omega)]at hq
  exact a0f rfl ⟨rfl,_,rfl,by rw[hq];rfl⟩
theorem b9S (hu:SI H u l) (y:Int):Asks prog 40 [u,ii y] H (.bool (l.contains y)):=by
 refine a0d a0r c6O (by kernel_rfl) rfl ?_
 refine a0h (c4S hu y) rfl ?_
 rintro _ _ ⟨rfl,z,rfl,hz⟩
 refine⟨fun h=>(nomatch h),?_⟩
 simp only[cA,nA]
 refine a0a ⟨_,rfl⟩ ?_
 exact a0f rfl ⟨rfl,hz ▸ rfl⟩
end
section
variable {H:PH} {n:Nat} {w:Value} {es:List (Nat×Nat)} {set:Nat}
theorem c4T (hw:SG H w es) (hg:GV n es) (hs:set<M64):a8O prog 102 [gv n w,uv set] H (ii (if set<2^n then 0 else 2)):=by
 refine a0d a0r c6Q (by kernel_rfl) rfl ?_
 refine a0a (a1m hw) ?_
 refine a0J (a6R hw hg) rfl fun H1 l1=> ?_
 simp only[cA,nA]
 refine a0a ⟨_,rfl⟩ ?_
 refine a0y (bF (p:=(0:Int)≠0) (by simp)) ?_
 refine a0v (a4r set hs) rfl ?_
 simp only[cA,nA]
 refine a0a ⟨_,rfl⟩ ?_
 refine a0a ⟨_,rfl⟩ ?_
 refine a0e (b:=decide (set≥2^n)) (by show Value.bool (decide (((Go.WD.blen set:Nat):Int)>((n:Nat):Int)))=_;congr 1;apply decide_eq_decide.2;constructor<;>intro hh<;>first|(have:=Go.WD.blen_ge hh;omega)|(apply Nat.le_of_not_lt;intro h2;have:=Go.WD.blen_le h2;omega)) (fun h=> ?_) (fun h=> ?_)
 ·replace h:=of_decide_eq_true h
  exact a0f rfl ⟨l1,by rw[if_neg (by omega)];rfl⟩
 ·replace h:=of_decide_eq_false h
  exact a0f rfl ⟨l1,by rw[if_pos (by omega)];rfl⟩
noncomputable def d3r (n:Nat) (es:List (Nat×Nat)) (set:Nat):Value:=if set<2^n then .tuple #[.bool (cnB es set),ii 0]else .tuple #[.bool false,ii 2]
theorem b0T (hT:Tb H) (hw:SG H w es) (hg:GV n es) (hs:set<M64):a8O prog 39 [gv n w,uv set] H (d3r n es set):=by
 refine a0d a0r b9j (by kernel_rfl) rfl ?_
 have hn:=hg.n64
 refine a0a (a1m hw) ?_
 refine a0J (c4T hw hg hs) rfl fun H1 l1=> ?_
 simp only[cA,nA]
 refine a0a ⟨_,rfl⟩ ?_
 refine a0e (b:=decide (¬set<2^n)) (by show Value.bool ((if set<2^n then(0:Int)else 2) !=0)=_;by_cases hh:set<2^n<;>simp[hh]) (fun h=> ?_) (fun h=> ?_)
 ·replace h:=of_decide_eq_true h
  exact a0f rfl ⟨l1,by unfold d3r;rw[if_neg h,if_neg h];rfl⟩
 ·replace h:=of_decide_eq_false h
  have h:set<2^n:=Classical.byContradiction h
  refine a0h (b9Q (hT.mono l1) (hw.mono l1) hg h) rfl ?_
  rintro u H2 ⟨l2,l,hl,hc⟩
  refine⟨fun h=>(nomatch h),?_⟩
  simp only[cA,nA]
  have e:cnB es set=decide (l.length=1):=by rw[Bool.eq_iff_iff,cnB_iff,<-hc];simp
  refine a0j el_u64 rfl rfl hl rfl ?_
  refine a0a ⟨_,rfl⟩ ?_
  exact a0f rfl ⟨l1.trans l2,by rw[show d3r n es set= .tuple #[.bool (cnB es set),ii 0]from if_pos h,e];show Value.tuple #[.bool (((l.length:Nat):Int)==1),_]=_;rw[bE,show decide (((l.length:Nat):Int)=1)=decide (l.length=1)from decide_eq_decide.2 (by omega)];rfl⟩
end
end Go.Proofs.YtkcjbfoejpfbbaaGreatDoor
/- Chapter 32: recom, part 1. -/
namespace Go.Proofs.YtkcjbfoejpfbbaaGreatDoor
open Go.Proofs.Tryz
open Go.RowKit Go.RX Go.GS
def bv (wts:Value) (lo hi ds:Int):Value:= .agg #[wts,ii lo,ii hi,ii ds]
def chv (wts:Value) (lo hi ds:Int) (n:Nat) (w:Value):Value:= .agg #[wts,ii lo,ii hi,ii ds,ii n,w]
theorem a0W {H:PH} {sz:Nat} {α:Type} {ce:α->List Value} {v:Value} {l:List α} (h:SE H sz ce v l):a7l v=true:=h.one.2 v (by rw[h.cells];simp)
theorem b0U {wts:Value} (h:a7l wts=true) (lo hi ds:Int):(bv wts lo hi ds).cells.size=4/\a0u (bv wts lo hi ds).cells:=by
 refine⟨rfl,fun c hc=> ?_⟩
 rw[bv,a1J]at hc
 simp only[List.mem_cons,List.not_mem_nil,or_false]at hc
 rcases hc with rfl|rfl|rfl|rfl
 ·exact h
 all_goals rfl
theorem b9T {wts w:Value} (h:a7l wts=true) (h2:a7l w=true) (lo hi ds:Int) (n:Nat):(chv wts lo hi ds n w).cells.size=6/\a0u (chv wts lo hi ds n w).cells:=by
 refine⟨rfl,fun c hc=> ?_⟩
 rw[chv,a1J]at hc
 simp only[List.mem_cons,List.not_mem_nil,or_false]at hc
 rcases hc with rfl|rfl|rfl|rfl|rfl|rfl
 ·exact h
 ·rfl
 ·rfl
 ·rfl
 ·rfl
 ·exact h2
theorem c9O:FA prog 111 0 0:=⟨by kernel_rfl,of_decide_eq_true (by kernel_rfl),by kernel_rfl,by kernel_rfl,of_decide_eq_true (by kernel_rfl)⟩
theorem d5V:FA prog 111 1 4:=⟨by kernel_rfl,of_decide_eq_true (by kernel_rfl),by kernel_rfl,by kernel_rfl,of_decide_eq_true (by kernel_rfl)⟩
theorem d5W:FA prog 40 0 0:=⟨by kernel_rfl,of_decide_eq_true (by kernel_rfl),by kernel_rfl,by kernel_rfl,of_decide_eq_true (by kernel_rfl)⟩
theorem d5X:FA prog 40 1 1:=⟨by kernel_rfl,of_decide_eq_true (by kernel_rfl),by kernel_rfl,by kernel_rfl,of_decide_eq_true (by kernel_rfl)⟩
theorem d5Y:FA prog 40 2 2:=⟨by kernel_rfl,of_decide_eq_true (by kernel_rfl),by kernel_rfl,by kernel_rfl,of_decide_eq_true (by kernel_rfl)⟩
theorem d3s:Sc prog 32:=⟨by kernel_rfl,by kernel_rfl,by kernel_rfl⟩
theorem d5Z:Ag prog 38 2:=⟨by kernel_rfl,by kernel_rfl,by kernel_rfl⟩
theorem b9U:a7q prog 54=true:=by kernel_rfl
theorem b9V:a7q prog 180=true:=by kernel_rfl
section
variable {H:PH} {u v w wts:Value} {p wl:List Int} {n:Nat} {es:List (Nat×Nat)} {lo hi ds:Int} {set:Nat}
theorem b9W (x:Int):Asks prog 54 [ii x] H (.bool (decide (x<0)||decide (x>1000000000))):=by
 refine a0d a0r b4i (by kernel_rfl) rfl ?_
 refine a0a ⟨_,rfl⟩ ?_
 refine a0e (b:=decide (x<0)) rfl (fun h=> ?_) (fun h=> ?_)
 ·replace h:=of_decide_eq_true h
  exact a0f rfl ⟨rfl,by rw[decide_eq_true h];rfl⟩
 ·replace h:=of_decide_eq_false h
  exact a0f rfl ⟨rfl,by rw[decide_eq_false h];rfl⟩
theorem a4X {h:¬(wl.length=n/\0<=lo/\lo<=hi/\1<=ds/\ds<=8/\c7V wl)}:bdE n wl lo hi ds=320:=if_neg h
theorem b9X (hw:SG H w es) (hg:GV n es) (hwt:SI H wts wl):a8O prog 10 [gv n w,bv wts lo hi ds] H (ii (bdE n wl lo hi ds)):=by
 refine a0d a0r b9w (by kernel_rfl) rfl ?_
 refine a0a (a1m hw) ?_
 refine a0a (b0U (a0W hwt) _ _ _) ?_
 refine a0J (a6R hw hg) rfl fun H1 l1=> ?_
 simp only[cA,nA]
 refine a0a ⟨_,rfl⟩ ?_
 refine a0y (bF (p:=(0:Int)≠0) (by simp)) ?_
 refine a0j a0q rfl rfl (hwt.mono l1) rfl ?_
 refine a0a ⟨_,rfl⟩ ?_
 refine a0a ⟨_,rfl⟩ ?_
 refine a0e (b:=decide (wl.length≠n)) (by show Value.bool (((wl.length:Nat):Int) !=((n:Nat):Int))=_;rw[bN];congr 1;apply decide_eq_decide.2;omega) (fun h=> ?_) (fun h=> ?_)
 ·replace h:=of_decide_eq_true h
  exact a0f rfl ⟨l1,by rw[a4X (h:=fun e=>h e.1)];rfl⟩
 ·replace h:=of_decide_eq_false h
  refine a0a ⟨_,rfl⟩ ?_
  refine a0e (b:=decide (lo<0)) rfl (fun h2=> ?_) (fun h2=> ?_)
  ·replace h2:=of_decide_eq_true h2
   exact a0f rfl ⟨l1,by rw[a4X (h:=fun e=>by omega)];rfl⟩
  ·replace h2:=of_decide_eq_false h2
   refine a0a ⟨_,rfl⟩ ?_
   refine a0e (b:=decide (lo>hi)) rfl (fun h3=> ?_) (fun h3=> ?_)
   ·replace h3:=of_decide_eq_true h3
    exact a0f rfl ⟨l1,by rw[a4X (h:=fun e=>by omega)];rfl⟩
   ·replace h3:=of_decide_eq_false h3
    refine a0a ⟨_,rfl⟩ ?_
    refine a0e (b:=decide (ds<1)) rfl (fun h4=> ?_) (fun h4=> ?_)
    ·replace h4:=of_decide_eq_true h4
     exact a0f rfl ⟨l1,by rw[a4X (h:=fun e=>by omega)];rfl⟩
    ·replace h4:=of_decide_eq_false h4
     refine a0e (b:=decide (ds>8)) rfl (fun h5=> ?_) (fun h5=> ?_)
     ·replace h5:=of_decide_eq_true h5
      exact a0f rfl ⟨l1,by rw[a4X (h:=fun e=>by omega)];rfl⟩
     ·replace h5:=of_decide_eq_false h5
      refine a0J (b9R (caps:=[]) (q:=fun x=>decide (x<0)||decide (x>1000000000)) (hwt.mono l1) b9U (fun H' x _ _=>(b9W x).give)) rfl fun H2 l2=> ?_
      simp only[cA,nA]
      refine a0a ⟨_,rfl⟩ ?_
      refine a0e (b:=wl.any fun x=>decide (x<0)||decide (x>1000000000)) rfl (fun h6=> ?_) (fun h6=> ?_)
      ·skip
       rw[List.any_eq_true]at h6
       obtain⟨x,hx1,hx2⟩:=h6
       exact a0f rfl ⟨l1.trans l2,by rw[a4X (h:=fun e=>by have:=e.2.2.2.2.2 x hx1;simp at hx2;omega)];rfl⟩
      ·skip
       have hW:c7V wl:=by
        intro x hx
        rw[List.any_eq_false]at h6
        have:=h6 x hx
        simp at this;omega
       exact a0f rfl ⟨l1.trans l2,by rw[show bdE n wl lo hi ds=0 from if_pos ⟨by omega,by omega,by omega,by omega,by omega,hW⟩];rfl⟩
theorem b6f {b:Nat} {T:TypeId} {x:Nat} {y:Int} (hb:H b=some (.cells #[wts,ii lo,ii hi,ii ds,ii n,w] T (0,0))) (hwt:SI H wts wl) (hx:wl[x]? =some y):a8O prog 180 [ii (x:Nat),.pointer (some ⟨b,0,none⟩)] H (ii y):=by
 refine a0d a0r b4l (by kernel_rfl) rfl ?_
 refine a5p c9O rfl rfl rfl ?_
 simp only[cA,nA]
 refine a5p d5W rfl rfl rfl ?_
 simp only[cA,nA]
 refine a0C d3s rfl rfl hb rfl rfl ?_
 simp only[cA,nA]
 refine a0k a0q rfl rfl rfl rfl (fun _=>rfl) hwt hx rfl (fun _=>rfl) fun _=> ?_
 simp only[cA,nA]
 exact a0f rfl ⟨PH.le.refl _,rfl⟩
theorem b9Y {f:FuncId} {caps:List Value} (hT:Tb H) (hs:set<M64) (hwl:c7V wl) (hsn:∀x,bit set x=true->x<wl.length) (hent:a7q prog f=true) (hf:∀H' x y,PH.le H H'->wl[x]? =some y->a8O prog f (ii (x:Nat)::caps) H' (ii y)):a8O prog 179 [uv set,.func (.func f) #[] caps.toArray] H (ii (c7U wl set)):=by
 refine a0d a0r b9B (by kernel_rfl) rfl ?_
 refine a0n (α:=Nat×Nat) (fun⟨k,s⟩=>[ii (((els set).take k).map fun x=>wl.getD x 0).sum,uv s]) (fun⟨k,s⟩=>fun H'=>PH.le H H'/\s<M64/\k<=(els set).length/\els s=(els set).drop k) (fun⟨k,s⟩=>(els set).length-k) ((0,set)) rfl (⟨PH.le.refl _,hs,Nat.zero_le _,rfl⟩) fun⟨k,s⟩ H' hQ=> ?_
 simp only[cA,nA]
 obtain⟨l1,hs',hk,he⟩:=hQ
 refine a0a ⟨_,rfl⟩ ?_
 refine a0e (b:=decide (s≠0)) (bN0 s) (fun h=> ?_) (fun h=> ?_)
 ·replace h:=of_decide_eq_true h
  obtain⟨x,r,hel⟩:∃x r,els s=x::r:=by
   cases hel:els s with
   |nil=>exact absurd (a4M hs' hel) h
   |cons x r=>exact⟨x,r,rfl⟩
  have htz:tz s=x:=by simp[tz,hel]
  have hk':k<(els set).length:=by
   apply Nat.lt_of_not_le;intro hh
   rw[List.drop_eq_nil_of_le hh,hel]at he;cases he
  obtain⟨y,hy,hdy⟩:=a1j hk'
  rw[<-he,hel]at hdy
  obtain⟨rfl,hr'⟩:=List.cons.inj hdy
  have hxl:=hsn x ((a2v hs).1 (List.mem_of_getElem? hy))
  have hwx:wl[x]? =some wl[x]:=List.getElem?_eq_getElem hxl
  refine a1e (b0O (hT.mono l1) hs') rfl ?_
  simp only[cA,nA]
  rw[htz]
  refine a0s (a9W (f:=f) (caps:=caps.toArray) (vs:=[ii (x:Nat)]) rfl rfl rfl hent (hf _ x _ l1 hwx)) rfl ?_
  rintro _ H2 ⟨l2,rfl⟩
  refine⟨fun h=>(nomatch h),?_⟩
  simp only[cA,nA]
  have hbd:=b0i (((els set).take k).map fun x=>wl.getD x 0) (by
   intro z hz
   rw[List.mem_map]at hz
   obtain⟨a,ha,rfl⟩:=hz
   have ha':=hsn a ((a2v hs).1 (List.mem_of_mem_take ha))
   rw[List.getD_eq_getElem?_getD,List.getElem?_eq_getElem ha']
   exact hwl _ (List.getElem_mem ha'))
  have h64:=a1u set
  have hlk:((((els set).take k).map fun x=>wl.getD x 0)).length<=64:=by
   rw[List.length_map,List.length_take];unfold card at h64;omega
  have hy2:=hwl _ (List.getElem_mem hxl)
  refine a0a ⟨_,rfl⟩ ?_
  refine a0a ⟨_,rfl⟩ ?_
  exact⟨(k+1,s&&&(s-1)),by show(els set).length-(k+1)<(els set).length-k;omega,(a1s (by rw[b3o rfl rfl (by omega) (by omega)];show ii _=ii (((els set).take (k+1)).map fun x=>wl.getD x 0).sum;rw[take_snoc hy,List.map_append,List.sum_append,List.map_cons,List.map_nil,List.sum_cons,List.sum_nil,Int.add_zero,List.getD_eq_getElem?_getD,hwx];rfl) (a3T rfl (b0f (B:=1) rfl rfl hs' (by omega)) hs' (Nat.lt_of_le_of_lt (Nat.sub_le _ _) hs'))),⟨l1.trans l2,b3j hs',hk',by rw[b3l hs' hel,hr']⟩⟩
 ·replace h:=of_decide_eq_false h
  have h0:s=0:=by omega
  rw[h0,a8P]at he
  have hk2:(els set).length<=k:=by
   apply Nat.le_of_not_lt;intro hh
   rw[List.drop_eq_getElem_cons hh]at he;cases he
  exact a0f rfl ⟨l1,by rw[List.take_of_length_le hk2];rfl⟩
structure Chn (H:PH) (n:Nat) (w wts:Value) (es:List (Nat×Nat)) (wl:List Int):Prop where
 tb:Tb H
 gr:SG H w es
 ok:GV n es
 wt:SI H wts wl
 len:wl.length=n
 wok:c7V wl
theorem Chn.mono {H':PH} (h:Chn H n w wts es wl) (hl:PH.le H H'):Chn H' n w wts es wl:=⟨h.tb.mono hl,h.gr.mono hl,h.ok,h.wt.mono hl,h.len,h.wok⟩
theorem b0V (hc:Chn H n w wts es wl) (hs:set<2^n):a8O prog 114 [chv wts lo hi ds n w,uv set] H (.bool (alB es wl lo hi set)):=by
 refine a0d a0r b9z (by kernel_rfl) rfl ?_
 have hs':=a3X hc.ok.n64 hs
 refine a0a (b9T (a0W hc.wt) (a0W hc.gr) _ _ _ _) ?_
 refine a2u (cs:= #[wts,ii lo,ii hi,ii ds,ii n,w]) rfl fun b hb=> ?_
 simp only[cA,nA]
 have l1:=PH.le_put hb (.cells #[wts,ii lo,ii hi,ii ds,ii n,w] 111 (0,0))
 have b1:=PH.put_self H b (.cells #[wts,ii lo,ii hi,ii ds,ii n,w] 111 (0,0))
 generalize H.put b (.cells #[wts,ii lo,ii hi,ii ds,ii n,w] 111 (0,0))=H1 at l1 b1
 have hc1:=hc.mono l1
 refine a6u (a2k (vs:=[.pointer (some ⟨b,0,none⟩)]) rfl rfl) rfl ?_
 simp only[cA,nA]
 refine a0J (b9Y (caps:=[.pointer (some ⟨b,0,none⟩)]) (wl:=wl) hc1.tb hs' hc.wok (fun x hx=>by rw[hc.len];exact c9N hs hx) b9V (fun H' x y hl hx=>b6f (hl _ _ b1) (hc1.wt.mono hl) hx)) rfl fun H2 l2=> ?_
 simp only[cA,nA]
 have hc2:=hc1.mono l2
 have b2:=l2 _ _ b1
 refine a5p d5V rfl rfl rfl ?_
 simp only[cA,nA]
 refine b7s (vs:=[ii n,w]) d5Z rfl rfl b2 rfl (by simp) rfl ?_
 simp only[cA,nA]
 refine a0J (b0T hc2.tb hc2.gr hc.ok hs') rfl fun H3 l3=> ?_
 simp only[cA,nA]
 have b3:=l3 _ _ b2
 rw[show d3r n es set= .tuple #[.bool (cnB es set),ii 0]from if_pos hs]
 refine a0a ⟨_,rfl,by simp⟩ ?_
 refine a0a ⟨_,rfl,by simp⟩ ?_
 refine a0a ⟨_,rfl⟩ ?_
 refine a0e (b:=cnB es set) rfl (fun h1=> ?_) (fun h1=> ?_)
 ·skip
  refine a5p c9O rfl rfl rfl ?_
  simp only[cA,nA]
  refine a5p d5X rfl rfl rfl ?_
  simp only[cA,nA]
  refine a0C sc_int rfl rfl b3 rfl rfl ?_
  simp only[cA,nA]
  refine a0a ⟨_,rfl⟩ ?_
  refine a0a ⟨_,rfl⟩ ?_
  refine a0e (b:=decide (c7U wl set≥lo)) rfl (fun h2=> ?_) (fun h2=> ?_)
  ·replace h2:=of_decide_eq_true h2
   refine a5p c9O rfl rfl rfl ?_
   simp only[cA,nA]
   refine a5p d5Y rfl rfl rfl ?_
   simp only[cA,nA]
   refine a0C sc_int rfl rfl b3 rfl rfl ?_
   simp only[cA,nA]
   refine a0a ⟨_,rfl⟩ ?_
   exact a0f rfl ⟨(l1.trans l2).trans l3,by unfold alB;rw[h1,decide_eq_true h2];rfl⟩
  ·replace h2:=of_decide_eq_false h2
   exact a0f rfl ⟨(l1.trans l2).trans l3,by unfold alB;rw[h1,decide_eq_false h2];rfl⟩
 ·skip
  exact a0f rfl ⟨(l1.trans l2).trans l3,by unfold alB;rw[h1];rfl⟩
end
end Go.Proofs.YtkcjbfoejpfbbaaGreatDoor

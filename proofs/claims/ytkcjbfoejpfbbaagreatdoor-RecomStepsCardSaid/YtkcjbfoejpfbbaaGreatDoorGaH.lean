/- Chapter 32: graphs, part 3. -/
import Derived.Test.YtkcjbfoejpfbbaaGreatDoorGaD
import Derived.Test.YtkcjbfoejpfbbaaGreatDoorGsO
import Derived.Test.YtkcjbfoejpfbbaaGreatDoorGmT
namespace Go.RX
open Go.RowKit
theorem b3b {P:Program} {ρ:List Value} {x:SV} {v:Value} (h:D P ρ x=v) (hc:v.cells= #[v]):D P ρ (.cell x 0 0 noI)=v:=by
 show(D P ρ x).cells.getD (0+0*a1R (D P ρ noI)) undef=v
 rw[h,hc,Nat.zero_mul];rfl
end Go.RX
namespace Go.Proofs.YtkcjbfoejpfbbaaGreatDoor
open Go.Proofs.Tryz
open Go.RowKit Go.RX Go.GS
section
variable {H:PH} {n:Nat} {w:Value} {es:List (Nat×Nat)} {set:Nat}
theorem a0V {n:Nat} (h:n<=64) {s:Nat} (hs:s<2^n):s<M64:=Nat.lt_of_lt_of_le hs (Nat.pow_le_pow_right (n:=2) (by decide) h)
theorem b3c {n s x:Nat} (hs:s<2^n) (h:bit s x=true):x<n:=by
 apply Nat.lt_of_not_le
 intro hn
 have:=Nat.testBit_lt_two_pow (Nat.lt_of_lt_of_le hs (Nat.pow_le_pow_right (n:=2) (by decide) hn))
 rw[bit,this]at h;cases h
set_option maxHeartbeats 1000000 in
theorem c0S (hT:Tb H) (hw:SG H w es) (hg:GV n es) (hs:set<2^n):Con prog 103 [gv n w,uv set] H fun u H'=>PH.le H H'/\∃l,SU H' u l/\(l.length=1↔Cn es set):=by
 refine a0j a0n b4v ?_
 have hn:=hg.n64
 have hs':=a0V hn hs
 refine a0c (a0G hw) ?_
 refine a0c (el_u64.vcells set) ?_
 refine a0f (d1f hw hg) rfl ?_
 rintro u H1 ⟨l1,o1⟩
 refine⟨fun h=>(nomatch h),?_⟩
 have hu:=o1.se
 refine a0c hu.one ?_
 refine a0i (α:=Value×Nat×List Nat) (fun⟨v,rest,l⟩=>[v,uv rest,gv n w,uv set,u]) (fun⟨v,rest,l⟩=>fun H'=>PH.le H1 H'/\SO H1 H' 34 1 (fun s:Nat=>[uv s]) v l/\rest<M64/\(∀y,bit rest y=true->bit set y=true)/\CS es set rest l.length/\l.length+card rest<=64) (fun⟨v,rest,l⟩=>card rest) ((.slice none 0 0,set,[])) rfl (⟨PH.le.refl _,SO.nil _ _ _ _ _,hs',fun _ h=>h,.inl ⟨rfl,rfl⟩,by simpa using a1G set⟩) fun⟨v,rest,l⟩ H' hQ=> ?_
 obtain⟨l2,o2,hr,hrs,hC,hcl⟩:=hQ
 refine a0a ?_
 refine a0o (p:=(rest≠0)) (bN0 rest) (fun h=> ?_) fun h=> ?_
 ·obtain⟨x,r,hel⟩:∃x r,els rest=x::r:=by
   cases hel:els rest with
   |nil=>exact absurd (a4p hr hel) h
   |cons x r=>exact⟨x,r,rfl⟩
  obtain⟨hx,hx64,_⟩:=a2w hel
  have hxs:=hrs x hx
  refine a0i (α:=Nat) (fun part=>[uv part,gv n w,uv set,u]) (fun part=>fun H''=>PH.le H' H''/\part<M64/\bit part x=true/\∀y,bit part y=true->Rch es set x y) (fun part=>64-card part) (2^x) (c8z (by rw[a2H (B:=(M64-rest)%M64) rfl (a8d rfl hr) hr (Nat.mod_lt _ (by decide)),a6K hr hel]) rfl rfl rfl) (⟨PH.le.refl _,a0R hx64,by rw[a0N];simp,fun y hy=>by rw[a0N]at hy;simp at hy;subst hy;exact .base⟩) fun part H2 hQ2=> ?_
  obtain⟨l3,hp,hpx,hpr⟩:=hQ2
  refine a0c (el_u64.vcells part) ?_
  refine a0f (c6J (H:=H2) (s:=part)) rfl ?_
  rintro _ _ ⟨b,hb,rfl,rfl⟩
  refine⟨fun h=>(nomatch h),?_⟩
  have l4:PH.le H1 H2:=l2.trans l3
  have hu2:SU H2 u (nbs n es):=hu.mono l4
  have hpn:∀y,bit part y=true->y<n:=fun y hy=>b3c hs ((hpr y hy).mem hxs)
  refine b8m (X:=H2) (K:=a6f b part) (Ro:=H2) (fun pre vals X'=>X'=H2/\vals=[uv (grow es set part ((els part).take pre.length))]) (fun _ _ _=>False) (b1z hp ((hT.mono l1).mono l4)) b1x (b1y _ hb) rfl (fun _ _ _ h=>by rw[h.1];exact PH.le.refl _) ⟨rfl,rfl⟩ ?_ ?_ ?_
  ·rintro pre xs vals X' ⟨y,hy,rfl,hpre⟩ _ ⟨rfl,rfl⟩
   refine⟨rfl,?_⟩
   have hyp:bit part y=true:=(a2j hp).1 (List.mem_of_getElem? hy)
   refine a0I el_u64 rfl rfl rfl rfl (fun _=>rfl) hu2 (b0X es (hpn y hyp)) (a0F (b3b rfl hu2.cells) rfl) (fun _=>rfl) fun _=> ?_
   have hgl:=b8z (es:=es) hs' hp ((els part).take pre.length)
   have hnb:=c9V hg.ed hn y
   refine a0a ?_
   refine a0a ?_
   refine a0a ?_
   exact⟨rfl,by rw[List.length_append];simp only[List.length_cons,List.length_nil];rw[take_snoc hy,a6M];exact a2S (a4q rfl (a2H rfl rfl hnb hs') hgl (b3L hnb))⟩
  ·rintro xs vals X' K' rfl hd _ ⟨rfl,rfl⟩
   rw[List.length_map,List.take_length]
   simp only[cA,nA]
   have hgl:=b8z (es:=es) hs' hp (els part)
   have l5:PH.le X' (X'.or K'):=PH.le_or _ _
   refine a0a ?_
   refine a0a ?_
   refine a0o (p:=(grow es set part (els part)=part)) (by show Value.bool (((grow es set part (els part):Nat):Int)==((part:Nat):Int))=_;rw[bE];congr 1;apply decide_eq_decide.2;omega) (fun h2=> ?_) fun h2=> ?_
   ·have hcl2:=c5L hg.ed hp hpx hpr h2
    refine a0B el_u64 rfl rfl rfl (fun _=>rfl) (fun _=>rfl) (l4.trans l5) (o2.mono (l3.trans l5)) (by omega) rfl (fun _=>rfl) rfl fun p v2 H3 l6 o3=> ?_
    have hlt:card (sdf rest part)<card rest:=a5k (fun y hy=>by rw[a1K]at hy;exact(Bool.and_eq_true _ _ ▸ hy).1) hx (by rw[a1K,hpx];simp) hx64
    exact⟨(v2,sdf rest part,l++[part]),hlt,(by simp only[List.map_cons,List.map_nil];rw[b0V rfl rfl hr hp];rfl),⟨l6,o3,sdf_lt hr,fun y hy=>hrs y (by rw[a1K]at hy;exact(Bool.and_eq_true _ _ ▸ hy).1),by rw[List.length_append];exact hC.next hx hxs hcl2,by rw[List.length_append];simp only[List.length_cons,List.length_nil];omega⟩⟩
   ·obtain⟨z,hz1,hz2⟩:=a6N (fun e=>h2 e.symm) (fun y hy=>by rw[a4H];exact .inl hy)
    have hlt:card part<card (grow es set part (els part)):=a5k (fun y hy=>by rw[a4H];exact .inl hy) hz1 hz2 (a1N hgl hz1)
    have hc64:=a1G (grow es set part (els part))
    exact⟨grow es set part (els part),by omega,rfl,⟨l3.trans l5,hgl,by rw[a4H];exact .inl hpx,c5M hg.ed hp hpr⟩⟩
  ·exact fun _ _ _ _ _ _ _ h=>h.elim
 ·have h0:rest=0:=by omega
  subst h0
  exact a0b rfl ⟨l1.trans l2,l,o2.se,hC.end⟩
end
end Go.Proofs.YtkcjbfoejpfbbaaGreatDoor
/- Chapter 32: library, part 3. -/
namespace Go.Proofs.YtkcjbfoejpfbbaaGreatDoor
open Go.Proofs.Tryz
open Go.RowKit Go.RX Go.GS
section
variable {H:PH} {u v:Value} {l:List Int}
theorem c6O {f:FuncId} {caps:List Value} {q:Int->Bool} (hu:SI H u l) (hent:a4w prog f=true) (hf:∀H' x,PH.le H H'->x∈l->a3Z prog f (ii x::caps) H' (.bool (q x))):Con prog 109 [u,.func (.func f) #[] caps.toArray] H fun r H'=>PH.le H H'/\∃z:Int,r=ii z/\decide (z≥0)=l.any q:=by
 refine a0j a0n b9O ?_
 have hl:=hu.len
 refine a0p el_int hu ?_
 refine a0i (α:=Nat×Int) (fun⟨i,p⟩=>[ii p,ii (i:Nat)]) (fun⟨i,p⟩=>fun H'=>i<=l.length/\PH.le H H'/\(l.take i).any q=false) (fun⟨i,p⟩=>l.length-i) ((0,0)) rfl (⟨Nat.zero_le _,PH.le.refl _,rfl⟩) fun⟨i,p⟩ H' hQ=> ?_
 obtain⟨hi,l1,hq⟩:=hQ
 refine a0a ?_
 refine a0a ?_
 refine a0e (b:=decide (((i:Nat):Int)<(l.length:Nat))) rfl (fun h=> ?_) (fun h=> ?_)
 ·replace h:=of_decide_eq_true h
  have hi':i<l.length:=by omega
  obtain⟨x,hx,hdx⟩:=a0q hi'
  refine a0t el_int (hu.mono l1) hx fun _=> ?_
  refine a0H (a6G (f:=f) (caps:=caps.toArray) (vs:=[ii x]) rfl rfl rfl hent (hf _ x l1 (List.mem_of_getElem? hx))) rfl ?_
  rintro _ H2 ⟨l2,rfl⟩
  refine⟨fun h=>(nomatch h),?_⟩
  refine a0a ?_
  refine a0e (b:=q x) rfl (fun hqx=> ?_) (fun hqx=> ?_)
  ·skip
   exact a0b rfl ⟨l1.trans l2,_,rfl,by rw[List.any_eq_true.2 ⟨x,List.mem_of_getElem? hx,hqx⟩];exact decide_eq_true (by omega)⟩
  ·skip
   exact⟨(i+1,p),by show l.length-(i+1)<l.length-i;omega,(a0F rfl (a0k rfl (by omega))),⟨hi',l1.trans l2,by rw[take_snoc hx,List.any_append,hq];simp[hqx]⟩⟩
 ·replace h:=of_decide_eq_false h
  rw[List.take_of_length_le (by omega)]at hq
  exact a0b rfl ⟨l1,_,rfl,by rw[hq];rfl⟩
theorem c0T {f:FuncId} {caps:List Value} {q:Int->Bool} (hu:SI H u l) (hent:a4w prog f=true) (hf:∀H' x,PH.le H H'->x∈l->a3Z prog f (ii x::caps) H' (.bool (q x))):a3Z prog 53 [u,.func (.func f) #[] caps.toArray] H (.bool (l.any q)):=by
 refine a0j a0n b9J ?_
 refine a0f (c6O hu hent hf) rfl ?_
 rintro _ H1 ⟨l1,z,rfl,hz⟩
 refine⟨fun h=>(nomatch h),?_⟩
 refine a0a ?_
 exact a0b rfl ⟨l1,hz ▸ rfl⟩
theorem c6P (hu:SI H u l) (y:Int):Con prog 104 [u,ii y] H fun r H'=>H'=H/\∃z:Int,r=ii z/\decide (z≥0)=l.contains y:=by
 refine a0j a0n b9T ?_
 have hl:=hu.len
 refine a0p el_int hu ?_
 refine a0A (α:=Nat×Int) (fun⟨i,p⟩=>[ii p,ii (i:Nat)]) (fun⟨i,p⟩=>i<=l.length/\(l.take i).contains y=false) (fun⟨i,p⟩=>l.length-i) ((0,0)) rfl (⟨Nat.zero_le _,rfl⟩) fun⟨i,p⟩ hQ=> ?_
 obtain⟨hi,hq⟩:=hQ
 refine a0a ?_
 refine a0a ?_
 refine a0e (b:=decide (((i:Nat):Int)<(l.length:Nat))) rfl (fun h=> ?_) (fun h=> ?_)
 ·replace h:=of_decide_eq_true h
  have hi':i<l.length:=by omega
  obtain⟨x,hx,hdx⟩:=a0q hi'
  refine a0t el_int hu hx fun _=> ?_
  refine a0a ?_
  refine a0a ?_
  refine a0o (p:=(y=x)) (bE y x) (fun hyx=> ?_) fun hyx=> ?_
  ·exact a0b rfl ⟨rfl,_,rfl,by rw[List.contains_iff_mem.2 (hyx ▸ List.mem_of_getElem? hx)];exact decide_eq_true (by omega)⟩
  ·exact⟨(i+1,p),by show l.length-(i+1)<l.length-i;omega,(a0F rfl (a0k rfl (by omega))),⟨⟨hi',by rw[take_snoc hx,a9L,hq];simp[hyx]⟩,rfl⟩⟩
 ·replace h:=of_decide_eq_false h
  rw[List.take_of_length_le (by omega)]at hq
  exact a0b rfl ⟨rfl,_,rfl,by rw[hq];rfl⟩
theorem d1n (hu:SI H u l) (y:Int):Asks prog 40 [u,ii y] H (.bool (l.contains y)):=by
 refine a0j a0n c8W ?_
 refine a0f (c6P hu y) rfl ?_
 rintro _ _ ⟨rfl,z,rfl,hz⟩
 refine⟨fun h=>(nomatch h),?_⟩
 refine a0a ?_
 exact a0b rfl ⟨rfl,hz ▸ rfl⟩
end
section
variable {H:PH} {u v:Value} {l:List Nat}
theorem c6Q {f:FuncId} {caps:List Value} {q:Nat->Bool} (hu:SU H u l) (hent:a4w prog f=true) (hf:∀H' x,PH.le H H'->x∈l->a3Z prog f (uv x::caps) H' (.bool (q x))):Con prog 178 [u,.func (.func f) #[] caps.toArray] H fun r H'=>PH.le H H'/\∃z:Int,r=ii z/\decide (z≥0)=l.any q:=by
 refine a0j a0n b9Q ?_
 have hl:=hu.len
 refine a0p el_u64 hu ?_
 refine a0i (α:=Nat×Int) (fun⟨i,p⟩=>[ii p,ii (i:Nat)]) (fun⟨i,p⟩=>fun H'=>i<=l.length/\PH.le H H'/\(l.take i).any q=false) (fun⟨i,p⟩=>l.length-i) ((0,0)) rfl (⟨Nat.zero_le _,PH.le.refl _,rfl⟩) fun⟨i,p⟩ H' hQ=> ?_
 obtain⟨hi,l1,hq⟩:=hQ
 refine a0a ?_
 refine a0a ?_
 refine a0e (b:=decide (((i:Nat):Int)<(l.length:Nat))) rfl (fun h=> ?_) (fun h=> ?_)
 ·replace h:=of_decide_eq_true h
  have hi':i<l.length:=by omega
  obtain⟨x,hx,hdx⟩:=a0q hi'
  refine a0t el_u64 (hu.mono l1) hx fun _=> ?_
  refine a0H (a6G (f:=f) (caps:=caps.toArray) (vs:=[uv x]) rfl rfl rfl hent (hf _ x l1 (List.mem_of_getElem? hx))) rfl ?_
  rintro _ H2 ⟨l2,rfl⟩
  refine⟨fun h=>(nomatch h),?_⟩
  refine a0a ?_
  refine a0e (b:=q x) rfl (fun hqx=> ?_) (fun hqx=> ?_)
  ·skip
   exact a0b rfl ⟨l1.trans l2,_,rfl,by rw[List.any_eq_true.2 ⟨x,List.mem_of_getElem? hx,hqx⟩];exact decide_eq_true (by omega)⟩
  ·skip
   exact⟨(i+1,p),by show l.length-(i+1)<l.length-i;omega,(a0F rfl (a0k rfl (by omega))),⟨hi',l1.trans l2,by rw[take_snoc hx,List.any_append,hq];simp[hqx]⟩⟩
 ·replace h:=of_decide_eq_false h
  rw[List.take_of_length_le (by omega)]at hq
  exact a0b rfl ⟨l1,_,rfl,by rw[hq];rfl⟩
theorem c0U {f:FuncId} {caps:List Value} {q:Nat->Bool} (hu:SU H u l) (hent:a4w prog f=true) (hf:∀H' x,PH.le H H'->x∈l->a3Z prog f (uv x::caps) H' (.bool (q x))):a3Z prog 112 [u,.func (.func f) #[] caps.toArray] H (.bool (l.any q)):=by
 refine a0j a0n b9L ?_
 refine a0f (c6Q hu hent hf) rfl ?_
 rintro _ H1 ⟨l1,z,rfl,hz⟩
 refine⟨fun h=>(nomatch h),?_⟩
 refine a0a ?_
 exact a0b rfl ⟨l1,hz ▸ rfl⟩
end
section
variable {H:PH} {n:Nat} {w:Value} {es:List (Nat×Nat)} {set:Nat}
theorem c6R (hw:SG H w es) (hg:GV n es) (hs:set<M64):a3Z prog 102 [gv n w,uv set] H (ii (if set<2^n then 0 else 2)):=by
 refine a0j a0n c8Y ?_
 refine a0c (a0G hw) ?_
 refine a0v (a3B hw hg) rfl fun H1 l1=> ?_
 refine a0a ?_
 refine a0l (bF (p:=(0:Int)≠0) (by simp)) ?_
 refine a0x (a2J set hs) rfl ?_
 refine a0a ?_
 refine a0a ?_
 refine a0o (p:=(set≥2^n)) (by show Value.bool (decide (((Go.WD.blen set:Nat):Int)>((n:Nat):Int)))=_;congr 1;apply decide_eq_decide.2;constructor<;>intro hh<;>first|(have:=Go.WD.blen_ge hh;omega)|(apply Nat.le_of_not_lt;intro h2;have:=Go.WD.blen_le h2;omega)) (fun h=> ?_) fun h=> ?_
 ·exact a0b rfl ⟨l1,by rw[if_neg (by omega)];rfl⟩
 ·exact a0b rfl ⟨l1,by rw[if_pos (by omega)];rfl⟩
noncomputable def d2E (n:Nat) (es:List (Nat×Nat)) (set:Nat):Value:=if set<2^n then .tuple #[.bool (cnB es set),ii 0]else .tuple #[.bool false,ii 2]
theorem a7f (hT:Tb H) (hw:SG H w es) (hg:GV n es) (hs:set<M64):a3Z prog 39 [gv n w,uv set] H (d2E n es set):=by
 refine a0j a0n c0b ?_
 have hn:=hg.n64
 refine a0c (a0G hw) ?_
 refine a0v (c6R hw hg hs) rfl fun H1 l1=> ?_
 refine a0a ?_
 refine a0o (p:=(¬set<2^n)) (by show Value.bool ((if set<2^n then(0:Int)else 2) !=0)=_;by_cases hh:set<2^n<;>simp[hh]) (fun h=> ?_) fun h=> ?_
 ·exact a0b rfl ⟨l1,by unfold d2E;rw[if_neg h,if_neg h];rfl⟩
 ·have h:set<2^n:=Classical.byContradiction h
  refine a0f (c0S (hT.mono l1) (hw.mono l1) hg h) rfl ?_
  rintro u H2 ⟨l2,l,hl,hc⟩
  refine⟨fun h=>(nomatch h),?_⟩
  have e:cnB es set=decide (l.length=1):=by rw[Bool.eq_iff_iff,cnB_iff,<-hc];simp
  refine a0p el_u64 hl ?_
  refine a0a ?_
  exact a0b rfl ⟨l1.trans l2,by rw[show d2E n es set= .tuple #[.bool (cnB es set),ii 0]from if_pos h,e];show Value.tuple #[.bool (((l.length:Nat):Int)==1),_]=_;rw[bE,show decide (((l.length:Nat):Int)=1)=decide (l.length=1)from decide_eq_decide.2 (by omega)];rfl⟩
end
end Go.Proofs.YtkcjbfoejpfbbaaGreatDoor
/- Chapter 32: plans. -/
namespace Go.Proofs.YtkcjbfoejpfbbaaGreatDoor
open Go.Proofs.Tryz
open Go.RowKit Go.RX Go.GS
section
variable {H:PH} {u v w:Value} {p:List Int} {n:Nat} {es:List (Nat×Nat)}
theorem a9M (hu:SI H u p) (k:Int):Asks prog 130 [u,ii k] H (.bool (decide (LabOk p k))):=by
 refine a0j a0n c0f ?_
 have hl:=hu.len
 refine a0p el_plan hu ?_
 refine a0A (α:=Nat×Value) (fun⟨i,z⟩=>[z,ii (i:Nat)]) (fun⟨i,z⟩=>i<=p.length/\∀x∈p.take i,0<=x/\x<k) (fun⟨i,z⟩=>p.length-i) ((0,.bool false)) rfl (⟨Nat.zero_le _,fun x hx=>by cases hx⟩) fun⟨i,z⟩ hQ=> ?_
 obtain⟨hi,hq⟩:=hQ
 refine a0a ?_
 refine a0a ?_
 refine a0e (b:=decide (((i:Nat):Int)<(p.length:Nat))) rfl (fun h=> ?_) (fun h=> ?_)
 ·replace h:=of_decide_eq_true h
  have hi':i<p.length:=by omega
  obtain⟨x,hx,hdx⟩:=a0q hi'
  refine a0t el_plan hu hx fun _=> ?_
  have hxm:=List.mem_of_getElem? hx
  refine a0a ?_
  refine a0e (b:=decide (x<0)) rfl (fun h2=> ?_) (fun h2=> ?_)
  ·replace h2:=of_decide_eq_true h2
   exact a0b rfl ⟨rfl,by rw[decide_eq_false (fun e=>by have:=e.1 x hxm;omega)];rfl⟩
  ·replace h2:=of_decide_eq_false h2
   refine a0a ?_
   refine a0e (b:=decide (x≥k)) rfl (fun h3=> ?_) (fun h3=> ?_)
   ·replace h3:=of_decide_eq_true h3
    exact a0b rfl ⟨rfl,by rw[decide_eq_false (fun e=>by have:=e.1 x hxm;omega)];rfl⟩
   ·replace h3:=of_decide_eq_false h3
    exact⟨(i+1,z),by show p.length-(i+1)<p.length-i;omega,(a0F rfl (a0k rfl (by omega))),⟨⟨hi',by rw[take_snoc hx];intro y hy;rw[List.mem_append,List.mem_singleton]at hy;rcases hy with hy|rfl;(exact hq y hy);omega⟩,rfl⟩⟩
 ·replace h:=of_decide_eq_false h
  rw[List.take_of_length_le (by omega)]at hq
  refine a0p el_plan hu ?_
  refine a0a ?_
  refine a0e (b:=decide (((p.length:Nat):Int)>0)) rfl (fun h4=> ?_) (fun h4=> ?_)
  ·replace h4:=of_decide_eq_true h4
   refine a0p el_plan hu ?_
   refine a0a ?_
   exact a0b rfl ⟨rfl,congrArg Value.bool (decide_eq_decide.2 ⟨fun h5=>⟨hq,by omega,by have h6:((p.length:Nat):Int)<=64:=h5;omega⟩,fun h5=>by have:=h5.2.2;show((p.length:Nat):Int)<=64;omega⟩)⟩
  ·replace h4:=of_decide_eq_false h4
   exact a0b rfl ⟨rfl,by rw[decide_eq_false (fun e=>by have:=e.2.1;omega)];rfl⟩
theorem b4N {k:Nat} (hk:k<=8) (hu:SI H u p) (hL:LabOk p (k:Int)):Con prog 177 [u,ii (k:Nat)] H fun r H'=>PH.le H H'/\∃z,r= .tuple #[z,.bool (decide (a8g p k))]/\(a8g p k->SU H' z (b0Y p k)):=by
 refine a0j a0n c0h ?_
 have hl:=hu.len
 have hp64:=hL.2.2
 refine a3m el_u64 (z:=(0:Nat)) d1e rfl rfl rfl (by omega) rfl fun v H1 l1 o1 _=> ?_
 rw[<-b8B p]at o1
 refine a0p el_plan (hu.mono l1) ?_
 refine a0i (α:=Nat) (fun i=>[ii (i:Nat)]) (fun i=>fun H'=>i<=p.length/\PH.le H H'/\SO H H' 34 1 (fun s:Nat=>[uv s]) v (b6i p k i)) (fun i=>p.length-i) (0) rfl (⟨Nat.zero_le _,l1,o1⟩) fun i H' hQ=> ?_
 obtain⟨hi,l2,o2⟩:=hQ
 refine a0a ?_
 refine a0a ?_
 refine a0e (b:=decide (((i:Nat):Int)<(p.length:Nat))) rfl (fun h=> ?_) (fun h=> ?_)
 ·replace h:=of_decide_eq_true h
  have hi':i<p.length:=by omega
  obtain⟨x,hx,hdx⟩:=a0q hi'
  refine a0t el_plan (hu.mono l2) hx fun _=> ?_
  have hxk:=hL.at hx
  obtain⟨d,rfl⟩:∃d:Nat,x=(d:Int):=⟨x.toNat,by omega⟩
  refine a0I el_u64 rfl rfl rfl rfl (fun _=>rfl) o2.se (a5l p i (show d<k by omega)) rfl (fun _=>rfl) fun _=> ?_
  refine a0c ⟨_,_,rfl⟩ ?_
  refine a0c (by show(0:Int)<=((i:Nat):Int);omega) ?_
  refine a0a ?_
  refine a0U el_u64 (a:=mkN p (d:Nat) i|||2^i) rfl rfl rfl rfl (fun _=>rfl) (fun _=>rfl) l2 o2 (by rw[a5V];omega) rfl (fun _=>a0F rfl (a4q rfl (a2R rfl (by omega)) (a8e _ _ (by omega)) (a0R (by omega)))) rfl fun p' u' H3 l4 o4 _=> ?_
  rw[b8C p k hx]at o4
  exact⟨i+1,by omega,(a2S (a0k rfl (by omega))),⟨hi',l4,o4⟩⟩
 ·replace h:=of_decide_eq_false h
  have he:i=p.length:=by omega
  subst he
  refine a0i (α:=Nat×Value×Value) (fun⟨d,z1,z2⟩=>[z1,z2,ii (d:Nat)]) (fun⟨d,z1,z2⟩=>fun H2=>H2=H'/\d<=k/\∀j,j<d->a8f p (j:Nat)≠0) (fun⟨d,z1,z2⟩=>k-d) ((0,.slice none 0 0,.bool false)) rfl (⟨rfl,Nat.zero_le _,fun j hj=>by cases hj⟩) fun⟨d,z1,z2⟩ H2 hQ2=> ?_
  obtain⟨rfl,hd,hq⟩:=hQ2
  refine a0a ?_
  refine a0a ?_
  refine a0e (b:=decide (((d:Nat):Int)<(k:Nat))) rfl (fun h2=> ?_) (fun h2=> ?_)
  ·replace h2:=of_decide_eq_true h2
   refine a0I el_u64 rfl rfl rfl rfl (fun _=>rfl) o2.se (a5l p _ (show d<k by omega)) rfl (fun _=>rfl) fun _=> ?_
   refine a0a ?_
   refine a0o (p:=(mkN p (d:Nat) p.length=0)) (bE0 _) (fun h3=> ?_) fun h3=> ?_
   ·exact a0b rfl ⟨l2,_,by rw[decide_eq_false (fun e=>e d (by omega) h3)];rfl,fun e=>absurd h3 (e d (by omega))⟩
   ·exact⟨(d+1,z1,z2),by show k-(d+1)<k-d;omega,(a5b rfl rfl (a0k rfl (by omega))),⟨rfl,by show d+1<=k;omega,fun j hj=>by rcases Nat.lt_succ_iff_lt_or_eq.1 hj with hj|rfl;(exact hq j hj);exact h3⟩⟩
  ·replace h2:=of_decide_eq_false h2
   have he:d=k:=by omega
   subst he
   exact a0b rfl ⟨l2,v,by rw[decide_eq_true (p:=a8g p d) hq];rfl,fun _=>o2.se⟩
theorem c6S (hw:SG H w es) (hg:GV n es) (hu:SI H u p) (k:Int):Con prog 176 [gv n w,u,ii k] H fun r H'=>PH.le H H'/\∃q,r= .tuple #[q,ii (plE n p k)]:=by
 refine a0j a0n c0j ?_
 refine a0c (a0G hw) ?_
 refine a0v (a3B hw hg) rfl fun H1 l1=> ?_
 refine a0a ?_
 refine a0l (bF (p:=(0:Int)≠0) (by simp)) ?_
 refine a0a ?_
 refine a0e (b:=decide (k<1)) rfl (fun h=> ?_) (fun h=> ?_)
 ·replace h:=of_decide_eq_true h
  exact a0b rfl ⟨l1,_,by rw[show plE n p k=2 from if_pos (.inl h)];rfl⟩
 ·replace h:=of_decide_eq_false h
  refine a0e (b:=decide (k>8)) rfl (fun h2=> ?_) (fun h2=> ?_)
  ·replace h2:=of_decide_eq_true h2
   exact a0b rfl ⟨l1,_,by rw[show plE n p k=2 from if_pos (.inr h2)];rfl⟩
  ·replace h2:=of_decide_eq_false h2
   have hk:¬(k<1\/k>8):=by omega
   obtain⟨m,rfl⟩:∃m:Nat,k=(m:Int):=⟨k.toNat,by omega⟩
   refine a0p el_plan (hu.mono l1) ?_
   refine a0a ?_
   refine a0a ?_
   refine a0o (p:=(p.length≠n)) (by show Value.bool (((p.length:Nat):Int) !=((n:Nat):Int))=_;rw[bN];congr 1;apply decide_eq_decide.2;omega) (fun h3=> ?_) fun h3=> ?_
   ·exact a0b rfl ⟨l1,_,by rw[show plE n p (m:Nat)=210 from(if_neg hk).trans (if_neg fun e=>h3 e.1)];rfl⟩
   ·refine a0s (a9M (hu.mono l1) (m:Nat)) rfl ?_
    refine a0a ?_
    refine a0e (b:= !decide (LabOk p (m:Nat))) rfl (fun h4=> ?_) (fun h4=> ?_)
    ·skip
     exact a0b rfl ⟨l1,_,by rw[show plE n p (m:Nat)=210 from(if_neg hk).trans (if_neg fun e=>by simp[e.2.1]at h4)];rfl⟩
    ·skip
     have hL:LabOk p (m:Nat):=by simpa using h4
     refine a0f (b4N (by omega) (hu.mono l1) hL) rfl ?_
     rintro _ H2 ⟨l2,z,rfl,hz⟩
     refine⟨fun h=>(nomatch h),?_⟩
     refine a0m ?_
     refine a0m ?_
     refine a0a ?_
     refine a0e (b:= !decide (a8g p m)) rfl (fun h5=> ?_) (fun h5=> ?_)
     ·skip
      exact a0b rfl ⟨l1.trans l2,_,by rw[show plE n p (m:Nat)=210 from(if_neg hk).trans (if_neg fun e=>by have:=e.2.2;rw[Int.toNat_natCast]at this;simp[this]at h5)];rfl⟩
     ·skip
      have hU:a8g p m:=by simpa using h5
      refine a0c ((hu.mono l1).one) ?_
      refine a0c ((hz hU).one) ?_
      refine a2i (cs:=_) rfl fun b hb=> ?_
      exact a0b rfl ⟨(l1.trans l2).trans (PH.le_put hb _),_,by rw[show plE n p (m:Nat)=0 from(if_neg hk).trans (if_pos ⟨by omega,hL,by rw[Int.toNat_natCast];exact hU⟩)];rfl⟩
theorem c0V (hw:SG H w es) (hg:GV n es) (hu:SI H u p) (k:Int):a3Z prog 110 [gv n w,u,ii k] H (ii (plE n p k)):=by
 refine a0j a0n c0l ?_
 refine a0c (a0G hw) ?_
 refine a0f (c6S hw hg hu k) rfl ?_
 rintro _ H1 ⟨l1,q,rfl⟩
 refine⟨fun h=>(nomatch h),?_⟩
 refine a0m ?_
 refine a0m ?_
 exact a0b rfl ⟨l1,rfl⟩
theorem b4O (hu:SI H u p) (k:Nat) (h1:1<=k) (h8:k<=8) (hL:LabOk p (k:Nat)) (hU:a8g p k):Con prog 111 [u,ii (k:Nat)] H fun r H'=>PH.le H H'/\∃z,r= .tuple #[z,ii 0]/\SU H' z (b0Y p k):=by
 refine a0j a0n c0p ?_
 refine a0a ?_
 refine a0l (bF (p:=((k:Nat):Int)<1) (by omega)) ?_
 refine a0l (bF (p:=((k:Nat):Int)>8) (by omega)) ?_
 refine a0s (a9M hu (k:Nat)) rfl ?_
 refine a0a ?_
 refine a0l (by show Value.bool (!decide (LabOk p (k:Nat)))=_;rw[decide_eq_true hL];rfl) ?_
 refine a0f (b4N h8 hu hL) rfl ?_
 rintro _ H2 ⟨l2,z,rfl,hz⟩
 refine⟨fun h=>(nomatch h),?_⟩
 refine a0m ?_
 refine a0m ?_
 refine a0a ?_
 refine a0l (by show Value.bool (!decide (a8g p k))=_;rw[decide_eq_true hU];rfl) ?_
 exact a0b rfl ⟨l2,z,rfl,hz hU⟩
end
end Go.Proofs.YtkcjbfoejpfbbaaGreatDoor
/- Chapter 32: recom, part 1. -/
namespace Go.Proofs.YtkcjbfoejpfbbaaGreatDoor
open Go.Proofs.Tryz
open Go.RowKit Go.RX Go.GS
def bv (wts:Value) (lo hi ds:Int):Value:= .agg #[wts,ii lo,ii hi,ii ds]
def chv (wts:Value) (lo hi ds:Int) (n:Nat) (w:Value):Value:= .agg #[wts,ii lo,ii hi,ii ds,ii n,w]
theorem a0T {H:PH} {sz:Nat} {α:Type} {ce:α->List Value} {v:Value} {l:List α} (h:SE H sz ce v l):a7M v=true:=h.one.2 v (by rw[h.cells];simp)
theorem a2L {wts:Value} (h:a7M wts=true) (lo hi ds:Int):(bv wts lo hi ds).cells.size=4/\a0J (bv wts lo hi ds).cells:=by
 refine⟨rfl,fun c hc=> ?_⟩
 rw[bv,a1F]at hc
 simp only[List.mem_cons,List.not_mem_nil,or_false]at hc
 rcases hc with rfl|rfl|rfl|rfl
 ·exact h
 all_goals rfl
theorem a9N {wts w:Value} (h:a7M wts=true) (h2:a7M w=true) (lo hi ds:Int) (n:Nat):(chv wts lo hi ds n w).cells.size=6/\a0J (chv wts lo hi ds n w).cells:=by
 refine⟨rfl,fun c hc=> ?_⟩
 rw[chv,a1F]at hc
 simp only[List.mem_cons,List.not_mem_nil,or_false]at hc
 rcases hc with rfl|rfl|rfl|rfl|rfl|rfl
 ·exact h
 ·rfl
 ·rfl
 ·rfl
 ·rfl
 ·exact h2
theorem b1B:FA prog 111 0 0:=⟨by kernel_rfl,of_decide_eq_true (by kernel_rfl),by kernel_rfl,by kernel_rfl,of_decide_eq_true (by kernel_rfl)⟩
theorem b6p:FA prog 111 1 4:=⟨by kernel_rfl,of_decide_eq_true (by kernel_rfl),by kernel_rfl,by kernel_rfl,of_decide_eq_true (by kernel_rfl)⟩
theorem d6V:FA prog 40 0 0:=⟨by kernel_rfl,of_decide_eq_true (by kernel_rfl),by kernel_rfl,by kernel_rfl,of_decide_eq_true (by kernel_rfl)⟩
theorem d6W:FA prog 40 1 1:=⟨by kernel_rfl,of_decide_eq_true (by kernel_rfl),by kernel_rfl,by kernel_rfl,of_decide_eq_true (by kernel_rfl)⟩
theorem d6X:FA prog 40 2 2:=⟨by kernel_rfl,of_decide_eq_true (by kernel_rfl),by kernel_rfl,by kernel_rfl,of_decide_eq_true (by kernel_rfl)⟩
theorem c0W:FA prog 40 3 3:=⟨by kernel_rfl,of_decide_eq_true (by kernel_rfl),by kernel_rfl,by kernel_rfl,of_decide_eq_true (by kernel_rfl)⟩
theorem d4i:Sc prog 32:=⟨by kernel_rfl,by kernel_rfl,by kernel_rfl⟩
theorem c0X:Ag prog 38 2:=⟨by kernel_rfl,by kernel_rfl,by kernel_rfl⟩
theorem c6T:Ag prog 111 6:=⟨by kernel_rfl,by kernel_rfl,by kernel_rfl⟩
theorem c0Y:a4w prog 54=true:=by kernel_rfl
theorem c0Z:a4w prog 180=true:=by kernel_rfl
theorem c1a:a4w prog 113=true:=by kernel_rfl
section
variable {H:PH} {u v w wts:Value} {p wl:List Int} {n:Nat} {es:List (Nat×Nat)} {lo hi ds:Int} {set:Nat}
theorem c1b (x:Int):Asks prog 54 [ii x] H (.bool (decide (x<0)||decide (x>1000000000))):=by
 refine a0j a0n b4B ?_
 refine a0a ?_
 refine a0e (b:=decide (x<0)) rfl (fun h=> ?_) (fun h=> ?_)
 ·replace h:=of_decide_eq_true h
  exact a0b rfl ⟨rfl,by rw[decide_eq_true h];rfl⟩
 ·replace h:=of_decide_eq_false h
  exact a0b rfl ⟨rfl,by rw[decide_eq_false h];rfl⟩
theorem a2a {h:¬(wl.length=n/\0<=lo/\lo<=hi/\1<=ds/\ds<=8/\c5O wl)}:bdE n wl lo hi ds=320:=if_neg h
theorem c1c (hw:SG H w es) (hg:GV n es) (hwt:SI H wts wl):a3Z prog 10 [gv n w,bv wts lo hi ds] H (ii (bdE n wl lo hi ds)):=by
 refine a0j a0n c0v ?_
 refine a0c (a0G hw) ?_
 refine a0c (a2L (a0T hwt) _ _ _) ?_
 refine a0v (a3B hw hg) rfl fun H1 l1=> ?_
 refine a0a ?_
 refine a0l (bF (p:=(0:Int)≠0) (by simp)) ?_
 refine a0p el_int (hwt.mono l1) ?_
 refine a0a ?_
 refine a0a ?_
 refine a0o (p:=(wl.length≠n)) (by show Value.bool (((wl.length:Nat):Int) !=((n:Nat):Int))=_;rw[bN];congr 1;apply decide_eq_decide.2;omega) (fun h=> ?_) fun h=> ?_
 ·exact a0b rfl ⟨l1,by rw[a2a (h:=fun e=>h e.1)];rfl⟩
 ·refine a0a ?_
  refine a0e (b:=decide (lo<0)) rfl (fun h2=> ?_) (fun h2=> ?_)
  ·replace h2:=of_decide_eq_true h2
   exact a0b rfl ⟨l1,by rw[a2a (h:=fun e=>by omega)];rfl⟩
  ·replace h2:=of_decide_eq_false h2
   refine a0a ?_
   refine a0e (b:=decide (lo>hi)) rfl (fun h3=> ?_) (fun h3=> ?_)
   ·replace h3:=of_decide_eq_true h3
    exact a0b rfl ⟨l1,by rw[a2a (h:=fun e=>by omega)];rfl⟩
   ·replace h3:=of_decide_eq_false h3
    refine a0a ?_
    refine a0e (b:=decide (ds<1)) rfl (fun h4=> ?_) (fun h4=> ?_)
    ·replace h4:=of_decide_eq_true h4
     exact a0b rfl ⟨l1,by rw[a2a (h:=fun e=>by omega)];rfl⟩
    ·replace h4:=of_decide_eq_false h4
     refine a0e (b:=decide (ds>8)) rfl (fun h5=> ?_) (fun h5=> ?_)
     ·replace h5:=of_decide_eq_true h5
      exact a0b rfl ⟨l1,by rw[a2a (h:=fun e=>by omega)];rfl⟩
     ·replace h5:=of_decide_eq_false h5
      refine a0v (c0T (caps:=[]) (q:=fun x=>decide (x<0)||decide (x>1000000000)) (hwt.mono l1) c0Y (fun H' x _ _=>(c1b x).give)) rfl fun H2 l2=> ?_
      refine a0a ?_
      refine a0e (b:=wl.any fun x=>decide (x<0)||decide (x>1000000000)) rfl (fun h6=> ?_) (fun h6=> ?_)
      ·skip
       rw[List.any_eq_true]at h6
       obtain⟨x,hx1,hx2⟩:=h6
       exact a0b rfl ⟨l1.trans l2,by rw[a2a (h:=fun e=>by have:=e.2.2.2.2.2 x hx1;simp at hx2;omega)];rfl⟩
      ·skip
       have hW:c5O wl:=by
        intro x hx
        rw[List.any_eq_false]at h6
        have:=h6 x hx
        simp at this;omega
       exact a0b rfl ⟨l1.trans l2,by rw[show bdE n wl lo hi ds=0 from if_pos ⟨by omega,by omega,by omega,by omega,by omega,hW⟩];rfl⟩
theorem b6q {b:Nat} {T:TypeId} {x:Nat} {y:Int} (hb:H b=some (.cells #[wts,ii lo,ii hi,ii ds,ii n,w] T (0,0))) (hwt:SI H wts wl) (hx:wl[x]? =some y):a3Z prog 180 [ii (x:Nat),.pointer (some ⟨b,0,none⟩)] H (ii y):=by
 refine a0j a0n b4F ?_
 refine a0z b1B ?_
 refine a0z d6V ?_
 refine a0D d4i rfl rfl hb rfl rfl ?_
 refine a0t el_int hwt hx fun _=> ?_
 exact a0b rfl ⟨PH.le.refl _,rfl⟩
theorem c1d {f:FuncId} {caps:List Value} (hT:Tb H) (hs:set<M64) (hwl:c5O wl) (hsn:∀x,bit set x=true->x<wl.length) (hent:a4w prog f=true) (hf:∀H' x y,PH.le H H'->wl[x]? =some y->a3Z prog f (ii (x:Nat)::caps) H' (ii y)):a3Z prog 179 [uv set,.func (.func f) #[] caps.toArray] H (ii (d2Z wl set)):=by
 refine a0j a0n c0B ?_
 refine a0i (α:=Nat×Nat) (fun⟨k,s⟩=>[ii (((els set).take k).map fun x=>wl.getD x 0).sum,uv s]) (fun⟨k,s⟩=>fun H'=>PH.le H H'/\s<M64/\k<=(els set).length/\els s=(els set).drop k) (fun⟨k,s⟩=>(els set).length-k) ((0,set)) rfl (⟨PH.le.refl _,hs,Nat.zero_le _,rfl⟩) fun⟨k,s⟩ H' hQ=> ?_
 simp only[cA,nA]
 obtain⟨l1,hs',hk,he⟩:=hQ
 refine a0a ?_
 refine a0o (p:=(s≠0)) (bN0 s) (fun h=> ?_) fun h=> ?_
 ·obtain⟨x,r,hel⟩:∃x r,els s=x::r:=by
   cases hel:els s with
   |nil=>exact absurd (a4p hs' hel) h
   |cons x r=>exact⟨x,r,rfl⟩
  have htz:tz s=x:=by simp[tz,hel]
  have hk':k<(els set).length:=by
   apply Nat.lt_of_not_le;intro hh
   rw[List.drop_eq_nil_of_le hh,hel]at he;cases he
  obtain⟨y,hy,hdy⟩:=a0q hk'
  rw[<-he,hel]at hdy
  obtain⟨rfl,hr'⟩:=List.cons.inj hdy
  have hxl:=hsn x ((a2j hs).1 (List.mem_of_getElem? hy))
  have hwx:wl[x]? =some wl[x]:=List.getElem?_eq_getElem hxl
  refine a0s (b1w (hT.mono l1) hs') rfl ?_
  simp only[cA,nA]
  rw[htz]
  refine a0H (a6G (f:=f) (caps:=caps.toArray) (vs:=[ii (x:Nat)]) rfl rfl rfl hent (hf _ x _ l1 hwx)) rfl ?_
  rintro _ H2 ⟨l2,rfl⟩
  refine⟨fun h=>(nomatch h),?_⟩
  simp only[cA,nA]
  have hbd:=b0Z (((els set).take k).map fun x=>wl.getD x 0) (by
   intro z hz
   rw[List.mem_map]at hz
   obtain⟨a,ha,rfl⟩:=hz
   have ha':=hsn a ((a2j hs).1 (List.mem_of_mem_take ha))
   rw[List.getD_eq_getElem?_getD,List.getElem?_eq_getElem ha']
   exact hwl _ (List.getElem_mem ha'))
  have h64:=a1G set
  have hlk:((((els set).take k).map fun x=>wl.getD x 0)).length<=64:=by
   rw[List.length_map,List.length_take];unfold card at h64;omega
  have hy2:=hwl _ (List.getElem_mem hxl)
  refine a0a ?_
  refine a0a ?_
  exact⟨(k+1,s&&&(s-1)),by show(els set).length-(k+1)<(els set).length-k;omega,(a0F (by rw[b0W rfl rfl (by omega) (by omega)];show ii _=ii (((els set).take (k+1)).map fun x=>wl.getD x 0).sum;rw[take_snoc hy,List.map_append,List.sum_append,List.map_cons,List.map_nil,List.sum_cons,List.sum_nil,Int.add_zero,List.getD_eq_getElem?_getD,hwx];rfl) (a2H rfl (a8c (B:=1) rfl rfl hs' (by omega)) hs' (Nat.lt_of_le_of_lt (Nat.sub_le _ _) hs'))),⟨l1.trans l2,b3L hs',hk',by rw[a9r hs' hel,hr']⟩⟩
 ·have h0:s=0:=by omega
  rw[h0,a9q]at he
  have hk2:(els set).length<=k:=by
   apply Nat.le_of_not_lt;intro hh
   rw[List.drop_eq_getElem_cons hh]at he;cases he
  exact a0b rfl ⟨l1,by rw[List.take_of_length_le hk2];rfl⟩
structure Chn (H:PH) (n:Nat) (w wts:Value) (es:List (Nat×Nat)) (wl:List Int):Prop where
 tb:Tb H
 gr:SG H w es
 ok:GV n es
 wt:SI H wts wl
 len:wl.length=n
 wok:c5O wl
theorem Chn.mono {H':PH} (h:Chn H n w wts es wl) (hl:PH.le H H'):Chn H' n w wts es wl:=⟨h.tb.mono hl,h.gr.mono hl,h.ok,h.wt.mono hl,h.len,h.wok⟩
theorem a7g (hc:Chn H n w wts es wl) (hs:set<2^n):a3Z prog 114 [chv wts lo hi ds n w,uv set] H (.bool (alB es wl lo hi set)):=by
 refine a0j a0n c0z ?_
 have hs':=a0V hc.ok.n64 hs
 refine a0c (a9N (a0T hc.wt) (a0T hc.gr) _ _ _ _) ?_
 refine a2i (cs:= #[wts,ii lo,ii hi,ii ds,ii n,w]) rfl fun b hb=> ?_
 simp only[cA,nA]
 have l1:=PH.le_put hb (.cells #[wts,ii lo,ii hi,ii ds,ii n,w] 111 (0,0))
 have b1:=PH.put_self H b (.cells #[wts,ii lo,ii hi,ii ds,ii n,w] 111 (0,0))
 generalize H.put b (.cells #[wts,ii lo,ii hi,ii ds,ii n,w] 111 (0,0))=H1 at l1 b1
 have hc1:=hc.mono l1
 refine a3p (a2e (vs:=[.pointer (some ⟨b,0,none⟩)]) rfl rfl) rfl ?_
 simp only[cA,nA]
 refine a0v (c1d (caps:=[.pointer (some ⟨b,0,none⟩)]) (wl:=wl) hc1.tb hs' hc.wok (fun x hx=>by rw[hc.len];exact b3c hs hx) c0Z (fun H' x y hl hx=>b6q (hl _ _ b1) (hc1.wt.mono hl) hx)) rfl fun H2 l2=> ?_
 simp only[cA,nA]
 have hc2:=hc1.mono l2
 have b2:=l2 _ _ b1
 refine a0z b6p ?_
 simp only[cA,nA]
 refine a1D (vs:=[ii n,w]) c0X rfl rfl b2 rfl (by simp) rfl ?_
 simp only[cA,nA]
 refine a0v (a7f hc2.tb hc2.gr hc.ok hs') rfl fun H3 l3=> ?_
 simp only[cA,nA]
 have b3:=l3 _ _ b2
 rw[show d2E n es set= .tuple #[.bool (cnB es set),ii 0]from if_pos hs]
 refine a0m ?_
 refine a0m ?_
 refine a0a ?_
 refine a0e (b:=cnB es set) rfl (fun h1=> ?_) (fun h1=> ?_)
 ·skip
  refine a0z b1B ?_
  simp only[cA,nA]
  refine a0z d6W ?_
  simp only[cA,nA]
  refine a0D sc_int rfl rfl b3 rfl rfl ?_
  simp only[cA,nA]
  refine a0a ?_
  refine a0a ?_
  refine a0e (b:=decide (d2Z wl set≥lo)) rfl (fun h2=> ?_) (fun h2=> ?_)
  ·replace h2:=of_decide_eq_true h2
   refine a0z b1B ?_
   simp only[cA,nA]
   refine a0z d6X ?_
   simp only[cA,nA]
   refine a0D sc_int rfl rfl b3 rfl rfl ?_
   simp only[cA,nA]
   refine a0a ?_
   exact a0b rfl ⟨(l1.trans l2).trans l3,by unfold alB;rw[h1,decide_eq_true h2];rfl⟩
  ·replace h2:=of_decide_eq_false h2
   exact a0b rfl ⟨(l1.trans l2).trans l3,by unfold alB;rw[h1,decide_eq_false h2];rfl⟩
 ·skip
  exact a0b rfl ⟨(l1.trans l2).trans l3,by unfold alB;rw[h1];rfl⟩
theorem b6r {b:Nat} {T:TypeId} (hc:Chn H n w wts es wl) (hb:H b=some (.cells #[wts,ii lo,ii hi,ii ds,ii n,w] T (0,0))) (hs:set<2^n):a3Z prog 113 [uv set,.pointer (some ⟨b,0,none⟩)] H (.bool (!alB es wl lo hi set)):=by
 refine a0j a0n b4D ?_
 refine a1D (vs:=[wts,ii lo,ii hi,ii ds,ii n,w]) c6T rfl rfl hb rfl (by simp) rfl ?_
 simp only[cA,nA]
 refine a0v (a7g hc hs) rfl fun H1 l1=> ?_
 simp only[cA,nA]
 refine a0a ?_
 exact a0b rfl ⟨l1,rfl⟩
theorem c1e (hc:Chn H n w wts es wl) (hu:SI H u p):a3Z prog 55 [chv wts lo hi ds n w,u] H (.bool (b2g n es wl lo hi ds p)):=by
 refine a0j a0n c0x ?_
 refine a0c (a9N (a0T hc.wt) (a0T hc.gr) _ _ _ _) ?_
 refine a2i (cs:= #[wts,ii lo,ii hi,ii ds,ii n,w]) rfl fun b hb=> ?_
 have l1:=PH.le_put hb (.cells #[wts,ii lo,ii hi,ii ds,ii n,w] 111 (0,0))
 have b1:=PH.put_self H b (.cells #[wts,ii lo,ii hi,ii ds,ii n,w] 111 (0,0))
 generalize H.put b (.cells #[wts,ii lo,ii hi,ii ds,ii n,w] 111 (0,0))=H1 at l1 b1
 have hc1:=hc.mono l1
 refine a0z b6p ?_
 refine a1D (vs:=[ii n,w]) c0X rfl rfl b1 rfl (by simp) rfl ?_
 refine a0z b1B ?_
 refine a0z c0W ?_
 refine a0D sc_int rfl rfl b1 rfl rfl ?_
 refine a0v (c0V hc1.gr hc.ok (hu.mono l1) ds) rfl fun H2 l2=> ?_
 refine a0a ?_
 refine a0o (p:=(plE n p ds≠0)) (bN _ _) (fun h=> ?_) fun h=> ?_
 ·exact a0b rfl ⟨l1.trans l2,by unfold b2g;rw[decide_eq_false h];rfl⟩
 ·have h0:plE n p ds=0:=Classical.byContradiction h
  have hp0:=b8D h0
  have hc2:=hc1.mono l2
  have b2:=l2 _ _ b1
  refine a0z b1B ?_
  refine a0z c0W ?_
  refine a0D sc_int rfl rfl b2 rfl rfl ?_
  obtain⟨k,rfl⟩:∃k:Nat,ds=(k:Int):=⟨ds.toNat,by omega⟩
  rw[Int.toNat_natCast]at hp0
  refine a0f (b4O (hu.mono (l1.trans l2)) k (by omega) (by omega) hp0.2.2.2.1 hp0.2.2.2.2) rfl ?_
  rintro _ H3 ⟨l3,z,rfl,hz⟩
  refine⟨fun h=>(nomatch h),?_⟩
  have hc3:=hc2.mono l3
  have b3:=l3 _ _ b2
  refine a0m ?_
  refine a0m ?_
  refine a3p (a2e (vs:=[.pointer (some ⟨b,0,none⟩)]) rfl rfl) rfl ?_
  refine a0v (c0U (caps:=[.pointer (some ⟨b,0,none⟩)]) (q:=fun s=> !alB es wl lo hi s) hz c1a (fun H' s hl hsm=>b6r (hc3.mono hl) (hl _ _ b3) (by have:=c5N hsm hp0.2.2.2.1.2.2;rw[hp0.2.2.1]at this;exact this))) rfl fun H4 l4=> ?_
  refine a0a ?_
  exact a0b rfl ⟨((l1.trans l2).trans l3).trans l4,by unfold b2g;rw[decide_eq_true h0,Int.toNat_natCast,Bool.true_and];show Value.bool (!((b0Y p k).any fun s=> !alB es wl lo hi s))=_;rw[List.all_eq_not_any_not]⟩
end
end Go.Proofs.YtkcjbfoejpfbbaaGreatDoor

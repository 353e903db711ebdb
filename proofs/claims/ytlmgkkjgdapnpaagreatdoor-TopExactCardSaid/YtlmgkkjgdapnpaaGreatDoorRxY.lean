/- Plans. -/
import Derived.Test.YtlmgkkjgdapnpaaGreatDoorGaE
import Derived.Test.YtlmgkkjgdapnpaaGreatDoorGsD
namespace Go.GS
def LabOk (p:List Int) (k:Int):Prop:=(∀x∈p,0<=x/\x<k)/\0<p.length/\p.length<=64
instance (p:List Int) (k:Int):Decidable (LabOk p k):=inferInstanceAs (Decidable (_/\_/\_))
def mkN (p:List Int) (d:Int) (m:Nat):Nat:=(List.range m).foldl (fun s i=>if p[i]? =some d then s|||2^i else s) 0
theorem b0h (p:List Int) (d:Int) (m:Nat):mkN p d (m+1)=if p[m]? =some d then mkN p d m|||2^m else mkN p d m:=by
 unfold mkN;rw[List.range_succ,List.foldl_append];rfl
theorem a7U (p:List Int) (d:Int) (m i:Nat):bit (mkN p d m) i=(decide (i<m)&&decide (p[i]? =some d)):=by
 induction m with
 |zero=>simp[mkN,bit]
 |succ m ih=>
  rw[b0h]
  split
  ·rename_i h
   rw[a2d,a2i,ih]
   by_cases e:m=i
   ·subst e;simp[h]
   ·simp[e,show(i<m+1)=(i<m)from by apply propext;omega]
  ·rename_i h
   rw[ih]
   by_cases e:i=m
   ·subst e;simp[h]
   ·simp[show(i<m+1)=(i<m)from by apply propext;omega]
theorem c7S (p:List Int) (d:Int) {m:Nat} (h:m<=64):mkN p d m<2^m:=by
 apply Nat.lt_pow_two_of_testBit
 intro i hi
 have:=a7U p d m i
 unfold bit at this
 rw[this]
 simp[show ¬i<m by omega]
theorem c7T (p:List Int) (d:Int) {m:Nat} (h:m<=64):mkN p d m<M64:=Nat.lt_of_lt_of_le (c7S p d h) (Nat.pow_le_pow_right (n:=2) (by decide) h)
def b3C (p:List Int) (d:Int):Nat:=mkN p d p.length
def b7a (p:List Int) (k m:Nat):List Nat:=(List.range k).map fun d:Nat=>mkN p d m
theorem a6N (p:List Int) (k m:Nat):(b7a p k m).length=k:=by simp[b7a]
theorem b0i (p:List Int) (m:Nat) {k d:Nat} (h:d<k):(b7a p k m)[d]? =some (mkN p d m):=by simp[b7a,h]
theorem b9v (p:List Int) (k:Nat):b7a p k 0=List.replicate k 0:=by
 apply List.ext_getElem
 ·simp[b7a]
 ·intro i h1 h2;simp[b7a,mkN]
theorem b9w (p:List Int) (k:Nat) {m d:Nat} (h:p[m]? =some (d:Int)):(b7a p k m).set d (mkN p d m|||2^m)=b7a p k (m+1):=by
 apply List.ext_getElem?
 intro i
 by_cases hi:i<k
 ·rw[b0i _ _ hi,b0h]
  by_cases e:d=i
  ·subst e;rw[List.getElem?_set_self (by simp[a6N,hi]),if_pos h]
  ·rw[List.getElem?_set_ne e,b0i _ _ hi,if_neg (by rw[h];simp;omega)]
 ·rw[List.getElem?_eq_none (by simp[a6N];omega),List.getElem?_eq_none (by simp[a6N];omega)]
def b6v (p:List Int) (k:Nat):List Nat:=b7a p k p.length
def b7b (p:List Int) (k:Nat):Prop:=∀d,d<k->b3C p (d:Nat)≠0
instance (p:List Int) (k:Nat):Decidable (b7b p k):=inferInstanceAs (Decidable (∀d,d<k->_))
def plE (n:Nat) (p:List Int) (k:Int):Int:=if k<1\/k>8 then 2 else if p.length=n/\LabOk p k/\b7b p k.toNat then 0 else 210
theorem LabOk.at {p:List Int} {k:Int} (h:LabOk p k) {i:Nat} {x:Int} (hx:p[i]? =some x):0<=x/\x<k:=h.1 x (List.mem_of_getElem? hx)
noncomputable def cnB (es:List (Nat×Nat)) (set:Nat):Bool:= @decide (Cn es set) (Classical.propDecidable _)
theorem cnB_iff {es:List (Nat×Nat)} {set:Nat}:cnB es set=true↔Cn es set:= @decide_eq_true_iff _ (Classical.propDecidable _)
theorem d4J {n:Nat} {p:List Int} {k:Int} (h:plE n p k=0):1<=k/\k<=8/\p.length=n/\LabOk p k/\b7b p k.toNat:=by
 unfold plE at h
 split at h
 ·cases h
 ·split at h
  ·rename_i h1 h2;exact⟨by omega,by omega,h2⟩
  ·cases h
theorem c5l {p:List Int} {k s:Nat} (h:s∈b6v p k) (hp:p.length<=64):s<2^p.length:=by
 simp only[b6v,b7a,List.mem_map]at h
 obtain⟨d,_,rfl⟩:=h
 exact c7S p d hp
end Go.GS
/- Chapter 32: library, part 3. -/
namespace Go.Proofs.YtlmgkkjgdapnpaaGreatDoor
open Go.Proofs.Tryz
open Go.RowKit Go.RX Go.GS
abbrev Slc:=Option Addr×Nat×Nat
def vs (s:Slc):Value:= .slice s.1 s.2.1 s.2.2
theorem a6v {H:PH} {sz:Nat} {α:Type} {ce:α->List Value} {v:Value} {l:List α} (h:SE H sz ce v l):∃s,v=vs s:=by
 obtain⟨_,a,c,h2,_⟩:=h;exact⟨(a,l.length,c),h2⟩
theorem a9f:El prog 53 39 1 false (fun s:Slc=>[vs s]) vs where
 und:=by kernel_rfl
 has:=by kernel_rfl
 cel:=by kernel_rfl
 agg:=by kernel_rfl
 pos:=by decide
 one1:=fun _=>rfl
 small:=by decide
 inf:=⟨(prog.info? 39).getD default,vs (none,0,0),by kernel_rfl,by kernel_rfl,by kernel_rfl,rfl,of_decide_eq_true (by kernel_rfl)⟩
 len:=fun _=>rfl
 val:=fun _=>rfl
 cells:=fun _=>rfl
 one:=fun x c hc=>by simp at hc;subst hc;rfl
section
variable {H:PH} {u v:Value} {l:List Int}
theorem c5m {f:FuncId} {caps:List Value} {q:Int->Bool} (hu:SI H u l) (hent:a1q prog f=true) (hf:∀H' x,PH.le H H'->x∈l->a1g prog f (ii x::caps) H' (.bool (q x))):Con prog 162 [u,.func (.func f) #[] caps.toArray] H fun r H'=>PH.le H H'/\∃z:Int,r=ii z/\decide (z≥0)=l.any q:=by
 refine a0b mixed d0h (by kernel_rfl) rfl ?_
 have hl:=hu.len
 refine a0j el_int rfl rfl hu rfl ?_
 refine a0o (α:=Nat×Int) (fun⟨i,p⟩=>[ii p,ii (i:Nat)]) (fun⟨i,p⟩=>fun H'=>i<=l.length/\PH.le H H'/\(l.take i).any q=false) (fun⟨i,p⟩=>l.length-i) ((0,0)) rfl (⟨Nat.zero_le _,PH.le.refl _,rfl⟩) fun⟨i,p⟩ H' hQ=> ?_
 simp only[cA,nA]
 obtain⟨hi,l1,hq⟩:=hQ
 refine a0a ⟨_,rfl⟩ ?_
 refine a0a ⟨_,rfl⟩ ?_
 refine a0f (b:=decide (((i:Nat):Int)<(l.length:Nat))) rfl (fun h=> ?_) (fun h=> ?_)
 ·replace h:=of_decide_eq_true h
  have hi':i<l.length:=by omega
  obtain⟨x,hx,hdx⟩:=a0t hi'
  refine a0m el_int rfl rfl rfl rfl (fun _=>rfl) (hu.mono l1) hx rfl (fun _=>rfl) fun _=> ?_
  simp only[cA,nA]
  refine a0n (a0D (f:=f) (caps:=caps.toArray) (vs:=[ii x]) rfl rfl rfl hent (hf _ x l1 (List.mem_of_getElem? hx))) rfl ?_
  rintro _ H2 ⟨l2,rfl⟩
  refine⟨fun h=>(nomatch h),?_⟩
  simp only[cA,nA]
  refine a0a ⟨_,rfl⟩ ?_
  refine a0f (b:=q x) rfl (fun hqx=> ?_) (fun hqx=> ?_)
  ·skip
   exact a0c rfl ⟨l1.trans l2,_,rfl,by rw[List.any_eq_true.2 ⟨x,List.mem_of_getElem? hx,hqx⟩];exact decide_eq_true (by omega)⟩
  ·skip
   exact⟨(i+1,p),by show l.length-(i+1)<l.length-i;omega,(a0R rfl (a0J rfl (by omega))),⟨hi',l1.trans l2,by rw[take_snoc hx,List.any_append,hq];simp[hqx]⟩⟩
 ·replace h:=of_decide_eq_false h
  rw[List.take_of_length_le (by omega)]at hq
  exact a0c rfl ⟨l1,_,rfl,by rw[hq];rfl⟩
theorem a7V {f:FuncId} {caps:List Value} {q:Int->Bool} (hu:SI H u l) (hent:a1q prog f=true) (hf:∀H' x,PH.le H H'->x∈l->a1g prog f (ii x::caps) H' (.bool (q x))):a1g prog 115 [u,.func (.func f) #[] caps.toArray] H (.bool (l.any q)):=by
 refine a0b mixed d0f (by kernel_rfl) rfl ?_
 refine a0d (c5m hu hent hf) rfl ?_
 rintro _ H1 ⟨l1,z,rfl,hz⟩
 refine⟨fun h=>(nomatch h),?_⟩
 simp only[cA,nA]
 refine a0a ⟨_,rfl⟩ ?_
 exact a0c rfl ⟨l1,hz ▸ rfl⟩
end
section
variable {H:PH} {u v:Value} {l:List Nat}
theorem c5n {f:FuncId} {caps:List Value} {q:Nat->Bool} (hu:SU H u l) (hent:a1q prog f=true) (hf:∀H' x,PH.le H H'->x∈l->a1g prog f (uv x::caps) H' (.bool (q x))):Con prog 211 [u,.func (.func f) #[] caps.toArray] H fun r H'=>PH.le H H'/\∃z:Int,r=ii z/\decide (z≥0)=l.any q:=by
 refine a0b mixed d0i (by kernel_rfl) rfl ?_
 have hl:=hu.len
 refine a0j el_u64 rfl rfl hu rfl ?_
 refine a0o (α:=Nat×Int) (fun⟨i,p⟩=>[ii p,ii (i:Nat)]) (fun⟨i,p⟩=>fun H'=>i<=l.length/\PH.le H H'/\(l.take i).any q=false) (fun⟨i,p⟩=>l.length-i) ((0,0)) rfl (⟨Nat.zero_le _,PH.le.refl _,rfl⟩) fun⟨i,p⟩ H' hQ=> ?_
 simp only[cA,nA]
 obtain⟨hi,l1,hq⟩:=hQ
 refine a0a ⟨_,rfl⟩ ?_
 refine a0a ⟨_,rfl⟩ ?_
 refine a0f (b:=decide (((i:Nat):Int)<(l.length:Nat))) rfl (fun h=> ?_) (fun h=> ?_)
 ·replace h:=of_decide_eq_true h
  have hi':i<l.length:=by omega
  obtain⟨x,hx,hdx⟩:=a0t hi'
  refine a0m el_u64 rfl rfl rfl rfl (fun _=>rfl) (hu.mono l1) hx rfl (fun _=>rfl) fun _=> ?_
  simp only[cA,nA]
  refine a0n (a0D (f:=f) (caps:=caps.toArray) (vs:=[uv x]) rfl rfl rfl hent (hf _ x l1 (List.mem_of_getElem? hx))) rfl ?_
  rintro _ H2 ⟨l2,rfl⟩
  refine⟨fun h=>(nomatch h),?_⟩
  simp only[cA,nA]
  refine a0a ⟨_,rfl⟩ ?_
  refine a0f (b:=q x) rfl (fun hqx=> ?_) (fun hqx=> ?_)
  ·skip
   exact a0c rfl ⟨l1.trans l2,_,rfl,by rw[List.any_eq_true.2 ⟨x,List.mem_of_getElem? hx,hqx⟩];exact decide_eq_true (by omega)⟩
  ·skip
   exact⟨(i+1,p),by show l.length-(i+1)<l.length-i;omega,(a0R rfl (a0J rfl (by omega))),⟨hi',l1.trans l2,by rw[take_snoc hx,List.any_append,hq];simp[hqx]⟩⟩
 ·replace h:=of_decide_eq_false h
  rw[List.take_of_length_le (by omega)]at hq
  exact a0c rfl ⟨l1,_,rfl,by rw[hq];rfl⟩
theorem b9x {f:FuncId} {caps:List Value} {q:Nat->Bool} (hu:SU H u l) (hent:a1q prog f=true) (hf:∀H' x,PH.le H H'->x∈l->a1g prog f (uv x::caps) H' (.bool (q x))):a1g prog 157 [u,.func (.func f) #[] caps.toArray] H (.bool (l.any q)):=by
 refine a0b mixed d0g (by kernel_rfl) rfl ?_
 refine a0d (c5n hu hent hf) rfl ?_
 rintro _ H1 ⟨l1,z,rfl,hz⟩
 refine⟨fun h=>(nomatch h),?_⟩
 simp only[cA,nA]
 refine a0a ⟨_,rfl⟩ ?_
 exact a0c rfl ⟨l1,hz ▸ rfl⟩
end
section
variable {H:PH} {n:Nat} {w:Value} {es:List (Nat×Nat)} {set:Nat}
theorem c5o (hw:SG H w es) (hg:GV n es) (hs:set<M64):a1g prog 251 [gv n w,uv set] H (ii (if set<2^n then 0 else 2)):=by
 refine a0b mixed d4B (by kernel_rfl) rfl ?_
 refine a0a (a2e hw) ?_
 refine a0h (a2f hw hg) rfl fun H1 l1=> ?_
 simp only[cA,nA]
 refine a0a ⟨_,rfl⟩ ?_
 refine a0e (bF (p:=(0:Int)≠0) (by simp)) ?_
 refine a1o (a7y set hs) rfl ?_
 simp only[cA,nA]
 refine a0a ⟨_,rfl⟩ ?_
 refine a0a ⟨_,rfl⟩ ?_
 refine a0f (b:=decide (set≥2^n)) (by show Value.bool (decide (((Go.WD.blen set:Nat):Int)>((n:Nat):Int)))=_;congr 1;apply decide_eq_decide.2;constructor<;>intro hh<;>first|(have:=Go.WD.blen_ge hh;omega)|(apply Nat.le_of_not_lt;intro h2;have:=Go.WD.blen_le h2;omega)) (fun h=> ?_) (fun h=> ?_)
 ·replace h:=of_decide_eq_true h
  exact a0c rfl ⟨l1,by rw[if_neg (by omega)];rfl⟩
 ·replace h:=of_decide_eq_false h
  exact a0c rfl ⟨l1,by rw[if_pos (by omega)];rfl⟩
noncomputable def d6h (n:Nat) (es:List (Nat×Nat)) (set:Nat):Value:=if set<2^n then .tuple #[.bool (cnB es set),ii 0]else .tuple #[.bool false,ii 2]
theorem b9y (hT:Tb H) (hw:SG H w es) (hg:GV n es) (hs:set<M64):a1g prog 214 [gv n w,uv set] H (d6h n es set):=by
 refine a0b mixed d0k (by kernel_rfl) rfl ?_
 have hn:=hg.n64
 refine a0a (a2e hw) ?_
 refine a0h (c5o hw hg hs) rfl fun H1 l1=> ?_
 simp only[cA,nA]
 refine a0a ⟨_,rfl⟩ ?_
 refine a0f (b:=decide (¬set<2^n)) (by show Value.bool ((if set<2^n then(0:Int)else 2) !=0)=_;by_cases hh:set<2^n<;>simp[hh]) (fun h=> ?_) (fun h=> ?_)
 ·replace h:=of_decide_eq_true h
  exact a0c rfl ⟨l1,by unfold d6h;rw[if_neg h,if_neg h];rfl⟩
 ·replace h:=of_decide_eq_false h
  have h:set<2^n:=Classical.byContradiction h
  refine a0d (b9u (hT.mono l1) (hw.mono l1) hg h) rfl ?_
  rintro u H2 ⟨l2,l,hl,hc⟩
  refine⟨fun h=>(nomatch h),?_⟩
  simp only[cA,nA]
  have e:cnB es set=decide (l.length=1):=by rw[Bool.eq_iff_iff,cnB_iff,<-hc];simp
  refine a0j el_u64 rfl rfl hl rfl ?_
  refine a0a ⟨_,rfl⟩ ?_
  exact a0c rfl ⟨l1.trans l2,by rw[show d6h n es set= .tuple #[.bool (cnB es set),ii 0]from if_pos h,e];show Value.tuple #[.bool (((l.length:Nat):Int)==1),_]=_;rw[bE,show decide (((l.length:Nat):Int)=1)=decide (l.length=1)from decide_eq_decide.2 (by omega)];rfl⟩
end
end Go.Proofs.YtlmgkkjgdapnpaaGreatDoor
/- Slices made in regions that draw; append to a full slice. -/
namespace Go.RX
open Go.RowKit
section
variable {P:Program} {T e:TypeId} {sz:Nat} {ag:Bool} {α:Type} {ce:α->List Value} {ve:α->Value} (E:El P T e sz ag ce ve)
variable {G Xp:Value->PH->Prop} {nx:List (List Value->PH->Prop)} {ρ:List Value} {H:PH} {o:Oper} {x y:Operand} {id i:Nat} {args:List SV} {t:Tree} {v u:Value} {l l2:List α} {a:α} {pf:Bool} {b:Nat} {fz:Nat×Nat} {T':TypeId}
include E
theorem b9z {o1 o2 o3:Oper} {x y x2 x3:Operand} {id1 i1 id2 i2 id3 i3:Nat} {args1 args2 args3:List SV} {k:IntKind} {j m n:Nat} {e2:TypeId} {c:Value} (hT:Ar P e e2 n) (hm:m<n) (hc:(ce a)[m]? =some c) (ho1:o1.op= .indexAddr T x y) (ho2:o2.op= .indexAddr e x2 (.const (.int .i64 (m:Nat)))) (ho3:o3.op= .load e2 x3) (hx:a0k [x,y] [v,.int k (j:Nat)] x=v) (hy:a0k [x,y] [v,.int k (j:Nat)] y= .int k (j:Nat))
  (hx2:∀p,a0k [x2,.const (.int .i64 (m:Nat))] [p,.int .i64 (m:Nat)] x2=p) (hx2':∀p,a0k [x2,.const (.int .i64 (m:Nat))] [p,.int .i64 (m:Nat)] (.const (.int .i64 (m:Nat)))= .int .i64 (m:Nat)) (hx3:∀p,a0k [x3] [p] x3=p) (h:SE H sz ce v l) (hj:l[j]? =some a) (ha:args1.map (D P ρ)=[v,.int k (j:Nat)]) (ha2:∀p,args2.map (D P (ρ++[p]))=[p,.int .i64 (m:Nat)]) (ha3:∀p p',args3.map (D P (ρ++[p]++[p']))=[p'])
  (nn:∀p p',den P G Xp t nx (ρ++[p]++[p']++[c]) H):den P G Xp (.prim id1 i1 o1 args1 (.prim id2 i2 o2 args2 (.prim id3 i3 o3 args3 t))) nx ρ H:=by
 refine b0d E ho1 hx hy h hj ha fun p hp=> ?_
 obtain⟨b,q,cs,T',fz,rfl,h2,h3,h4⟩:=hp
 have hlt:=(List.getElem?_eq_some_iff.1 hc).1
 have hi:=(a5M (P:=P) (len:=n) (e:=e2) (b:=b) (q:=q) ho2 (hx2 _) (hx2' _) hT.und hT.sc.has (by omega) (by omega)).rds H
 rw[hT.sc.cel,Int.toNat_natCast,Nat.mul_one]at hi
 refine a0l hi (ha2 _) ?_
 refine a0g hT.sc ho3 (hx3 _) h2 ?_ (ha3 _ _) (nn _ _)
 rw[<-Array.getElem?_toList]
 rw[<-h4,List.getElem?_take_of_lt hlt,List.getElem?_drop]at hc
 exact hc
end
theorem c5p {P:Program} {o:Oper} {x y:Operand} {vs:List Value} {t t' e:TypeId} {p:Option Addr} {n c:Nat} (ho:o.op= .binOp .eql t x y t') (hx:a0k [x,y] vs x= .slice p n c) (hy:a0k [x,y] vs y= .slice none 0 0) (hu:P.underlying t=some (.slice e)):Yld P o vs (.bool p.isNone):=fun w=>by
 have hos:o.op.operands.toList=[x,y]:=by simp[ho,Op.operands]
 rw[hos]
 have h:∀d:Nat,(Op.equalIn (d+1) t (.slice p n c) (.slice none 0 0)).run P w= .ok p.isNone w:=fun d=>by
  cases p<;>simp[Op.equalIn,run_underlying hu]
 have hb:(binOp .eql t (.slice p n c) (.slice none 0 0)).run P w= .ok (.bool p.isNone) w:=by
  simp only[binOp]
  simp[Op.equal,Op.maxDepth,h 9999]
 simp only[execOp,ho,hx,hy,Sem.run_bind,eqGuard]
 simp[hb]
end Go.RX

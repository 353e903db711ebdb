/- Ensembles: Exact, Rank. -/
import Derived.Test.YtlmgkkjgdapnpaaGreatDoorGhA
import Derived.Test.YtlmgkkjgdapnpaaGreatDoorGaH
import Derived.Test.YtlmgkkjgdapnpaaGreatDoorGiC
namespace Go.Proofs.YtlmgkkjgdapnpaaGreatDoor
open Go.Proofs.Tryz
open Go.RowKit Go.RX Go.GS Go.RZ Go.WD
set_option maxRecDepth 100000
section
variable {H B:PH} {n k ms lv who:Nat} {es:List (Nat×Nat)} {us:List Un} {w rw wts u v:Value} {lo hi:Int} {b i:Nat} {p:List Int} {l:List Rat}
theorem b2G:a1q prog 19=true:=by kernel_rfl
theorem d3b:c0B prog 18 64 43 44 20 ((prog.funcs[18]?).getD default) ((prog.funcs[64]?).getD default) (a6w ((prog.funcs[64]?).getD default).body):=⟨by kernel_rfl,by kernel_rfl,by kernel_rfl,by kernel_rfl,by kernel_rfl,by kernel_rfl,by kernel_rfl,by kernel_rfl,by kernel_rfl,by kernel_rfl⟩
theorem d7W:CcT prog 43 44 (.slice none 0 0):=⟨by kernel_rfl,by kernel_rfl,by kernel_rfl,by kernel_rfl,by kernel_rfl,by kernel_rfl,by kernel_rfl,fun _=>of_decide_eq_true (by kernel_rfl)⟩
theorem d8z {H:PH} {v:Value} {m:List MaT} (h:SE H 32 ceM v m):v.cells.size=prog.cellsOf 43/\a0p v.cells/\rdV prog 43 v.cells=v:=by
 have h1:a0F prog 43=false:=by kernel_rfl
 have h2:prog.cellsOf 43=1:=by kernel_rfl
 refine⟨by rw[h2];exact h.one.1,h.one.2,?_⟩
 unfold rdV;rw[h1,h.cells];rfl
theorem b5B (hM:StM H w rw es us) (hS:StOk n k ms lv who es us lo hi) (hz:ms=1->a3n us n=true) (hp:0<a2R n k es us lo hi) (hN:a2R n k es us lo hi<=400) (hr:∀r∈vlL n k ms lv who es us lo hi,Rg r):
  Con prog 5 [stV n k ms lv who w rw lo hi] H fun r H'=>PH.le H H'/\∃t m,r= .tuple #[t,ii 0]/\SE H' 32 ceM t m/\TalP (vlL n k ms lv who es us lo hi) m:=by
 refine a0b mixed c1P (by kernel_rfl) rfl ?_
 refine a0a (a3D (a0I hM.gr) hM.ro.one) ?_
 refine a0A (cs:=(stC n k ms lv who w rw lo hi).toArray) rfl fun a ha=> ?_
 simp only[cA,nA]
 have la:=PH.le_put ha (.cells (stC n k ms lv who w rw lo hi).toArray 37 (0,0))
 refine a0O (a0z (vs:=[.pointer (some ⟨a,0,none⟩)]) rfl rfl) rfl ?_
 simp only[cA,nA]
 refine a0d (a1B (caps:=[.pointer (some ⟨a,0,none⟩)]) mixed d3b d7W b2G (c2s (PH.put_self _ _ _) (hM.mono la) hS hz hp hN hr) (fun _ _ h=>d8z h.2.choose_spec.1)) rfl ?_
 rintro _ H4 ⟨t,⟨l4,m,hse,hT⟩,rfl⟩
 refine⟨fun h=>(nomatch h),?_⟩
 simp only[cA,nA]
 refine a0a ⟨_,rfl,by simp⟩ ?_
 refine a0a ⟨_,rfl,by simp⟩ ?_
 exact a0c rfl ⟨la.trans l4,t,m,rfl,hse,hT⟩
theorem c2S:a1q prog 46=true:=by kernel_rfl
theorem d7w:c0B prog 45 107 126 44 20 ((prog.funcs[45]?).getD default) ((prog.funcs[107]?).getD default) (a6w ((prog.funcs[107]?).getD default).body):=⟨by kernel_rfl,by kernel_rfl,by kernel_rfl,by kernel_rfl,by kernel_rfl,by kernel_rfl,by kernel_rfl,by kernel_rfl,by kernel_rfl,by kernel_rfl⟩
theorem d8A:CcT prog 126 44 (.agg (Array.replicate 32 (.int .u64 0))):=⟨by kernel_rfl,by kernel_rfl,by kernel_rfl,by kernel_rfl,by kernel_rfl,by kernel_rfl,by kernel_rfl,fun h=>absurd (show a0F prog 126=true by kernel_rfl) (by rw[h];decide)⟩
def c8D (a c:Rat):Value:= .agg (shw a++shw c)
theorem b0E (a c:Rat):(c8D a c).cells.size=32/\a0p (c8D a c).cells:=⟨by show(shw a++shw c).size=32;rw[Array.size_append,a0Q,a0Q],a2k (a4e _) (a4e _)⟩
theorem d8B (a c:Rat):(c8D a c).cells.size=prog.cellsOf 126/\a0p (c8D a c).cells/\rdV prog 126 (c8D a c).cells=c8D a c:=by
 have h1:a0F prog 126=true:=by kernel_rfl
 have h2:prog.cellsOf 126=32:=by kernel_rfl
 refine⟨by rw[h2];exact(b0E a c).1,(b0E a c).2,?_⟩
 unfold rdV;rw[h1];rfl
structure d7x (n k:Nat) (es:List (Nat×Nat)) (us:List Un) (lo hi:Int) (p:List Int):Prop where
 ok:PlOk n k p
 fit:d1c n es (wlU us n) lo hi (k:Nat) p=true
noncomputable def rkA (n k ms lv who:Nat) (es:List (Nat×Nat)) (us:List Un) (lo hi:Int) (p:List Int) (m:List MaT):Rat:=qN (c7c (vlL n k ms lv who es us lo hi) (a9m n es us k ms lv who p) m) (a2R n k es us lo hi)
noncomputable def rkB (n k ms lv who:Nat) (es:List (Nat×Nat)) (us:List Un) (lo hi:Int) (p:List Int) (m:List MaT):Rat:=qN (c8v (vlL n k ms lv who es us lo hi) (a9m n es us k ms lv who p) m) (a2R n k es us lo hi)
theorem c2T {a c:Nat} (hs:H a=some (.cells (stC n k ms lv who w rw lo hi).toArray 37 (0,0))) (hc:H c=some (.cells #[u] 39 (0,0))) (hu:SI H u p) (ho:d7x n k es us lo hi p) (hM:StM H w rw es us) (hS:StOk n k ms lv who es us lo hi) (hz:ms=1->a3n us n=true) (hp:0<a2R n k es us lo hi) (hN:a2R n k es us lo hi<=400) (hr:∀r∈vlL n k ms lv who es us lo hi,Rg r) (hro:Rg (a9m n es us k ms lv who p)):
  Con prog 46 [.pointer (some ⟨a,0,none⟩),.pointer (some ⟨c,0,none⟩)] H fun r H'=>PH.le H H'/\∃m,TalP (vlL n k ms lv who es us lo hi) m/\r=c8D (rkA n k ms lv who es us lo hi p m) (rkB n k ms lv who es us lo hi p m):=by
 refine a0b mixed c6P (by kernel_rfl) rfl ?_
 have hbd:bdE n (wlU us n) lo hi (k:Nat)=0:=by
  unfold bdE
  rw[if_pos ⟨hS.bd.len,hS.bd.b0,hS.bd.b1,hS.bd.d1,hS.bd.d8,hS.bd.ok⟩]
 refine a0N (vs:=(stC n k ms lv who w rw lo hi)) b2A rfl rfl hs rfl (show 0+12<=12 by decide) rfl ?_
 simp only[cA,nA]
 refine a0d (b0z hM hS hz) rfl ?_
 rintro _ H1 ⟨l1,b,wts,rfl,hW⟩
 refine⟨fun h=>(nomatch h),?_⟩
 simp only[cA,nA]
 refine a0u (ad:=⟨b,0,none⟩) rfl rfl rfl ?_
 simp only[cA,nA]
 refine a0i a1H rfl rfl rfl ?_
 simp only[cA,nA]
 refine a0i c2k rfl rfl rfl ?_
 simp only[cA,nA]
 refine a0N (vs:=[ii (n:Nat),w]) b2n rfl rfl hW.bk rfl (show 0+0+0+2<=17 by decide) rfl ?_
 simp only[cA,nA]
 refine a0u (ad:=⟨b,0,none⟩) rfl rfl rfl ?_
 simp only[cA,nA]
 refine a0i a4D rfl rfl rfl ?_
 simp only[cA,nA]
 refine a0N (vs:=[wts,ii lo,ii hi,ii (k:Nat)]) b5u rfl rfl hW.bk rfl (show 0+12+4<=17 by decide) rfl ?_
 simp only[cA,nA]
 refine a0g a1Q rfl rfl (l1 _ _ hc) rfl rfl ?_
 simp only[cA,nA]
 refine a0h (c0j hW.mm.tb hW.mm.gr hS.gv hW.wt (hu.mono l1)) rfl fun H2 l2=> ?_
 simp only[cA,nA]
 rw[hbd,ho.fit]
 refine a0a ⟨_,rfl,by simp⟩ ?_
 refine a0a ⟨_,rfl,by simp⟩ ?_
 refine a0q (c7f _) rfl ?_
 simp only[cA,nA]
 refine a0a ⟨_,rfl⟩ ?_
 refine a0q (a4t 8) rfl ?_
 simp only[cA,nA]
 refine a0N (vs:=(stC n k ms lv who w rw lo hi)) b2A rfl rfl ((l1.trans l2) _ _ hs) rfl (show 0+12<=12 by decide) rfl ?_
 simp only[cA,nA]
 refine a0d (b5B (hM.mono (l1.trans l2)) hS hz hp hN hr) rfl ?_
 rintro _ H3 ⟨l3,t,m,rfl,hse,hT⟩
 refine⟨fun h=>(nomatch h),?_⟩
 simp only[cA,nA]
 refine a0a ⟨_,rfl,by simp⟩ ?_
 refine a0a ⟨_,rfl,by simp⟩ ?_
 refine a0q (c7e _) rfl ?_
 simp only[cA,nA]
 refine a0g a1Q rfl rfl ((l1.trans (l2.trans l3)) _ _ hc) rfl rfl ?_
 simp only[cA,nA]
 refine a0h (b2x (hW.mono (l2.trans l3)) hS hz (hu.mono (l1.trans (l2.trans l3))) ho.ok) rfl fun H4 l4=> ?_
 simp only[cA,nA]
 refine a0h (b2u (hse.mono l4) hT (by rw[a3E];exact hp) (by rw[a3E];exact hN) hro) rfl fun H5 l5=> ?_
 simp only[cA,nA]
 refine a0a ⟨_,rfl,by simp⟩ ?_
 refine a0a ⟨_,rfl,by simp⟩ ?_
 refine a0a ⟨_,rfl,by simp⟩ ?_
 refine a0a (a0s _ _) ?_
 refine a0a (a0s _ _) ?_
 refine a0q (a3C) rfl ?_
 simp only[cA,nA]
 exact a0c rfl ⟨l1.trans (l2.trans (l3.trans (l4.trans l5))),m,hT,by unfold c8D rkA rkB;rw[<-a3E (ms:=ms) (lv:=lv) (who:=who),<-a2g,<-a2g];rfl⟩
end
end Go.Proofs.YtlmgkkjgdapnpaaGreatDoor
/- Ensembles: Rank; which value is better. -/
namespace Go.GS
def a8E (g:Bool) (v b:Rat):Bool:=(g&&decide (b<v))||(!g&&decide (v<b))
end Go.GS
namespace Go.Proofs.YtlmgkkjgdapnpaaGreatDoor
open Go.Proofs.Tryz
open Go.RowKit Go.RX Go.GS Go.RZ Go.WD
set_option maxRecDepth 100000
section
variable {H B:PH} {n k ms lv who:Nat} {es:List (Nat×Nat)} {us:List Un} {w rw wts u v:Value} {lo hi:Int} {b i:Nat} {p:List Int} {l:List Rat}
theorem d8C (a c:Rat):Value.agg ((shw a++shw c).extract 0 16)=shR a:=by
 rw[a3m]
 congr 1
 apply Array.ext'
 have:=a0Q a
 simp[List.take_of_length_le,this]
theorem d8D (a c:Rat):Value.agg ((shw a++shw c).extract 16 32)=shR c:=by
 rw[a3m]
 congr 1
 apply Array.ext'
 have h1:=a0Q a
 have h2:=a0Q c
 simp[List.take_of_length_le,h1,h2]
theorem c7n (hu:SI H u p) (ho:d7x n k es us lo hi p) (hM:StM H w rw es us) (hS:StOk n k ms lv who es us lo hi) (hz:ms=1->a3n us n=true) (hp:0<a2R n k es us lo hi) (hN:a2R n k es us lo hi<=400) (hr:∀r∈vlL n k ms lv who es us lo hi,Rg r) (hro:Rg (a9m n es us k ms lv who p)):
  Con prog 11 [stV n k ms lv who w rw lo hi,u] H fun r H'=>PH.le H H'/\∃m,TalP (vlL n k ms lv who es us lo hi) m/\r= .tuple #[shR (rkA n k ms lv who es us lo hi p m),shR (rkB n k ms lv who es us lo hi p m),ii 0]:=by
 refine a0b mixed d2P (by kernel_rfl) rfl ?_
 refine a0a (a3D (a0I hM.gr) hM.ro.one) ?_
 refine a0A (cs:=(stC n k ms lv who w rw lo hi).toArray) rfl fun a ha=> ?_
 simp only[cA,nA]
 have la:=PH.le_put ha (.cells (stC n k ms lv who w rw lo hi).toArray 37 (0,0))
 refine a0a (hu.one) ?_
 refine a0A (cs:= #[u]) hu.cells fun c hc=> ?_
 simp only[cA,nA]
 have lc:=PH.le_put hc (.cells #[u] 39 (0,0))
 refine a0O (a0z (vs:=[.pointer (some ⟨a,0,none⟩),.pointer (some ⟨c,0,none⟩)]) rfl rfl) rfl ?_
 simp only[cA,nA]
 refine a0d (a1B (caps:=[.pointer (some ⟨a,0,none⟩),.pointer (some ⟨c,0,none⟩)]) mixed d7w d8A c2S (c2T (lc _ _ (PH.put_self _ _ _)) (PH.put_self _ _ _) (hu.mono (la.trans lc)) ho (hM.mono (la.trans lc)) hS hz hp hN hr hro) (fun _ _ h=>by obtain⟨_,_,_,rfl⟩:=h;exact d8B _ _)) rfl ?_
 rintro _ H4 ⟨t,⟨l4,m,hT,rfl⟩,rfl⟩
 refine⟨fun h=>(nomatch h),?_⟩
 simp only[cA,nA]
 refine a0a ⟨_,rfl,by simp⟩ ?_
 refine a0a ⟨_,rfl,by simp⟩ ?_
 refine a0a (b0E _ _) ?_
 exact a0c rfl ⟨(la.trans lc).trans l4,m,hT,by show Value.tuple #[_,_,_]=_;rw[<-d8C (rkA n k ms lv who es us lo hi p m) (rkB n k ms lv who es us lo hi p m),<-d8D (rkA n k ms lv who es us lo hi p m) (rkB n k ms lv who es us lo hi p m)];rfl⟩
def foC (pl:Value) (r:Rat):Array Value:= #[pl]++shw r
theorem d5R:FA prog 140 0 0:=⟨by kernel_rfl,of_decide_eq_true (by kernel_rfl),by kernel_rfl,by kernel_rfl,of_decide_eq_true (by kernel_rfl)⟩
theorem d5S:FA prog 140 1 1:=⟨by kernel_rfl,of_decide_eq_true (by kernel_rfl),by kernel_rfl,by kernel_rfl,of_decide_eq_true (by kernel_rfl)⟩
theorem c2U:a1q prog 55=true:=by kernel_rfl
theorem c7o (pl:Value) (r:Rat):((foC pl r).toList.drop (0+1)).take (shw r).toList.length=(shw r).toList:=by
 have h:(shw r).toList.length=16:=by simp
 unfold foC
 rw[h]
 simp[List.take_of_length_le]
theorem sgR_pos {a b:Rat}:sgR a b>0↔b<a:=by
 unfold sgR
 split
 ·rename_i h;exact⟨fun e=>absurd e (by decide),fun e=>absurd e (Rat.not_lt.2 (Rat.le_of_lt h))⟩
 ·rename_i h
  split
  ·rename_i e;subst e;exact⟨fun e=>absurd e (by decide),fun e=>absurd e Rat.lt_irrefl⟩
  ·rename_i e;exact⟨fun _=>Rat.lt_of_le_of_ne (Rat.not_lt.1 h) (fun h2=>e h2.symm),fun _=>by decide⟩
theorem b6Q {f g:Nat} {T T2:TypeId} {pl:Value} {r q:Rat} {gb:Bool} (hf:H f=some (.cells (foC pl q) T (0,0))) (hg:H g=some (.cells #[.bool gb] T2 (0,0))) (hr:Rg r) (hq:Rg q):a1g prog 55 [shR r,.pointer (some ⟨f,0,none⟩),.pointer (some ⟨g,0,none⟩)] H (.bool (a8E gb r q)):=by
 refine a0b mixed c6R (by kernel_rfl) rfl ?_
 refine a0a (a0s _ _) ?_
 refine a0i d5S rfl rfl rfl ?_
 simp only[cA,nA]
 refine a0N (vs:=(shw q).toList) (b5s q) rfl rfl hf (c7o pl q) (by unfold foC;simp) rfl ?_
 simp only[cA,nA]
 refine a0h (b2r hr hq) (a0R rfl (a3m q).symm) fun H1 l1=> ?_
 simp only[cA,nA]
 refine a0a ⟨_,rfl,by simp⟩ ?_
 refine a0a ⟨_,rfl,by simp⟩ ?_
 refine a0q (b5o _) rfl ?_
 simp only[cA,nA]
 refine a0g a3J rfl rfl (l1 _ _ hg) rfl rfl ?_
 simp only[cA,nA]
 refine a0a ⟨_,rfl⟩ ?_
 refine a0f (b:=gb) rfl (fun h1=> ?_) (fun h1=> ?_)
 ·skip
  refine a0a ⟨_,rfl⟩ ?_
  refine a0f (b:=decide (sgR r q>0)) rfl (fun h2=> ?_) (fun h2=> ?_)
  ·replace h2:=of_decide_eq_true h2
   exact a0c rfl ⟨l1,by unfold a8E;rw[h1,decide_eq_true (sgR_pos.1 h2)];rfl⟩
  ·replace h2:=of_decide_eq_false h2
   refine a0g a3J rfl rfl (l1 _ _ hg) rfl rfl ?_
   simp only[cA,nA]
   refine a0a ⟨_,rfl⟩ ?_
   refine a0e (by rw[h1];rfl) ?_
   exact a0c rfl ⟨l1,by unfold a8E;rw[h1,decide_eq_false (fun e=>h2 (sgR_pos.2 e))];rfl⟩
 ·skip
  refine a0g a3J rfl rfl (l1 _ _ hg) rfl rfl ?_
  simp only[cA,nA]
  refine a0a ⟨_,rfl⟩ ?_
  refine a0K (by rw[h1];rfl) ?_
  refine a0a ⟨_,rfl⟩ ?_
  exact a0c rfl ⟨l1,by unfold a8E;rw[h1];show Value.bool (decide (sgR r q<0))= .bool (false||decide (r<q));rw[Bool.false_or];congr 1;exact decide_eq_decide.2 sgR_neg⟩
end
end Go.Proofs.YtlmgkkjgdapnpaaGreatDoor
/- Drafts of chapter 37: studies. -/
namespace Go.RX
open Go.RowKit
section
variable {P:Program} {ρ:List Value} {x y:SV} {o n:Nat} {l m:List Value} {v w:Value}
theorem a3F (hx:D P ρ x= .agg l.toArray):D P ρ (.sub x o n 0 noI)= .agg ((l.drop o).take n).toArray:=by
 show Value.agg ((D P ρ x).cells.extract (o+0*a2G (D P ρ noI)) (o+0*a2G (D P ρ noI)+n))=_
 rw[hx,Nat.zero_mul,Nat.add_zero]
 congr 1
 apply Array.ext'
 show(l.toArray.extract o (o+n)).toList=_
 simp[List.extract_eq_take_drop]
theorem c2V (hx:D P ρ x= .agg l.toArray) (hy:D P ρ y= .agg m.toArray):D P ρ (.cat x n y)= .agg (l++m).toArray:=by
 show Value.agg ((D P ρ x).cells++(D P ρ y).cells)=_
 rw[hx,hy]
 congr 1
 apply Array.ext'
 show(l.toArray++m.toArray).toList=_
 simp
theorem a3s (hx:D P ρ x=v) (hv:v.cells= #[v]) (hy:D P ρ y= .agg m.toArray):D P ρ (.cat x n y)= .agg (v::m).toArray:=by
 show Value.agg ((D P ρ x).cells++(D P ρ y).cells)=_
 rw[hx,hy,hv]
 congr 1
 apply Array.ext'
 show(#[v]++m.toArray).toList=_
 simp
theorem d5T (hx:D P ρ x=v) (hv:v.cells= #[v]) (hy:D P ρ y=w) (hw:w.cells= #[w]):D P ρ (.cat x n y)= .agg [v,w].toArray:=by
 show Value.agg ((D P ρ x).cells++(D P ρ y).cells)=_
 rw[hx,hy,hv,hw]
 rfl
def d6o:List Value->Nat->List Value->List Value
 |l,_,[]=>l
 |l,o,y::ys=>d6o (l.set o y) (o+1) ys
theorem b0F:∀(m l:List Value) (o:Nat),spl l.toArray o m=(d6o l o m).toArray
 |[],_,_=>rfl
 |y::ys,l,o=>by
  show spl (l.toArray.setIfInBounds o y) (o+1) ys=(d6o (l.set o y) (o+1) ys).toArray
  rw[<-b0F ys]
  congr 1
  simp
theorem d7y (hx:D P ρ x= .agg l.toArray) (hy:D P ρ y= .agg m.toArray):D P ρ (.put x o n y 0 noI)= .agg (d6o l o m).toArray:=by
 show Value.agg (spl (D P ρ x).cells (o+0*a2G (D P ρ noI)) (D P ρ y).cells.toList)=_
 rw[hx,hy,Nat.zero_mul,Nat.add_zero,<-b0F]
 rfl
theorem c8E (hx:D P ρ x= .agg l.toArray) (hy:D P ρ y=v) (hv:v.cells= #[v]):D P ρ (.put x o n y 0 noI)= .agg (l.set o v).toArray:=by
 show Value.agg (spl (D P ρ x).cells (o+0*a2G (D P ρ noI)) (D P ρ y).cells.toList)=_
 rw[hx,hy,hv,Nat.zero_mul,Nat.add_zero]
 exact congrArg Value.agg (b0F [v] l o)
theorem a2T (hx:D P ρ x= .agg l.toArray):D P ρ (.cell x o 0 noI)=l.getD o undef:=by
 show(D P ρ x).cells.getD (o+0*a2G (D P ρ noI)) undef=_
 rw[hx,Nat.zero_mul,Nat.add_zero]
 show l.toArray.getD o undef=_
 simp[Array.getD_eq_getD_getElem?,List.getD_eq_getElem?_getD]
end
end Go.RX
namespace Go.GS
theorem d3c {us:List Un} {n:Nat} (h:n<=us.length):(wlU us n).length=n:=by
 unfold wlU;rw[List.length_map,List.length_take];omega
end Go.GS
namespace Go.Proofs.YtlmgkkjgdapnpaaGreatDoor
open Go.Proofs.Tryz
open Go.RowKit Go.RX Go.GS Go.RZ Go.WD
set_option maxRecDepth 100000
theorem d7z {us:List Un} {n k:Nat} {lo hi:Int} (hv:RoV n us) (hk:1<=k/\k<=8) (h0:0<=lo) (h1:lo<=hi):d4U n (wlU us n) lo hi (k:Nat):=by
 refine⟨d3c hv.le,h0,h1,by omega,by omega,fun x hx=> ?_⟩
 obtain⟨y,hy,rfl⟩:=List.mem_map.1 hx
 have:=a8l hv y (List.mem_of_mem_take hy)
 exact this
section
variable {H:PH} {a b c s:Value} {ps ls xs:List Nat} {ms:List (Nat×Nat)} {nn kk g p l wa un le mo me lv wh:Nat}
theorem b6R (hs:SE H 1 cU8 s xs) (h8:∀x∈xs,x<256) {n:Nat} (hn:n<=6):Con prog 16 [c7m g p l wa s,ii (n:Nat)] H fun r H'=>PH.le H H'/\∃u,r=rov u/\RoR H' u (usF xs n (wa%2)):=by
 refine a0b mixed c2D (by kernel_rfl) rfl ?_
 refine a0a (b0D (a0I hs) g p l wa) ?_
 refine a0d (b6P (wa:=wa) hs h8 hn) (a0R (a3s (v:= .int .u8 2) rfl rfl (a3s (v:= .int .u8 3) rfl rfl (a3s (v:= .int .u8 2) rfl rfl (a3F (a3F (a3F (l:=[.int .u8 (g:Nat),.int .u8 (p:Nat),.int .u8 (l:Nat),.int .u8 (wa:Nat),s]) rfl)))))) rfl) ?_
 rintro _ H2 ⟨l2,u,rfl,hr⟩
 refine⟨fun h=>(nomatch h),?_⟩
 simp only[cA,nA]
 refine a0a (a1A hr.one) ?_
 exact a0c rfl ⟨l2,u,rfl,hr⟩
def b6S (nn kk:Nat) (a b c:Value) (g p l wa:Nat) (s:Value) (un le mo me lv wh:Nat):Value:= .agg #[.int .u8 (nn:Nat),a,b,c,.int .u8 (kk:Nat),.int .u8 (g:Nat),.int .u8 (p:Nat),.int .u8 (l:Nat),.int .u8 (wa:Nat),s,.int .u8 (un:Nat),.int .u8 (le:Nat),.int .u8 (mo:Nat),.int .u8 (me:Nat),.int .u8 (lv:Nat),.int .u8 (wh:Nat)]
theorem c2W (h:D21 H a b c ps ls ms) (hs:a3G s=true):(b6S nn kk a b c g p l wa s un le mo me lv wh).cells.size=16/\a0p (b6S nn kk a b c g p l wa s un le mo me lv wh).cells:=by
 refine⟨rfl,fun x hx=> ?_⟩
 rw[b6S,a1e]at hx
 simp only[List.mem_cons,List.not_mem_nil,or_false]at hx
 have h1:=a0I h.pr
 have h2:=a0I h.mo
 have h3:=a0I h.la
 rcases hx with rfl|rfl|rfl|rfl|rfl|rfl|rfl|rfl|rfl|rfl|rfl|rfl|rfl|rfl|rfl|rfl<;>first|rfl|assumption
theorem d3d {ρ:List Value} {x y:SV} (hx:D prog ρ x=b6S nn kk a b c g p l wa s un le mo me lv wh) (hy:D prog ρ y=ii 6) (hu:un<256):D prog ρ (.sub (.cat (.cv .u8 (.op2 .rem .i64 (.cv .i64 (.cell x 10 0 noI)) y)) 1 (.sub x 1 15 0 noI)) 0 5 0 noI)=c2G (un%6) kk a b c:=by
 have e0:D prog ρ (.cell x 10 0 noI)= .int .u8 (un:Nat):=by
  show(D prog ρ x).cells.getD (10+0*a2G (D prog ρ noI)) undef=_
  rw[hx,Nat.zero_mul];rfl
 have e1:D prog ρ (.cv .u8 (.op2 .rem .i64 (.cv .i64 (.cell x 10 0 noI)) y))= .int .u8 ((un%6:Nat):Int):=by
  show Value.int .u8 (IntKind.u8.wrap (intOf (D prog ρ (.op2 .rem .i64 (.cv .i64 (.cell x 10 0 noI)) y))))=_
  rw[a3K (a8D e0 hu) (m:=6) hy]
  show Value.int .u8 (IntKind.u8.wrap ((un%6:Nat):Int))=_
  rw[show IntKind.u8.wrap ((un%6:Nat):Int)=((un%6:Nat):Int) by rw[IntKind.wrap_u8];omega]
 exact a3F (a3s e1 rfl (a3F (l:=[.int .u8 (nn:Nat),a,b,c,.int .u8 (kk:Nat),.int .u8 (g:Nat),.int .u8 (p:Nat),.int .u8 (l:Nat),.int .u8 (wa:Nat),s,.int .u8 (un:Nat),.int .u8 (le:Nat),.int .u8 (mo:Nat),.int .u8 (me:Nat),.int .u8 (lv:Nat),.int .u8 (wh:Nat)]) hx))
theorem d7A {ρ:List Value} {x:SV} (hx:D prog ρ x=b6S nn kk a b c g p l wa s un le mo me lv wh):D prog ρ (.sub (.sub x 1 15 0 noI) 4 5 0 noI)=c7m g p l wa s:=by
 exact a3F (a3F (l:=[.int .u8 (nn:Nat),a,b,c,.int .u8 (kk:Nat),.int .u8 (g:Nat),.int .u8 (p:Nat),.int .u8 (l:Nat),.int .u8 (wa:Nat),s,.int .u8 (un:Nat),.int .u8 (le:Nat),.int .u8 (mo:Nat),.int .u8 (me:Nat),.int .u8 (lv:Nat),.int .u8 (wh:Nat)]) hx)
theorem c2X {ρ:List Value} {x:SV} (hx:D prog ρ x=b6S nn kk a b c g p l wa s un le mo me lv wh):D prog ρ (.cell (.sub x 1 15 0 noI) 10 0 noI)= .int .u8 (le:Nat)/\D prog ρ (.cell (.sub x 1 15 0 noI) 11 0 noI)= .int .u8 (mo:Nat)/\D prog ρ (.cell (.sub x 1 15 0 noI) 12 0 noI)= .int .u8 (me:Nat)/\D prog ρ (.cell (.sub x 1 15 0 noI) 13 0 noI)= .int .u8 (lv:Nat)/\D prog ρ (.cell (.sub x 1 15 0 noI) 14 0 noI)= .int .u8 (wh:Nat):=by
 have e2:∀j,D prog ρ (.cell (.sub x 1 15 0 noI) j 0 noI)=[a,b,c,.int .u8 (kk:Nat),.int .u8 (g:Nat),.int .u8 (p:Nat),.int .u8 (l:Nat),.int .u8 (wa:Nat),s,.int .u8 (un:Nat),.int .u8 (le:Nat),.int .u8 (mo:Nat),.int .u8 (me:Nat),.int .u8 (lv:Nat),.int .u8 (wh:Nat)].getD j undef:=fun j=>a2T (a3F (l:=[.int .u8 (nn:Nat),a,b,c,.int .u8 (kk:Nat),.int .u8 (g:Nat),.int .u8 (p:Nat),.int .u8 (l:Nat),.int .u8 (wa:Nat),s,.int .u8 (un:Nat),.int .u8 (le:Nat),.int .u8 (mo:Nat),.int .u8 (me:Nat),.int .u8 (lv:Nat),.int .u8 (wh:Nat)]) hx)
 exact⟨e2 10,e2 11,e2 12,e2 13,e2 14⟩
theorem d3e:a0G prog 35= .agg [ii 0,ii 0,ii 0,.slice none 0 0].toArray:=by kernel_rfl
section
variable {ρ:List Value} {n k:Nat} {w rw q:Value}
theorem d3f:D prog ρ (.z 35)= .agg [ii 0,ii 0,ii 0,.slice none 0 0].toArray:=d3e
theorem a9r:D prog ρ (.z 3)=ii 0:=b2F
theorem c8F (h3:D prog ρ (.v 3)=gv n w) (h5:D prog ρ (.v 5)=rov rw):D prog ρ d7p= .agg [ii (n:Nat),w,ii 2,ii 3,ii 2,rw,ii 0,ii 0,ii 0,ii 0,ii 0,ii 0].toArray:=
 d7y (l:=[ii (n:Nat),w,ii 0,ii 0,ii 0,.slice none 0 0,ii 0,ii 0,ii 0,ii 0,ii 0,ii 0]) (m:=[ii 2,ii 3,ii 2,rw]) (c2V (l:=[ii (n:Nat),w]) h3 (c2V d3f (a3s a9r rfl (a3s a9r rfl (a3s a9r rfl (a3s a9r rfl (d5T a9r rfl a9r rfl))))))) h5
theorem c8G (h0:D prog ρ (.v 0)=b6S nn kk a b c g p l wa s un le mo me lv wh) (h2:D prog ρ (.v 2)= .tuple #[q,ii (k:Nat)]) (h3:D prog ρ (.v 3)=gv n w) (h5:D prog ρ (.v 5)=rov rw):D prog ρ d7q= .agg [ii (n:Nat),w,ii 2,ii 3,ii 2,rw,ii (k:Nat),ii 0,ii 0,ii ((1+me%8:Nat):Int),ii 0,ii 0].toArray:=
 c8E (c2V (a3F (c8F h3 h5)) (a3s (v:=ii (k:Nat)) (by show c3E 1 (D prog ρ (.v 2))=_;rw[h2];rfl) rfl (a3F (c8F h3 h5)))) (c2F (m:=8) (mi:=8) (c2X h0).2.2.1 rfl (by decide) (by decide)) rfl
theorem b5C (h0:D prog ρ (.v 0)=b6S nn kk a b c g p l wa s un le mo me lv wh) (h2:D prog ρ (.v 2)= .tuple #[q,ii (k:Nat)]) (h3:D prog ρ (.v 3)=gv n w) (h5:D prog ρ (.v 5)=rov rw):D prog ρ d2Y=stV n k (1+me%8) (lv%2) (wh%2) w rw 0 0:=
 c8E (c2V (a3F (c8G h0 h2 h3 h5)) (a3s (c2O (m:=2) (mi:=2) (c2X h0).2.2.2.1 rfl (by decide) (by decide)) rfl (a3F (c8G h0 h2 h3 h5)))) (c2O (m:=2) (mi:=2) (c2X h0).2.2.2.2 rfl (by decide) (by decide)) rfl
theorem c8H {lo hi:Int} (h0:D prog ρ (.v 0)=b6S nn kk a b c g p l wa s un le mo me lv wh) (h2:D prog ρ (.v 2)= .tuple #[q,ii (k:Nat)]) (h3:D prog ρ (.v 3)=gv n w) (h5:D prog ρ (.v 5)=rov rw) (hmo:mo<256) (h7:D prog ρ (.v 7)=ii hi) (h9:D prog ρ (.v 9)=ii lo) (hb:0<=hi/\hi<1000000000000):D prog ρ d3A=stV n k (1+me%8) (lv%2) (wh%2) w rw lo (hi+(mo:Nat)):=
 c2V (a3F (l:=stC n k (1+me%8) (lv%2) (wh%2) w rw 0 0) (b5C h0 h2 h3 h5)) (a3s h9 rfl (a3s (a3I h7 (a8D (c2X h0).2.1 hmo) (by omega) (by omega)) rfl (a3F (a3F (l:=stC n k (1+me%8) (lv%2) (wh%2) w rw 0 0) (b5C h0 h2 h3 h5)))))
end
end
section
variable {H:PH} {a b c s:Value} {ps ls xs:List Nat} {ms:List (Nat×Nat)} {nn kk g p l wa un le mo me lv wh:Nat}
def d8E (H:PH) (r:Value):Prop:=∃(n k ms lv who:Nat) (w rw u:Value) (lo hi:Int) (es:List (Nat×Nat)) (us:List Un) (p:List Int),r= .tuple #[stV n k ms lv who w rw lo hi,u]/\StM H w rw es us/\StOk n k ms lv who es us lo hi/\SI H u p/\d7x n k es us lo hi p/\0<a2R n k es us lo hi
theorem c2Y {us:List Un} {p:List Int} {i d:Nat} {x:Int} {u:Un} (hp:p[i]? =some x) (hu:us[i]? =some u):a0V Un.ppl us p (i+1) d=a0V Un.ppl us p i d+if x=(d:Nat)then u.ppl else 0:=by
 show a0V Un.ppl us p i d+(match p[i]?,us[i]? with|some x,some u=>if x=(d:Nat)then Un.ppl u else 0|_,_=>0)=_
 rw[hp,hu]
set_option maxHeartbeats 8000000 in
theorem b6T (hT:Tb H) (h:D21 H a b c ps ls ms) (hs:SE H 1 cU8 s xs) (h8:∀x∈xs,x<256) (hun:un<256) (hle:le<256) (hmo:mo<256):Con prog 4 [b6S nn kk a b c g p l wa s un le mo me lv wh,ii 6] H fun r H'=>PH.le H H'/\d8E H' r:=by
 refine a0b mixed c2E (by kernel_rfl) rfl ?_
 have hn6:=Nat.mod_lt un (show 0<6 by decide)
 refine a0a (c2W h (a0I hs)) ?_
 refine a0a ⟨_,rfl⟩ ?_
 refine a0a ⟨_,rfl⟩ ?_
 refine a0a (show(6:Int)≠0 by decide) ?_
 refine a0d (b6O (nn:=un%6) (kk:=kk) h hn6) (a1R (d3d rfl rfl hun)) ?_
 rintro _ H1 ⟨l1,u,q,k,rfl,hu,hP,hql⟩
 refine⟨fun h=>(nomatch h),?_⟩
 simp only[cA,nA]
 refine a0a ⟨_,rfl,by simp⟩ ?_
 refine a0a ⟨_,rfl,by simp⟩ ?_
 refine a0a ⟨_,rfl⟩ ?_
 refine a0a ⟨_,rfl⟩ ?_
 refine a0a ⟨_,rfl⟩ ?_
 refine a0d (b6M (nn:=un%6) (kk:=kk) (h.mono l1) hn6) (a1R (d3d rfl rfl hun)) ?_
 rintro _ H2 ⟨l2,w,es,rfl,hw,hg,hpe⟩
 refine⟨(fun _=>l2),?_⟩
 simp only[cA,nA]
 have l12:=l1.trans l2
 refine a0q (a3r (nn:=un%6) (kk:=kk) (h.mono l12)) (a1R (d3d rfl rfl hun)) ?_
 simp only[cA,nA]
 rw[show 1+un%6%9=1+un%6 by omega]
 generalize hn:1+un%6=n at hql hg hpe⊢
 refine a0d (b6R (n:=n) (hs.mono l12) h8 (by omega)) (a0R (d7A rfl) rfl) ?_
 rintro _ H3 ⟨l3,rw',rfl,hro⟩
 refine⟨(fun _=>l3),?_⟩
 simp only[cA,nA]
 have hk1:=hP.k1
 have hk4:=hP.km
 have hwa:=Nat.mod_lt wa (show 0<2 by decide)
 have hv:RoV n (usF xs n (wa%2)):=d3a h8 (by omega) (by omega) hwa
 generalize usF xs n (wa%2)=us at hro hv
 have hu3:=hu.mono (l2.trans l3)
 have hpl:(a1D q).length=n:=by rw[a2S];exact hql
 have hle:=hv.le
 obtain⟨ul,hwu,hlen,hur⟩:=id hro
 refine a0a (a2e hw) ?_
 refine a0a (a1A hro.one) ?_
 refine a0a (el_int.vcells _) ?_
 refine a0a (by show(D prog _ d2Y).cells.size=12/\a0p (D prog _ d2Y).cells;rw[b5C rfl rfl rfl rfl];exact a3D (a0I hw) hro.one) ?_
 refine a0W (α:=Nat×Int×Int) (fun⟨i,lo,hi⟩=>[ii lo,ii hi,ii (i:Nat)]) (fun⟨i,lo,hi⟩=>i<=k/\(i=0->lo= -1)/\(0<i->0<=lo)/\0<=hi/\hi<=6000000000/\lo<=6000000000/\∀d,d<i->lo<=a0V Un.ppl us (a1D q) n d/\a0V Un.ppl us (a1D q) n d<=hi) (fun⟨i,lo,hi⟩=>k-i) ((0,-1,0)) rfl (⟨Nat.zero_le _,fun _=>rfl,fun h=>absurd h (by omega),by decide,by decide,by decide,fun d h=>absurd h (by omega)⟩) fun⟨i,lo,hi⟩ hQ=> ?_
 simp only[cA,nA]
 obtain⟨hi1,hi2,hi3,hi4,hi5,hi6,hi7⟩:=hQ
 refine a0a ⟨_,rfl⟩ ?_
 refine a0a ⟨_,rfl⟩ ?_
 refine a0f (b:=decide (((i:Nat):Int)<((k:Nat):Int))) rfl (fun hik=> ?_) (fun hik=> ?_)
 ·replace hik:=of_decide_eq_true hik
  have hT0:∀j,j<=n->0<=a0V Un.ppl us (a1D q) j i/\a0V Un.ppl us (a1D q) j i<=6000000000:=fun j hj=>by
   have:=a9j (p:=a1D q) (f:=Un.ppl) (by decide) (a8l hv) i j
   omega
  refine a0W (α:=Nat×Int) (fun⟨j,sm⟩=>[ii sm,ii (j:Nat)]) (fun⟨j,sm⟩=>j<=n/\sm=a0V Un.ppl us (a1D q) j i) (fun⟨j,sm⟩=>n-j) ((0,0)) rfl (⟨Nat.zero_le _,rfl⟩) fun⟨j,sm⟩ hQ=> ?_
  simp only[cA,nA]
  obtain⟨hj1,rfl⟩:=hQ
  refine a0j a0S rfl rfl hu3 rfl ?_
  simp only[cA,nA]
  refine a0a ⟨_,rfl⟩ ?_
  refine a0a ⟨_,rfl⟩ ?_
  refine a0f (b:=decide (((j:Nat):Int)<((a1D q).length:Nat))) rfl (fun hj2=> ?_) (fun hj2=> ?_)
  ·replace hj2:=of_decide_eq_true hj2
   have hjn:j<n:=by omega
   have hpj:(a1D q)[j]? =some ((q.getD j 0:Nat):Int):=b3P (by omega)
   obtain⟨ux,hux,_⟩:=a0t (show j<us.length by omega)
   obtain⟨uy,huy,_⟩:=a0t (show j<ul.length by omega)
   have hpp:=(hur j uy ux huy hux).ppl
   have hub:=a8l hv ux (List.mem_of_getElem? hux)
   have hTj:=hT0 j hj1
   have hTs:=c2Y (d:=i) hpj hux
   refine a0m a0S rfl rfl rfl rfl (fun _=>rfl) hu3 hpj rfl (fun _=>rfl) fun _=> ?_
   simp only[cA,nA]
   refine a0a ⟨_,rfl⟩ ?_
   refine⟨(fun l' K=>K=H3/\l'=[ii (a0V Un.ppl us (a1D q) (j+1) i)]),?_,?_⟩
   ·skip
    refine a0f (b:=decide (q.getD j 0=i)) (bEk _ _) (fun hqi=> ?_) (fun hqi=> ?_)
    ·replace hqi:=of_decide_eq_true hqi
     refine c0Y a0U b5c sc_int rfl rfl rfl rfl rfl rfl (fun _=>rfl) (fun _=>rfl) hwu huy (a0R (by rw[a2T (l:=stC n k (1+me%8) (lv%2) (wh%2) w rw' 0 0) (b5C rfl rfl rfl rfl)];rfl) rfl) (fun _=>rfl) (fun _ _=>rfl) fun _ _=> ?_
     simp only[cA,nA]
     refine a0a ⟨_,rfl⟩ ?_
     refine a0a ⟨_,rfl⟩ ?_
     exact⟨rfl,by rw[hTs,if_pos (by rw[hqi]),<-hpp];exact a1R (a3I rfl rfl (by omega) (by omega))⟩
    ·replace hqi:=of_decide_eq_false hqi
     exact⟨rfl,by rw[hTs,if_neg (by omega),Int.add_zero];rfl⟩
   rintro _ H3 _ ⟨rfl,rfl⟩
   simp only[cA,nA]
   exact⟨(j+1,a0V Un.ppl us (a1D q) (j+1) i),by show n-(j+1)<n-j;omega,(a0R rfl (a0J rfl (by omega))),⟨⟨by show j+1<=n;omega,rfl⟩,rfl⟩⟩
  ·replace hj2:=of_decide_eq_false hj2
   have hjn:j=n:=by omega
   subst hjn
   have hTn:=hT0 j (Nat.le_refl _)
   refine⟨(fun l' K=>K=H3/\l'=[.bool (decide (lo<0\/a0V Un.ppl us (a1D q) j i<lo))]),?_,?_⟩
   ·skip
    refine a0a ⟨_,rfl⟩ ?_
    refine a0f (b:=decide (lo<0)) rfl (fun h0=> ?_) (fun h0=> ?_)
    ·replace h0:=of_decide_eq_true h0
     exact⟨rfl,by rw[decide_eq_true (Or.inl h0)];rfl⟩
    ·replace h0:=of_decide_eq_false h0
     refine a0a ⟨_,rfl⟩ ?_
     exact⟨rfl,by show[Value.bool (decide (a0V Un.ppl us (a1D q) j i<lo))]=_;congr 2;exact decide_eq_decide.2 ⟨.inr,fun h=>h.resolve_left h0⟩⟩
   rintro _ H3 _ ⟨rfl,rfl⟩
   simp only[cA,nA]
   refine⟨(fun l' K=>K=H3/\l'=[ii (if lo<0\/a0V Un.ppl us (a1D q) j i<lo then a0V Un.ppl us (a1D q) j i else lo)]),?_,?_⟩
   ·skip
    refine a0a ⟨_,rfl⟩ ?_
    refine a0f (b:=decide ((lo<0\/a0V Un.ppl us (a1D q) j i<lo))) rfl (fun h0=> ?_) (fun h0=> ?_)
    ·replace h0:=of_decide_eq_true h0
     exact⟨rfl,by rw[if_pos h0];rfl⟩
    ·replace h0:=of_decide_eq_false h0
     exact⟨rfl,by rw[if_neg h0];rfl⟩
   rintro _ H3 _ ⟨rfl,rfl⟩
   simp only[cA,nA]
   refine a0l ((b3q (vs:=[ii hi,ii (a0V Un.ppl us (a1D q) j i)]) rfl rfl rfl).rds _) rfl ?_
   simp only[cA,nA]
   have hlo0:0<=(if lo<0\/a0V Un.ppl us (a1D q) j i<lo then a0V Un.ppl us (a1D q) j i else lo)/\(if lo<0\/a0V Un.ppl us (a1D q) j i<lo then a0V Un.ppl us (a1D q) j i else lo)<=a0V Un.ppl us (a1D q) j i/\(0<=lo->(if lo<0\/a0V Un.ppl us (a1D q) j i<lo then a0V Un.ppl us (a1D q) j i else lo)<=lo):=by split<;>omega
   have hhi0:a0V Un.ppl us (a1D q) j i<=(if a0V Un.ppl us (a1D q) j i>hi then a0V Un.ppl us (a1D q) j i else hi)/\hi<=(if a0V Un.ppl us (a1D q) j i>hi then a0V Un.ppl us (a1D q) j i else hi)/\(if a0V Un.ppl us (a1D q) j i>hi then a0V Un.ppl us (a1D q) j i else hi)<=6000000000:=by split<;>omega
   generalize (if lo<0\/a0V Un.ppl us (a1D q) j i<lo then a0V Un.ppl us (a1D q) j i else lo)=lo' at hlo0⊢
   generalize (if a0V Un.ppl us (a1D q) j i>hi then a0V Un.ppl us (a1D q) j i else hi)=hi' at hhi0⊢
   have hfin:∀d,d<i+1->lo'<=a0V Un.ppl us (a1D q) j d/\a0V Un.ppl us (a1D q) j d<=hi':=fun d hd=>by
    by_cases e:d=i
    ·subst e;exact⟨hlo0.2.1,hhi0.1⟩
    ·have h1:=hi7 d (by omega)
     have h2:=hlo0.2.2 (hi3 (by omega))
     omega
   exact⟨(i+1,lo',hi'),by show k-(i+1)<k-i;omega,(b2K rfl rfl (a0J rfl (by omega))),⟨⟨by show i+1<=k;omega,fun h=>absurd h (by show ¬i+1=0;omega),fun _=>hlo0.1,by show 0<=hi';omega,hhi0.2.2,by show lo'<=6000000000;omega,hfin⟩,rfl⟩⟩
 ·replace hik:=of_decide_eq_false hik
  have hik:i=k:=by omega
  subst hik
  have hlo:=hi3 (by omega)
  have hd0:=hi7 0 (by omega)
  refine a0a ⟨_,rfl⟩ ?_
  refine a0a ⟨_,rfl⟩ ?_
  refine a0l ((b3q (vs:=[ii 0,ii (lo-(le:Nat))]) rfl rfl rfl).rds _) (a0R rfl (a7R rfl (a8D (c2X rfl).1 (by assumption)) (by omega) (by omega))) ?_
  simp only[cA,nA]
  have hlm:0<=(if lo-((le:Nat):Int)>0 then lo-((le:Nat):Int)else 0)/\(if lo-((le:Nat):Int)>0 then lo-((le:Nat):Int)else 0)<=lo:=by split<;>omega
  refine a0a (el_int.vcells _) ?_
  refine a0a ⟨_,rfl⟩ ?_
  refine a0a ⟨_,rfl⟩ ?_
  refine a0a (by show(D prog _ d3A).cells.size=12/\a0p (D prog _ d3A).cells;rw[c8H rfl rfl rfl rfl hmo rfl rfl (by omega)];exact a3D (a0I hw) hro.one) ?_
  have hwt:∀d,d<i->(if lo-((le:Nat):Int)>0 then lo-((le:Nat):Int)else 0)<=a0V Un.ppl us (a1D q) n d/\a0V Un.ppl us (a1D q) n d<=hi+(mo:Nat):=fun d hd=>by have:=hi7 d hd;omega
  have hpe':∀v,1<=v->v<q.length->(a6U ps v,v)∈es:=fun v h1 h2=>hpe v h1 (by omega)
  exact a0c (by show Value.tuple #[D prog _ d3A,_]=_;rw[c8H rfl rfl rfl rfl hmo rfl rfl (by omega)];rfl) ⟨l12.trans l3,n,i,1+me%8,lv%2,wh%2,w,rw',u,_,_,es,us,a1D q,rfl,⟨hT.mono (l12.trans l3),hw.mono l3,hro⟩,⟨by omega,hg,hv,⟨by omega,by omega⟩,by omega,by omega,Nat.mod_lt _ (by decide),Nat.mod_lt _ (by decide),d7z hv ⟨by omega,by omega⟩ hlm.1 (by omega)⟩,hu3,⟨hP.plOk hql,hP.fit (by decide) hpe' hql (by omega) hle hwt⟩,hP.pos hpe' hql (by omega) hle hwt⟩
end
end Go.Proofs.YtlmgkkjgdapnpaaGreatDoor

/- Ensembles: Extreme. -/
import Derived.Test.YtlmgkkjgdapnpaaGreatDoorGiD
import Derived.Laws.Build
namespace Go.GS
def a5F (g:Bool) (l:List Rat):Nat->Rat
 |0=>0
 |i+1=>if i=0 then(l[0]?).getD 0 else if a8E g ((l[i]?).getD 0) (a5F g l i)then(l[i]?).getD 0 else a5F g l i
end Go.GS
namespace Go.Proofs.YtlmgkkjgdapnpaaGreatDoor
open Go.Proofs.Tryz
open Go.RowKit Go.RX Go.GS Go.RZ Go.WD
set_option maxRecDepth 100000
theorem b5D {g:Bool} {l:List Rat}:∀i,0<i->i<=l.length->a5F g l i∈l:=by
 intro i
 induction i with
 |zero=>intro h;omega
 |succ i ih=>
  intro _ hi
  have hat:∀j,j<l.length->(l[j]?).getD 0∈l:=fun j hj=>by rw[List.getElem?_eq_getElem hj];exact List.getElem_mem hj
  show(if i=0 then _ else _)∈l
  split
  ·exact hat 0 (by omega)
  ·split
   ·exact hat i (by omega)
   ·exact ih (by omega) (by omega)
section
variable {H B:PH} {n k ms lv who:Nat} {es:List (Nat×Nat)} {us:List Un} {w rw wts u v:Value} {lo hi:Int} {b i:Nat} {p:List Int} {l:List Rat}
theorem d3g:∃rc:Array Value,rc.size=16/\a0p rc/\(a0G prog 140).cells= #[.slice none 0 0]++rc:=⟨Array.replicate 16 (.int .u64 0),rfl,fun c hc=>by rw[Array.toList_replicate]at hc;rw[List.eq_of_mem_replicate hc];rfl,by kernel_rfl⟩
theorem c7p:(a0G prog 61).cells.size=16:=by kernel_rfl
theorem d7B {ρ:List Value} {a c:SV} {x:Value} {r:Rat} (ha:D prog ρ a=x) (hx:x.cells= #[x]) (hc:D prog ρ c=shR r):D prog ρ (.put (.cat a 1 (.z 61)) 1 16 (.ag c) 0 noI)= .agg (x::(shw r).toList).toArray:=by
 show Value.agg (spl (Value.agg ((D prog ρ a).cells++(a0G prog 61).cells)).cells (1+0*a2G (D prog ρ noI)) (Value.agg (D prog ρ c).cells).cells.toList)=_
 have hz:=c7p
 rw[ha,hx,hc,a2g]
 generalize (a0G prog 61).cells=z at hz
 show Value.agg (spl (#[x]++z) (1+0*a2G (D prog ρ noI)) (shw r).toList)=_
 have hs:=a0Q r
 rw[Nat.zero_mul,Nat.add_zero,a7f (by simp;omega)]
 congr 1
 apply Array.ext'
 simp[hs,hz]
def FoS (R H:PH) (f n:Nat) (gb:Bool) (l:List Rat) (i:Nat):Prop:=∃(pl:Value) (rc:Array Value) (q:List Int),H f=some (.cells (#[pl]++rc) 140 (0,0))/\rc.size=16/\a0p rc/\SI R pl q/\(q.length=0↔i=0)/\(0<i->rc=shw (a5F gb l i))
theorem c8I:Ag prog 140 17:=⟨by kernel_rfl,by kernel_rfl,by kernel_rfl⟩
theorem d3h (f:FuncId) (caps:Array Value):(Value.func (.func f) #[] caps).cells.size=1/\a0p (Value.func (.func f) #[] caps).cells:=⟨rfl,fun c hc=>by simp[Value.cells]at hc;subst hc;rfl⟩
theorem b0G (x:Value) (rc:Array Value):(x::rc.toList).toArray= #[x]++rc:=by apply Array.ext';simp
theorem c2Z {gp c0:Nat} {gb:Bool} (hg:H gp=some (.cells #[.bool gb] 4 (0,0))) (hs:H c0=some (.cells (stC n k ms lv who w rw lo hi).toArray 37 (0,0))) (hM:StM H w rw es us) (hS:StOk n k ms lv who es us lo hi) (hz:ms=1->a3n us n=true) (hp:0<a2R n k es us lo hi) (hN:a2R n k es us lo hi<=400) (hr:∀r∈vlL n k ms lv who es us lo hi,Rg r):
  Con prog 54 [.pointer (some ⟨gp,0,none⟩),.pointer (some ⟨c0,0,none⟩)] H fun r H'=>PH.le H H'/\∃pl q,r= .agg (pl::(shw (a5F gb (vlL n k ms lv who es us lo hi) (a2R n k es us lo hi))).toList).toArray/\SI H' pl q:=by
 refine a0b mixed c6Q (by kernel_rfl) rfl ?_
 obtain⟨rc0,hrc,hrone,hzf⟩:=d3g
 refine a0A (cs:= #[Value.slice none 0 0]++rc0) hzf fun f hf=> ?_
 simp only[cA,nA]
 have lf:=PH.le_put hf (.cells (#[.slice none 0 0]++rc0) 140 (0,0))
 have hff:=PH.put_self H f (.cells (#[.slice none 0 0]++rc0) 140 (0,0))
 generalize H.put f (.cells (#[.slice none 0 0]++rc0) 140 (0,0))=H1 at lf hff⊢
 refine a0O (a0z (vs:=[.pointer (some ⟨f,0,none⟩),.pointer (some ⟨gp,0,none⟩)]) rfl rfl) rfl ?_
 simp only[cA,nA]
 refine a0a (d3h _ _) ?_
 refine a0N (vs:=(stC n k ms lv who w rw lo hi)) b2A rfl rfl (lf _ _ hs) rfl (show 0+12<=12 by decide) rfl ?_
 simp only[cA,nA]
 refine b5w (b0z hM hS hz) lf rfl fun v5 X1 H2 a1 w1 b1 c1 d1=> ?_
 simp only[cA,nA]
 obtain⟨b,wts,rfl,hW⟩:=w1
 refine b5w (b5v hW hS hp) b1 rfl fun v6 X2 H3 a2 w2 b2 c2 d2=> ?_
 simp only[cA,nA]
 obtain⟨z,c,lv',m,rfl,hA⟩:=w2
 have hX1g:X1 f=none:=d1 f (by rw[hff];exact fun h=>nomatch h) hf
 have hX2g:X2 f=none:=d2 f (by rw[c1 _ _ hff];exact fun h=>nomatch h) hX1g
 have hg2:X2 gp=some (.cells #[.bool gb] 4 (0,0)):=a2 _ _ (a1 _ _ hg)
 have hF0:FoS X2 H3 f n gb (vlL n k ms lv who es us lo hi) 0:=⟨.slice none 0 0,rc0,[],c2 _ _ (c1 _ _ hff),hrc,hrone,SE.nil _ _ _,by simp,fun h=>absurd h (by omega)⟩
 have hml:m.length=a2R n k es us lo hi:=hA.len
 rw[<-PH.or_nil H3]
 refine a5q (X:=H3) (K:=PH.nil) (Ro:=X2) (fun pre vals X'=>vals=[]/\PH.le X2 X'/\FoS X2 X' f n gb (vlL n k ms lv who es us lo hi) pre.length) (fun _ _ _=>False) (b2z hA hS hz (fun i hi=>b0A hi) (by omega)) b2y (a5p _) rfl (fun _ _ _ h=>h.2.1) ⟨rfl,b2,hF0⟩ ?_ ?_ ?_
 ·rintro pre xs vals X' ⟨s,hs,rfl⟩ _ ⟨rfl,lX,hF⟩
  refine⟨rfl,?_⟩
  simp only[cA,nA]
  have hpm:pre.length<a2R n k es us lo hi:=by have:=(List.getElem?_eq_some_iff.1 hs).1;omega
  have hat:=c2r (ms:=ms) (lv:=lv) (who:=who) hpm
  have hrv:=hr _ (List.mem_of_getElem? hat)
  have hsn:=hA.at' _ s hs
  have hpk:=b0A hpm
  have hn1:=hS.gv.n1
  generalize hvv:a9m n es us k ms lv who (b2P n k es us lo hi pre.length)=vv at hat hrv
  obtain⟨pl,rc,q,hfX,hrs,hro,hq,hq0,hrb⟩:=hF
  have hb1:a5F gb (vlL n k ms lv who es us lo hi) (pre.length+1)=if pre.length=0 then vv else if a8E gb vv (a5F gb (vlL n k ms lv who es us lo hi) pre.length)then vv else a5F gb (vlL n k ms lv who es us lo hi) pre.length:=by
   show(if pre.length=0 then _ else _)=_
   by_cases h:pre.length=0
   ·rw[if_pos h,if_pos h];rw[h]at hat;rw[hat];rfl
   ·rw[if_neg h,if_neg h,hat];rfl
  refine a0a (a0s _ _) ?_
  refine⟨(fun vals H2=>vals=[.bool (decide (pre.length=0)||a8E gb vv (a5F gb (vlL n k ms lv who es us lo hi) pre.length))]/\PH.le X' H2),?_,?_⟩
  ·skip
   refine a0i d5R rfl rfl rfl ?_
   simp only[cA,nA]
   refine a0g (u:=pl) a1Q rfl rfl hfX (by rw[Array.getElem?_append_left (by simp)];rfl) rfl ?_
   simp only[cA,nA]
   refine a0j a0S rfl rfl (hq.mono lX) rfl ?_
   simp only[cA,nA]
   refine a0a ⟨_,rfl⟩ ?_
   refine a0f (b:=decide (q.length=0)) (bE0 _) (fun h0=> ?_) (fun h0=> ?_)
   ·replace h0:=of_decide_eq_true h0
    exact⟨by rw[decide_eq_true (hq0.1 h0)];rfl,PH.le.refl _⟩
   ·replace h0:=of_decide_eq_false h0
    have hi0:0<pre.length:=Nat.pos_of_ne_zero fun e=>h0 (hq0.2 e)
    refine a0n (a0D (f:=55) (caps:= #[.pointer (some ⟨f,0,none⟩),.pointer (some ⟨gp,0,none⟩)]) (vs:=[shR vv]) rfl rfl rfl c2U (b6Q (pl:=pl) (by rw[hfX,hrb hi0];rfl) (lX _ _ hg2) hrv (hr _ (b5D _ hi0 (by rw[a3E];omega))))) (a0R (a1a rfl rfl) rfl) ?_
    rintro _ H5 ⟨l5,rfl⟩
    refine⟨fun h=>(nomatch h),?_⟩
    simp only[cA,nA]
    exact⟨by rw[decide_eq_false (show ¬pre.length=0 by omega)];rfl,l5⟩
  rintro vals H4 _ ⟨rfl,l4⟩
  simp only[cA,nA]
  refine a0a ⟨_,rfl⟩ ?_
  refine a0f (b:=decide (pre.length=0)||a8E gb vv (a5F gb (vlL n k ms lv who es us lo hi) pre.length)) rfl (fun hbt=> ?_) (fun hbt=> ?_)
  ·skip
   refine a0a ((hsn.mono lX).one) ?_
   refine a4V (vs:=(List.cons (vs s) (shw vv).toList)) (by rw[List.length_cons,Array.length_toList,a0Q];exact c8I) rfl rfl rfl (l4 _ _ hfX) (by simp[hrs]) (fun c hc=>(List.mem_cons.1 hc).elim (fun e=>by rw[e];rfl) (fun h=>a4e vv c h)) (a0R rfl (d7B rfl rfl rfl)) (fun h=>nomatch h) ?_
   simp only[cA,nA]
   have e9:=b0G (vs s) (shw vv)
   rw[e9]
   have hbe:a5F gb (vlL n k ms lv who es us lo hi) (pre.length+1)=vv:=by
    rw[hb1]
    by_cases h:pre.length=0
    ·rw[if_pos h]
    ·rw[if_neg h]
     rw[decide_eq_false h,Bool.false_or]at hbt
     rw[if_pos hbt]
   have lP:PH.le X2 (H4.put f (.cells (#[vs s]++shw vv) 140 (0,0))):=fun b' ob' hbb=>by rw[PH.put_ne _ _ (fun e=>by subst e;rw[hX2g]at hbb;cases hbb)];exact l4 _ _ (lX _ _ hbb)
   exact⟨rfl,lP,by rw[List.length_append];exact⟨vs s,shw vv,_,PH.put_self _ _ _,a0Q _,a4e _,hsn,⟨fun h=>by have:=hpk.len;omega,fun h=>by simp at h⟩,fun _=>by show shw vv=shw (a5F gb _ (pre.length+1));rw[hbe]⟩⟩
  ·skip
   have hbf:¬pre.length=0/\a8E gb vv (a5F gb (vlL n k ms lv who es us lo hi) pre.length)=false:=by
    rw[Bool.or_eq_false_iff]at hbt
    exact⟨of_decide_eq_false hbt.1,hbt.2⟩
   have hbe:a5F gb (vlL n k ms lv who es us lo hi) (pre.length+1)=a5F gb (vlL n k ms lv who es us lo hi) pre.length:=by rw[hb1,if_neg hbf.1,hbf.2];rfl
   exact⟨rfl,lX.trans l4,by rw[List.length_append];exact⟨pl,rc,q,l4 _ _ hfX,hrs,hro,hq,⟨fun h=>absurd (hq0.1 h) hbf.1,fun h=>by simp at h⟩,fun _=>by show rc=shw (a5F gb _ (pre.length+1));rw[hbe];exact hrb (by omega)⟩⟩
 ·rintro xs vals X' K' hxn hd _ ⟨rfl,lX,hF⟩
  simp only[cA,nA]
  have hxl:xs.length=a2R n k es us lo hi:=by omega
  rw[hxl]at hF
  obtain⟨pl,rc,q,hfX,hrs,hro,hq,hq0,hrb⟩:=hF
  have hfK:(X'.or K') f=some (.cells (#[pl]++rc) 140 (0,0)):=PH.le_or X' K' _ _ hfX
  have hlr:(pl::rc.toList).length=17:=by simp[hrs]
  have hagr:Ag prog 140 (pl::rc.toList).length:=by rw[hlr];exact c8I
  obtain⟨_,ap,cp,rfl,_⟩:=id hq
  refine a0N (vs:=(List.cons (Value.slice ap q.length cp) rc.toList)) hagr rfl rfl hfK (by simp[List.take_of_length_le]) (by simp;omega) rfl ?_
  simp only[cA,nA]
  refine a4V (vs:=(List.cons (Value.slice ap q.length cp) rc.toList)) hagr rfl rfl rfl hfK (by simp;omega) (fun c hc=>(List.mem_cons.1 hc).elim (fun e=>by rw[e];rfl) (fun h=>hro c h)) rfl (fun h=>nomatch h) ?_
  simp only[cA,nA]
  have hf9:=PH.put_self (X'.or K') f (.cells (.slice ap q.length cp::rc.toList).toArray 140 (0,0))
  refine a0N (vs:=(List.cons (Value.slice ap q.length cp) rc.toList)) hagr a6b rfl hf9 (by simp[List.take_of_length_le]) (by simp) rfl ?_
  simp only[cA,nA]
  have lE:PH.le X2 ((X'.or K').put f (.cells (.slice ap q.length cp::rc.toList).toArray 140 (0,0))):=fun b' ob' hbb=>by rw[PH.put_ne _ _ (fun e=>by subst e;rw[hX2g]at hbb;cases hbb)];exact PH.le_or X' K' _ _ (lX _ _ hbb)
  exact a0c rfl ⟨a1.trans (a2.trans lE),.slice ap q.length cp,q,by rw[<-hrb hp];rfl,hq.mono lE⟩
 ·exact fun _ _ _ _ _ _ _ h=>h.elim
end
end Go.Proofs.YtlmgkkjgdapnpaaGreatDoor
/- Ensembles: Extreme. -/
namespace Go.Proofs.YtlmgkkjgdapnpaaGreatDoor
open Go.Proofs.Tryz
open Go.RowKit Go.RX Go.GS Go.RZ Go.WD
set_option maxRecDepth 100000
section
variable {H B:PH} {n k ms lv who:Nat} {es:List (Nat×Nat)} {us:List Un} {w rw wts u v:Value} {lo hi:Int} {b i:Nat} {p:List Int} {l:List Rat}
theorem c3a:a1q prog 54=true:=by kernel_rfl
theorem d7C:c0B prog 53 110 140 44 20 ((prog.funcs[53]?).getD default) ((prog.funcs[110]?).getD default) (a6w ((prog.funcs[110]?).getD default).body):=⟨by kernel_rfl,by kernel_rfl,by kernel_rfl,by kernel_rfl,by kernel_rfl,by kernel_rfl,by kernel_rfl,by kernel_rfl,by kernel_rfl,by kernel_rfl⟩
theorem d8F:CcT prog 140 44 (.agg (#[.slice none 0 0]++Array.replicate 16 (.int .u64 0))):=⟨by kernel_rfl,by kernel_rfl,by kernel_rfl,by kernel_rfl,by kernel_rfl,by kernel_rfl,by kernel_rfl,fun h=>absurd (show a0F prog 140=true by kernel_rfl) (by rw[h];decide)⟩
def foV (pl:Value) (r:Rat):Value:= .agg (#[pl]++shw r)
theorem b3T {pl:Value} (h:a3G pl=true) (r:Rat):(foV pl r).cells.size=17/\a0p (foV pl r).cells:=⟨by show(#[pl]++shw r).size=17;rw[Array.size_append,a0Q];rfl,a2k (fun c hc=>by simp at hc;subst hc;exact h) (a4e r)⟩
theorem d8G {pl:Value} (h:a3G pl=true) (r:Rat):(foV pl r).cells.size=prog.cellsOf 140/\a0p (foV pl r).cells/\rdV prog 140 (foV pl r).cells=foV pl r:=by
 have h1:a0F prog 140=true:=by kernel_rfl
 have h2:prog.cellsOf 140=17:=by kernel_rfl
 refine⟨by rw[h2];exact(b3T h r).1,(b3T h r).2,?_⟩
 unfold rdV;rw[h1];rfl
theorem d7D (pl:Value) (r:Rat):Value.agg ((#[pl]++shw r).extract 1 17)=shR r:=by
 rw[a3m]
 congr 1
 apply Array.ext'
 have:=a0Q r
 simp[List.take_of_length_le,this]
theorem d8H {ρ:List Value} {x:SV} {pl t:Value} {r:Rat} (hx:D prog ρ x= .tuple #[.agg (#[pl]++shw r),t]):[SV.cell (.proj x 0) 0 0 noI,.sub (.proj x 0) 1 16 0 noI,.proj x 1].map (D prog ρ)=[pl,shR r,t]:=by
 have e0:D prog ρ (.proj x 0)= .agg (#[pl]++shw r):=by
  simp only[D,hx];rfl
 have e1:D prog ρ (.proj x 1)=t:=by
  simp only[D,hx];rfl
 have e2:D prog ρ (.cell (.proj x 0) 0 0 noI)=pl:=by
  show(D prog ρ (.proj x 0)).cells.getD (0+0*a2G (D prog ρ noI)) undef=_
  rw[e0,Nat.zero_mul,a1e]
  simp
 have e3:D prog ρ (.sub (.proj x 0) 1 16 0 noI)=shR r:=by
  show Value.agg ((D prog ρ (.proj x 0)).cells.extract (1+0*a2G (D prog ρ noI)) (1+0*a2G (D prog ρ noI)+16))=_
  rw[e0,Nat.zero_mul,<-d7D pl r]
  rfl
 rw[List.map_cons,List.map_cons,List.map_cons,List.map_nil,e2,e3,e1]
theorem b5E {gb:Bool} (hM:StM H w rw es us) (hS:StOk n k ms lv who es us lo hi) (hz:ms=1->a3n us n=true) (hp:0<a2R n k es us lo hi) (hN:a2R n k es us lo hi<=400) (hr:∀r∈vlL n k ms lv who es us lo hi,Rg r):
  Con prog 12 [stV n k ms lv who w rw lo hi,.bool gb] H fun r H'=>PH.le H H'/\∃pl,r= .tuple #[pl,shR (a5F gb (vlL n k ms lv who es us lo hi) (a2R n k es us lo hi)),ii 0]:=by
 refine a0b mixed d2Q (by kernel_rfl) rfl ?_
 refine a0a (a3D (a0I hM.gr) hM.ro.one) ?_
 refine a0A (cs:=(stC n k ms lv who w rw lo hi).toArray) rfl fun a ha=> ?_
 simp only[cA,nA]
 have la:=PH.le_put ha (.cells (stC n k ms lv who w rw lo hi).toArray 37 (0,0))
 refine a0a (a9k rfl rfl) ?_
 refine a0A (cs:= #[.bool gb]) rfl fun c hc=> ?_
 simp only[cA,nA]
 have lc:=PH.le_put hc (.cells #[.bool gb] 4 (0,0))
 refine a0O (a0z (vs:=[.pointer (some ⟨c,0,none⟩),.pointer (some ⟨a,0,none⟩)]) rfl rfl) rfl ?_
 simp only[cA,nA]
 refine a0d (a1B (caps:=[.pointer (some ⟨c,0,none⟩),.pointer (some ⟨a,0,none⟩)]) mixed d7C d8F c3a (c2Z (gb:=gb) (PH.put_self _ _ _) (lc _ _ (PH.put_self _ _ _)) (hM.mono (la.trans lc)) hS hz hp hN hr) (fun _ _ h=>by obtain⟨_,pl,q,rfl,hq⟩:=h;rw[b0G];exact d8G (a0I hq) _)) rfl ?_
 rintro _ H4 ⟨t,⟨l4,pl,q,rfl,hq⟩,rfl⟩
 refine⟨fun h=>(nomatch h),?_⟩
 simp only[cA,nA]
 rw[b0G pl (shw _)]
 refine a0a ⟨_,rfl,by simp⟩ ?_
 refine a0a ⟨_,rfl,by simp⟩ ?_
 refine a0a (b3T (a0I hq) _) ?_
 exact a0c (by rw[d8H rfl];rfl) ⟨(la.trans lc).trans l4,pl,rfl⟩
end
end Go.Proofs.YtlmgkkjgdapnpaaGreatDoor
/- Ensembles: values are shares. -/
namespace Go.Proofs.YtlmgkkjgdapnpaaGreatDoor
open Go.Proofs.Tryz
open Go.RowKit Go.RX Go.GS Go.RZ Go.WD
set_option maxRecDepth 100000
section
variable {H B:PH} {n k ms lv who:Nat} {es:List (Nat×Nat)} {us:List Un} {lo hi:Int} {p:List Int}
theorem d3i (hv:RoV n us) (hk:1<=k/\k<=8) (hz:a5B us n≠0):Rb 100 (c6q us p k n):=by
 have h64:=hv.l64
 have hle:=hv.le
 have hps:=b1Y hv.un n
 have hmx:=b4X _ _ (b3M (p:=p) hv 0) (a6a (p:=p) (k:=k) hv)
 have hmn:=b4W _ _ (b3M (p:=p) hv 0) (a6a (p:=p) (k:=k) hv)
 unfold c6q
 generalize b2O (a0V Un.ppl us p n 0) (a2j Un.ppl us p k n)=g at hmx
 generalize b2N (a0V Un.ppl us p n 0) (a2j Un.ppl us p k n)=l at hmn
 have hp40:(2:Nat)^40=1099511627776:=by decide
 have b1:Rb 40 ((g-l:Int):Rat):=⟨by rw[Rat.num_intCast];omega,by rw[Rat.den_intCast];omega⟩
 have b2:Rb 40 (Rat.divInt (a5B us n) (k:Nat)):=a5o (by omega) (by omega) (by omega)
 exact c8d b1 b2 (b2c hz (by omega)) (by decide)
theorem c3b (hv:RoV n us) (hg:GV n es) (hk:1<=k/\k<=8) (hM:d3y n us ms lv who):Rg (a9m n es us k ms lv who p):=by
 have hp62:(2:Nat)^62=4611686018427387904:=by decide
 obtain⟨h1,h8,hl,hw,hz⟩:=hM
 match ms,h1,h8,hz with
 |1,_,_,hz=>exact b3w (d3i hv hk (hz rfl)) (by decide)
 |2,_,_,_=>
  have:=b4X _ _ (b3M (p:=p) hv 0) (a6a (p:=p) (k:=k) hv)
  exact a6x (by omega)
 |3,_,_,_=>
  have:=b3J (es:=es) (p:=p)
  have:=hg.len
  exact a6x (by omega)
 |4,_,_,_=>
  have:=b4W _ _ (b3M (p:=p) hv 0) (a6a (p:=p) (k:=k) hv)
  exact a6x (by omega)
 |5,_,_,_=>
  have:=c8n (us:=us) (p:=p) (lv:=lv) (n:=n)
  exact a6x (by omega)
 |6,_,_,_=>
  have:=c8o (us:=us) (p:=p) (lv:=lv) (n:=n)
  exact a6x (by omega)
 |7,_,_,_=>
  have hmb:c8l us p k n who<=k:=by
   unfold c8l
   refine Nat.le_trans List.countP_le_length ?_
   rw[List.length_range];exact Nat.le_refl _
  exact a6x (by omega)
 |8,_,_,_=>
  have hmb:c8m us p k n who<=k:=by
   unfold c8m
   refine Nat.le_trans List.countP_le_length ?_
   rw[List.length_range];exact Nat.le_refl _
  exact a6x (by omega)
theorem c8J (hS:StOk n k ms lv who es us lo hi) (hz:ms=1->a3n us n=true):∀r∈vlL n k ms lv who es us lo hi,Rg r:=fun r hr=>by
 obtain⟨i,_,rfl⟩:=List.mem_map.1 hr
 exact c3b hS.rv hS.gv hS.hk (hS.mok hz)
theorem b5F (hS:StOk n k ms lv who es us lo hi):a2R n k es us lo hi<=400:=b1U hS.n6 hS.hk.2
theorem d3j {g:Bool} {l:List Rat}:∀i,i<=l.length->∀j,j<i->a8E g ((l[j]?).getD 0) (a5F g l i)=false:=by
 intro i
 induction i with
 |zero=>intro _ j h;omega
 |succ i ih=>
  intro hi j hj
  have irr:∀a,a8E g a a=false:=fun a=>by unfold a8E;cases g<;>simp[Rat.lt_irrefl]
  have tr:∀a b c,a8E g a b=false->a8E g c b=true->a8E g a c=false:=fun a b c h1 h2=>by
   unfold a8E at*
   cases g with
   |true=>
    simp only[Bool.true_and,Bool.not_true,Bool.false_and,Bool.or_false,decide_eq_false_iff_not,decide_eq_true_iff]at*
    exact fun e=>h1 (by grind)
   |false=>
    simp only[Bool.false_and,Bool.not_false,Bool.true_and,Bool.false_or,decide_eq_false_iff_not,decide_eq_true_iff]at*
    exact fun e=>h1 (by grind)
  have e:a5F g l (i+1)=if i=0 then(l[0]?).getD 0 else if a8E g ((l[i]?).getD 0) (a5F g l i)then(l[i]?).getD 0 else a5F g l i:=rfl
  rw[e]
  by_cases h0:i=0
  ·rw[if_pos h0]
   have:j=0:=by omega
   subst this
   exact irr _
  ·rw[if_neg h0]
   by_cases hb:a8E g ((l[i]?).getD 0) (a5F g l i)=true
   ·rw[if_pos hb]
    by_cases hji:j=i
    ·subst hji;exact irr _
    ·exact tr _ _ _ (ih (by omega) j (by omega)) hb
   ·rw[if_neg hb]
    by_cases hji:j=i
    ·subst hji;simpa using hb
    ·exact ih (by omega) j (by omega)
theorem c7q {l:List Rat} {m:List MaT} (hT:TalP l m) (h0:l≠[]):(∀x,m[0]? =some x->x.1.1=a5F false l l.length)/\∀x,m[m.length-1]? =some x->x.1.1=a5F true l l.length:=by
 have hl:0<l.length:=List.length_pos_iff.2 h0
 have hin:∀g,a5F g l l.length∈m.map fun q=>q.1.1:=fun g=>hT.mem.2 (b5D _ hl (Nat.le_refl _))
 have hbest:∀g r,r∈l->a8E g r (a5F g l l.length)=false:=fun g r hr=>by
  obtain⟨j,hj⟩:=List.getElem?_of_mem hr
  have:=d3j (g:=g) (l:=l) l.length (Nat.le_refl _) j (List.getElem?_eq_some_iff.1 hj).1
  rw[hj]at this
  exact this
 have hasc:∀i j (x y:MaT),m[i]? =some x->m[j]? =some y->i<j->x.1.1<y.1.1:=fun i j x y hx hy hij=>by
  obtain⟨h1,rfl⟩:=List.getElem?_eq_some_iff.1 hx
  obtain⟨h2,rfl⟩:=List.getElem?_eq_some_iff.1 hy
  exact List.pairwise_iff_getElem.1 hT.1 i j h1 h2 hij
 constructor
 ·intro x hx
  obtain⟨y,hy,hye⟩:=List.mem_map.1 (hin false)
  obtain⟨j,hj⟩:=List.getElem?_of_mem hy
  have hb:=hbest false x.1.1 (hT.mem.1 (List.mem_map.2 ⟨x,List.mem_of_getElem? hx,rfl⟩))
  unfold a8E at hb
  simp only[Bool.false_and,Bool.not_false,Bool.true_and,Bool.false_or,decide_eq_false_iff_not]at hb
  by_cases h:j=0
  ·subst h;rw[hx]at hj;injection hj with hj;rw[hj];exact hye
  ·exact absurd (hye ▸ hasc 0 j x y hx hj (by omega)) hb
 ·intro x hx
  obtain⟨y,hy,hye⟩:=List.mem_map.1 (hin true)
  obtain⟨j,hj⟩:=List.getElem?_of_mem hy
  have hjl:=(List.getElem?_eq_some_iff.1 hj).1
  have hb:=hbest true x.1.1 (hT.mem.1 (List.mem_map.2 ⟨x,List.mem_of_getElem? hx,rfl⟩))
  unfold a8E at hb
  simp only[Bool.true_and,Bool.not_true,Bool.false_and,Bool.or_false,decide_eq_false_iff_not]at hb
  by_cases h:j=m.length-1
  ·subst h;rw[hx]at hj;injection hj with hj;rw[hj];exact hye
  ·exact absurd (hye ▸ hasc j (m.length-1) y x hj hx (by omega)) hb
end
end Go.Proofs.YtlmgkkjgdapnpaaGreatDoor
/- Ensembles: the panic of a study in which nobody lives. -/
namespace Go.RX
open Go.RowKit
theorem b3U {P:Program} {o:Oper} {x:Operand} {v:Value} {T:TypeId} (ho:o.op= .makeInterface T x) (hx:a0k [x] [v] x=v) (hc:P.concrete T=true):Yld P o [v] (.iface T v):=fun w=>by
 have hos:o.op.operands.toList=[x]:=by simp[ho,Op.operands]
 rw[hos]
 simp only[execOp,ho,hx,Sem.run_bind,Go.run_makeInterface _ _ _ hc,Result.andThen_ok]
 rfl
end Go.RX
namespace Go.Proofs.YtlmgkkjgdapnpaaGreatDoor
open Go.Proofs.Tryz
open Go.RowKit Go.RX Go.GS Go.RZ Go.WD
set_option maxRecDepth 100000
section
variable {H B:PH} {n k ms lv who:Nat} {es:List (Nat×Nat)} {us:List Un} {w rw wts:Value} {lo hi:Int} {b:Nat} {lived:Bool}
def d3k (e:Int):Value:= .iface 152 (.agg #[ii e])
theorem c3c {e:Int} (he:e≠0):c4a prog 52 [ii e] H (fun _ _=>False) fun x H'=>PH.le H H'/\x=d3k e:=by
 refine a2b mixed c1M (by kernel_rfl) rfl ?_
 refine a0a ⟨_,rfl⟩ ?_
 refine a0K (by show Value.bool (e !=0)=_;rw[bN];exact bT he) ?_
 refine a0a (el_int.vcells _) ?_
 refine a0l ((b3U (v:= .agg #[ii e]) rfl rfl (by kernel_rfl)).rds _) rfl ?_
 simp only[cA,nA]
 exact c4b (b5V (T:=152) (u:= .agg #[ii e]) rfl rfl) rfl (fun _ _ h=>h.elim) ((fun x H' h=>⟨by rw[h.2];exact PH.le.refl _,h.1⟩))
theorem c3d {e:Int} (he:e≠0):c4a prog 47 [.bool true,ii e] H (fun _ _=>False) fun x H'=>PH.le H H'/\x=d3k e:=by
 refine a2b mixed c1L (by kernel_rfl) rfl ?_
 refine a0a ⟨_,rfl⟩ ?_
 refine a0K rfl ?_
 exact a5g (c3c he) rfl (fun _ _ h=>h.elim) ((fun x H' h=>h))
theorem c3e (hb:H b=some (.cells (woC n k 1 lv who w rw lo hi wts false) 134 (0,0))):c4a prog 67 [.pointer (some ⟨b,0,none⟩)] H (fun _ _=>False) fun x H'=>PH.le H H'/\x=d3k 7:=by
 refine a2b mixed c1O (by kernel_rfl) rfl ?_
 refine a0u (ad:=⟨b,0,none⟩) rfl rfl rfl ?_
 simp only[cA,nA]
 refine a0i a1H rfl rfl rfl ?_
 simp only[cA,nA]
 refine a0i b2w rfl rfl rfl ?_
 simp only[cA,nA]
 refine a0g sc_int rfl rfl hb rfl rfl ?_
 simp only[cA,nA]
 refine a0n (a0D (f:=117) (caps:= #[]) (vs:=[ii ((1:Nat):Int),ii ((9:Nat):Int)]) rfl rfl rfl a3o (a3p (b:=9) (by omega))) rfl ?_
 rintro _ _ ⟨rfl,rfl⟩
 refine⟨fun h=>(nomatch h),?_⟩
 simp only[cA,nA]
 refine a0u (ad:=⟨b,0,none⟩) rfl rfl rfl ?_
 simp only[cA,nA]
 refine a0i a1H rfl rfl rfl ?_
 simp only[cA,nA]
 refine a0i b2w rfl rfl rfl ?_
 simp only[cA,nA]
 refine a0g sc_int rfl rfl hb rfl rfl ?_
 simp only[cA,nA]
 refine a0a ⟨_,rfl⟩ ?_
 refine a0e rfl ?_
 refine a0K rfl ?_
 refine a0u (ad:=⟨b,0,none⟩) rfl rfl rfl ?_
 simp only[cA,nA]
 refine a0i a6z rfl rfl rfl ?_
 simp only[cA,nA]
 refine a0g a3J rfl rfl hb rfl rfl ?_
 simp only[cA,nA]
 refine a0a ⟨_,rfl⟩ ?_
 exact a5g (c3d (e:=7) (by decide)) rfl (fun _ _ h=>h.elim) ((fun x H' h=>h))
set_option maxHeartbeats 400000 in
theorem c3f (hM:StM H w rw es us) (hS:StOk n k ms lv who es us lo hi) (hms:ms=1) (hlf:a3n us n=false):c4a prog 20 [stV n k ms lv who w rw lo hi] H (fun _ _=>False) fun x H'=>PH.le H H'/\x=d3k 7:=by
 refine a2b mixed c1N (by kernel_rfl) rfl ?_
 have hv:=hS.rv
 have hle:=hv.le
 have h64:=hv.l64
 have hn6:=hS.n6
 obtain⟨ul,hwu,hlen,hun⟩:=id hM.ro
 refine a0a (a3D (a0I hM.gr) hM.ro.one) ?_
 refine a0h (a2f hM.gr hS.gv) rfl fun H1 l1=> ?_
 simp only[cA,nA]
 refine a0q (a3C) rfl ?_
 simp only[cA,nA]
 refine a0h (a3k (hM.ro.mono l1) hv) rfl fun H2 l2=> ?_
 simp only[cA,nA]
 refine a0q (a3C) rfl ?_
 simp only[cA,nA]
 have l02:=l1.trans l2
 refine a0a (el_int.vcells _) ?_
 refine a0a (el_int.vcells _) ?_
 refine a0a (el_int.vcells _) ?_
 refine a0a (c2o (lo:=lo) (hi:=hi) (k:=k) rfl rfl rfl) ?_
 refine a0A (cs:=woC n k ms lv who w rw lo hi (.slice none 0 0) false) (c8y (ms:=ms) (lv:=lv) (who:=who) (w:=w) (rw:=rw) (n:=n) (lo:=lo) (hi:=hi) (k:=k) rfl rfl rfl rfl) fun b hb=> ?_
 simp only[cA,nA]
 have lb:=PH.le_put hb (.cells (woC n k ms lv who w rw lo hi (.slice none 0 0) false) 134 (0,0))
 have hbb:=PH.put_self H2 b (.cells (woC n k ms lv who w rw lo hi (.slice none 0 0) false) 134 (0,0))
 generalize H2.put b (.cells (woC n k ms lv who w rw lo hi (.slice none 0 0) false) 134 (0,0))=H3 at lb hbb⊢
 have hHb:H b=none:=by
  cases e:H b with
  |none=>rfl
  |some o=>rw[l02 _ _ e]at hb;cases hb
 have l03:=l02.trans lb
 refine a0j a0U rfl rfl (hwu.mono l03) rfl ?_
 simp only[cA,nA]
 refine a0o (α:=Nat×Value) (fun⟨i,out⟩=>[ii (i:Nat)]) (fun⟨i,out⟩=>fun H'=>i<=us.length/\PH.le H H'/\H' b=some (.cells (woC n k ms lv who w rw lo hi out (a3n us (min i n))) 134 (0,0))/\SO H H' 3 1 (fun z:Int=>[ii z]) out (wlU us (min i n))) (fun⟨i,out⟩=>us.length-i) ((0,.slice none 0 0)) rfl (⟨Nat.zero_le _,l03,by rw[Nat.zero_min];exact hbb,by rw[Nat.zero_min];exact SO.nil _ _ _ _ _⟩) fun⟨i,out⟩ H' hQ=> ?_
 simp only[cA,nA]
 obtain⟨hiI,lX,hbX,oX⟩:=hQ
 refine a0a ⟨_,rfl⟩ ?_
 refine a0a ⟨_,rfl⟩ ?_
 refine a0f (b:=decide (((i:Nat):Int)<(ul.length:Nat))) rfl (fun h=> ?_) (fun h=> ?_)
 ·replace h:=of_decide_eq_true h
  have hiu:i<ul.length:=by omega
  obtain⟨u,hu,_⟩:=a0t hiu
  obtain⟨x,hx,_⟩:=a0t (show i<us.length by omega)
  have hUR:=hun i u x hu hx
  have hwt:u.wat=decide (n<=i):=hUR.wat.trans (hv.wat i x hx)
  have hxp:=a8l hv x (List.mem_of_getElem? hx)
  have hup:=hUR.ppl
  refine a0m a0U rfl rfl rfl rfl (fun _=>rfl) (hwu.mono lX) hu rfl (fun _=>rfl) fun _=> ?_
  simp only[cA,nA]
  refine a0a (a1O u) ?_
  refine a0a ⟨_,rfl⟩ ?_
  refine a0f (b:= !u.wat) rfl (fun hb2=> ?_) (fun hb2=> ?_)
  ·skip
   have hni:¬n<=i:=fun hh=>by rw[hwt,decide_eq_true hh]at hb2;cases hb2
   rw[show min i n=i by omega]at hbX oX
   have hmin:min (i+1) n=i+1:=by omega
   refine a0u (ad:=⟨b,0,none⟩) rfl rfl rfl ?_
   simp only[cA,nA]
   refine a0i a4D rfl rfl rfl ?_
   simp only[cA,nA]
   refine a0i a9o rfl rfl rfl ?_
   simp only[cA,nA]
   refine a0g a1S rfl rfl hbX rfl rfl ?_
   simp only[cA,nA]
   obtain⟨XB,xb1,xb2,xb3,xb4⟩:=a2C oX lX
   refine a0P el_int rfl rfl rfl (fun _=>rfl) (fun _=>rfl) xb2 xb3 (by unfold wlU;rw[List.length_map,List.length_take];omega) (show _=[ii u.ppl]from rfl) (fun _=>rfl) rfl fun pv2 v15 H7 l7 o7=> ?_
   simp only[cA,nA]
   obtain⟨_,a2,c2,rfl,_⟩:=id o7.se
   have hb7:=l7 _ _ ((xb4 b (fun cs=>by rw[hbX];simp only[ne_eq,Option.some.injEq,Obj.cells.injEq,not_and];intro _ e;exact absurd e.symm (by decide))).trans hbX)
   refine a0u (ad:=⟨b,0,none⟩) rfl rfl rfl ?_
   simp only[cA,nA]
   refine a0i a4D rfl rfl rfl ?_
   simp only[cA,nA]
   refine a0i a9o rfl rfl rfl ?_
   simp only[cA,nA]
   refine a1f (u:= .slice a2 (wlU us i++[u.ppl]).length c2) a1S rfl rfl rfl hb7 (by show 0+12+0<17;decide) rfl rfl rfl (fun h=>(nomatch h)) ?_
   simp only[cA,nA]
   change den _ _ _ _ _ _ (H7.put b (.cells (woC n k ms lv who w rw lo hi (.slice a2 (wlU us i++[u.ppl]).length c2) (a3n us i)) 134 (0,0)))
   have hleP:∀{Y:PH} {ob:Obj},PH.le H Y->PH.le H (Y.put b ob):=fun hy b' ob' hbb'=>by rw[PH.put_ne _ _ (fun e=>by subst e;rw[hHb]at hbb';cases hbb')];exact hy _ _ hbb'
   have l8:=hleP (ob:= .cells (woC n k ms lv who w rw lo hi (.slice a2 (wlU us i++[u.ppl]).length c2) (a3n us i)) 134 (0,0)) (xb1.trans l7)
   have o8:=(a1s (o7.less xb1) hb7 (show 3≠134 by decide)).mono (PH.cut_put H7 b (.cells (woC n k ms lv who w rw lo hi (.slice a2 (wlU us i++[u.ppl]).length c2) (a3n us i)) 134 (0,0)))
   have hb8:=PH.put_self H7 b (.cells (woC n k ms lv who w rw lo hi (.slice a2 (wlU us i++[u.ppl]).length c2) (a3n us i)) 134 (0,0))
   generalize H7.put b (.cells (woC n k ms lv who w rw lo hi (.slice a2 (wlU us i++[u.ppl]).length c2) (a3n us i)) 134 (0,0))=H8 at l8 o8 hb8⊢
   have hwlE:wlU us i++[u.ppl]=wlU us (i+1):=by rw[b0y hx,hup]
   rw[hwlE]at hb8 o8
   refine a0u (ad:=⟨b,0,none⟩) rfl rfl rfl ?_
   simp only[cA,nA]
   refine a0i a6z rfl rfl rfl ?_
   simp only[cA,nA]
   refine a0g a3J rfl rfl hb8 rfl rfl ?_
   simp only[cA,nA]
   refine a0a ⟨_,rfl⟩ ?_
   refine a0f (b:=a3n us i) rfl (fun hliv=> ?_) (fun hliv=> ?_)
   ·skip
    refine a0u (ad:=⟨b,0,none⟩) rfl rfl rfl ?_
    simp only[cA,nA]
    refine a0i a6z rfl rfl rfl ?_
    simp only[cA,nA]
    refine a1f (u:= .bool true) a3J rfl rfl rfl hb8 (by show 0+16<17;decide) rfl rfl rfl (fun h=>(nomatch h)) ?_
    simp only[cA,nA]
    change den _ _ _ _ _ _ (H8.put b (.cells (woC n k ms lv who w rw lo hi (.slice a2 (wlU us (i+1)).length c2) true) 134 (0,0)))
    exact⟨(i+1,.slice a2 (wlU us (i+1)).length c2),by show us.length-(i+1)<us.length-i;omega,(a1R (a0J rfl (by omega))),⟨by show i+1<=us.length;omega,hleP l8,by rw[hmin,a4f hx,hliv];exact PH.put_self _ _ _,by rw[hmin];exact(a1s o8 hb8 (show 3≠134 by decide)).mono (PH.cut_put _ _ _)⟩⟩
   ·skip
    refine a0a ⟨_,rfl⟩ ?_
    refine a0u (ad:=⟨b,0,none⟩) rfl rfl rfl ?_
    simp only[cA,nA]
    refine a0i a6z rfl rfl rfl ?_
    simp only[cA,nA]
    refine a1f (u:= .bool (decide (u.ppl>0))) a3J rfl rfl rfl hb8 (by show 0+16<17;decide) rfl rfl rfl (fun h=>(nomatch h)) ?_
    simp only[cA,nA]
    change den _ _ _ _ _ _ (H8.put b (.cells (woC n k ms lv who w rw lo hi (.slice a2 (wlU us (i+1)).length c2) (decide (u.ppl>0))) 134 (0,0)))
    exact⟨(i+1,.slice a2 (wlU us (i+1)).length c2),by show us.length-(i+1)<us.length-i;omega,(a1R (a0J rfl (by omega))),⟨by show i+1<=us.length;omega,hleP l8,by rw[hmin,a4f hx,hliv,<-hup];exact PH.put_self _ _ _,by rw[hmin];exact(a1s o8 hb8 (show 3≠134 by decide)).mono (PH.cut_put _ _ _)⟩⟩
  ·skip
   have hni:n<=i:=by rw[hwt]at hb2;simpa using hb2
   have hmin:min (i+1) n=min i n:=by omega
   exact⟨(i+1,out),by show us.length-(i+1)<us.length-i;omega,(a1R (a0J rfl (by omega))),⟨by show i+1<=us.length;omega,lX,by rw[hmin];exact hbX,by rw[hmin];exact oX⟩⟩
 ·replace h:=of_decide_eq_false h
  rw[show min i n=n by omega]at hbX oX
  refine a0u (ad:=⟨b,0,none⟩) rfl rfl rfl ?_
  simp only[cA,nA]
  refine a0i a4D rfl rfl rfl ?_
  simp only[cA,nA]
  refine a0i a9o rfl rfl rfl ?_
  simp only[cA,nA]
  refine a0g a1S rfl rfl hbX rfl rfl ?_
  simp only[cA,nA]
  refine a0j el_int rfl rfl oX.se rfl ?_
  simp only[cA,nA]
  have hwl:(wlU us n).length=n:=hS.bd.len
  refine a0a ⟨_,rfl⟩ ?_
  refine a0a ⟨_,rfl⟩ ?_
  refine a0q (a4t 5) (a0R (d2g (a:=(((wlU us n).length:Nat):Int)) (b:=((n:Nat):Int)) (by omega)) rfl) ?_
  simp only[cA,nA]
  refine a0u (ad:=⟨b,0,none⟩) rfl rfl rfl ?_
  simp only[cA,nA]
  refine a0i a4D rfl rfl rfl ?_
  simp only[cA,nA]
  refine a0N (vs:=[out,ii lo,ii hi,ii (k:Nat)]) b5u rfl rfl hbX rfl (show 0+12+4<=17 by decide) rfl ?_
  simp only[cA,nA]
  refine a0h (a8e (hM.gr.mono lX) hS.gv (by omega) oX.se hS.bd) rfl fun H4 l4=> ?_
  simp only[cA,nA]
  refine a0q (a3C) rfl ?_
  simp only[cA,nA]
  exact a5g (c3e (n:=n) (k:=k) (lv:=lv) (who:=who) (w:=w) (rw:=rw) (lo:=lo) (hi:=hi) (wts:=out) (by have:=l4 _ _ hbX;rw[hlf,hms]at this;exact this)) rfl (fun _ _ h=>h.elim) ((fun x H' h=>⟨(lX.trans l4).trans h.1,h.2⟩))
theorem b6U {c0:Nat} (hs:H c0=some (.cells (stC n k ms lv who w rw lo hi).toArray 37 (0,0))) (hM:StM H w rw es us) (hS:StOk n k ms lv who es us lo hi) (hms:ms=1) (hlf:a3n us n=false):c4a prog 19 [.pointer (some ⟨c0,0,none⟩)] H (fun _ _=>False) fun x H'=>PH.le H H'/\x=d3k 7:=by
 refine a2b mixed b5m (by kernel_rfl) rfl ?_
 refine a0n (a2A (ok:=Rg) (ke:=shR) b2p rfl) rfl ?_
 rintro v1 H1 ⟨l1,o1⟩
 refine⟨fun h=>(nomatch h),?_⟩
 simp only[cA,nA]
 obtain⟨g0,es0,cl0,rfl,hHg,hH1g,hE0,hkv0⟩:=id o1
 refine a0a (b0w g0) ?_
 refine a0N (vs:=(stC n k ms lv who w rw lo hi)) b2A rfl rfl (l1 _ _ hs) rfl (show 0+12<=12 by decide) rfl ?_
 simp only[cA,nA]
 exact a5g (c3f (hM.mono l1) hS hms hlf) rfl (fun _ _ h=>h.elim) ((fun x H' h=>⟨l1.trans h.1,h.2⟩))
end
end Go.Proofs.YtlmgkkjgdapnpaaGreatDoor

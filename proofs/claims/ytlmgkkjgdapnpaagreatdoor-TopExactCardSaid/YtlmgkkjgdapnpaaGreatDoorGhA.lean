/- Ensembles: values, all plans. -/
import Derived.Test.YtlmgkkjgdapnpaaGreatDoorGfX
import Derived.Test.YtlmgkkjgdapnpaaGreatDoorWdB
import Derived.Test.YtlmgkkjgdapnpaaGreatDoorGsD
namespace Go.RX
open Go.RowKit
def PH.sub (H X:PH):PH:=fun b=>match X b with|some _=>none|none=>H b
theorem PH.or_sub {X H:PH} (h:PH.le X H):X.or (H.sub X)=H:=funext fun b=>by
 unfold PH.or PH.sub
 cases e:X b with
 |none=>rfl
 |some o=>exact(h b o e).symm
theorem PH.disj_sub (X H:PH):Disj X (H.sub X):=fun b hb=>by
 unfold PH.sub
 cases e:X b with
 |none=>exact absurd e hb
 |some o=>rfl
theorem PH.or_nil (X:PH):X.or PH.nil=X:=funext fun b=>by
 unfold PH.or
 cases e:X b<;>rfl
end Go.RX
namespace Go.Proofs.YtlmgkkjgdapnpaaGreatDoor
open Go.Proofs.Tryz
open Go.RowKit Go.RX Go.GS Go.RZ Go.WD
set_option maxRecDepth 100000
section
variable {H B:PH} {n k ms lv who:Nat} {es:List (Nat×Nat)} {us:List Un} {w rw wts u:Value} {lo hi:Int} {b:Nat} {p:List Int}
theorem c7h (hv:RoV n us):∀i,a3n us i=true->0<a5B us i:=by
 intro i
 induction i with
 |zero=>intro h;simp[a3n]at h
 |succ i ih=>
  intro h
  have hb:=(b1Y hv.un i).1
  have e:a5B us (i+1)=a5B us i+((us[i]?).map (·.ppl)).getD 0:=rfl
  cases hx:us[i]? with
  |none=>
   have e2:a3n us (i+1)=a3n us i:=by unfold a3n;rw[List.take_add_one,hx];simp
   rw[e2]at h
   rw[e,hx]
   have:=ih h
   show 0<a5B us i+0
   omega
  |some x=>
   rw[a4f hx]at h
   rw[e,hx]
   have hxp:=a8l hv x (List.mem_of_getElem? hx)
   show 0<a5B us i+x.ppl
   rcases Bool.or_eq_true _ _ ▸ h with h1|h1
   ·have:=ih h1;omega
   ·have:=of_decide_eq_true h1;omega
theorem StOk.mok (hS:StOk n k ms lv who es us lo hi) (hz:ms=1->a3n us n=true):d3y n us ms lv who:=⟨hS.m1,hS.m8,hS.lv,hS.who,fun e=>by have:=c7h hS.rv n (hz e);omega⟩
theorem b2x (hW:Wo H b n k ms lv who w rw es us lo hi wts) (hS:StOk n k ms lv who es us lo hi) (hz:ms=1->a3n us n=true) (hp:SI H u p) (ho:PlOk n k p):a1g prog 51 [.pointer (some ⟨b,0,none⟩),u] H (shR (a9m n es us k ms lv who p)):=by
 refine a0b mixed d2L (by kernel_rfl) rfl ?_
 refine a0u (ad:=⟨b,0,none⟩) rfl rfl rfl ?_
 simp only[cA,nA]
 refine a0i a1H rfl rfl rfl ?_
 simp only[cA,nA]
 refine a0i c2k rfl rfl rfl ?_
 simp only[cA,nA]
 refine a0N (vs:=[ii (n:Nat),w]) b2n rfl rfl hW.bk rfl (show 0+0+0+2<=17 by decide) rfl ?_
 simp only[cA,nA]
 refine a0u (ad:=⟨b,0,none⟩) rfl rfl rfl ?_
 simp only[cA,nA]
 refine a0i a1H rfl rfl rfl ?_
 simp only[cA,nA]
 refine a0i b2v rfl rfl rfl ?_
 simp only[cA,nA]
 refine a0N (vs:=[ii 2,ii 3,ii 2,rw]) a4d rfl rfl hW.bk rfl (show 0+0+2+4<=17 by decide) rfl ?_
 simp only[cA,nA]
 refine a0u (ad:=⟨b,0,none⟩) rfl rfl rfl ?_
 simp only[cA,nA]
 refine a0i a1H rfl rfl rfl ?_
 simp only[cA,nA]
 refine a0i d5F rfl rfl rfl ?_
 simp only[cA,nA]
 refine a0g sc_int rfl rfl hW.bk rfl rfl ?_
 simp only[cA,nA]
 refine a0u (ad:=⟨b,0,none⟩) rfl rfl rfl ?_
 simp only[cA,nA]
 refine a0i a1H rfl rfl rfl ?_
 simp only[cA,nA]
 refine a0i b2w rfl rfl rfl ?_
 simp only[cA,nA]
 refine a0g sc_int rfl rfl hW.bk rfl rfl ?_
 simp only[cA,nA]
 refine a0u (ad:=⟨b,0,none⟩) rfl rfl rfl ?_
 simp only[cA,nA]
 refine a0i a1H rfl rfl rfl ?_
 simp only[cA,nA]
 refine a0i c2l rfl rfl rfl ?_
 simp only[cA,nA]
 refine a0g sc_int rfl rfl hW.bk rfl rfl ?_
 simp only[cA,nA]
 refine a0u (ad:=⟨b,0,none⟩) rfl rfl rfl ?_
 simp only[cA,nA]
 refine a0i a1H rfl rfl rfl ?_
 simp only[cA,nA]
 refine a0i c2m rfl rfl rfl ?_
 simp only[cA,nA]
 refine a0g sc_int rfl rfl hW.bk rfl rfl ?_
 simp only[cA,nA]
 refine a0h (a8r hW.mm.gr hS.gv hW.mm.ro hS.rv hp ho hS.hk (hS.mok hz)) rfl fun H1 l1=> ?_
 simp only[cA,nA]
 refine a0a ⟨_,rfl,by simp⟩ ?_
 refine a0a ⟨_,rfl,by simp⟩ ?_
 refine a0q (b5t _ _) rfl ?_
 simp only[cA,nA]
 refine a0a (a0s _ _) ?_
 exact a0c rfl ⟨l1,rfl⟩
theorem c2p:Sc prog 82:=⟨by kernel_rfl,by kernel_rfl,by kernel_rfl⟩
theorem c2q:Sc prog 53:=⟨by kernel_rfl,by kernel_rfl,by kernel_rfl⟩
theorem d5G:(a0G prog 53).cells= #[.slice none 0 0]:=by kernel_rfl
theorem b2y:a1q prog 69=true:=by kernel_rfl
noncomputable def b2P (n k:Nat) (es:List (Nat×Nat)) (us:List Un) (lo hi:Int) (i:Nat):List Int:=b1T (alB es (wlU us n) lo hi) n k i
noncomputable def a2R (n k:Nat) (es:List (Nat×Nat)) (us:List Un) (lo hi:Int):Nat:=a3j (alB es (wlU us n) lo hi) n k
structure AllI (H:PH) (z c b n k ms lv who:Nat) (w rw:Value) (es:List (Nat×Nat)) (us:List Un) (lo hi:Int) (wts lv':Value) (m:List Slc):Prop where
 zb:H z=some (.cells #[lv'] 53 (0,0))
 cb:H c=some (.cells #[.pointer (some ⟨b,0,none⟩)] 82 (0,0))
 wo:Wo H b n k ms lv who w rw es us lo hi wts
 se:SE H 1 (fun s:Slc=>[vs s]) lv' m
 len:m.length=a2R n k es us lo hi
 at':∀(i:Nat) s,m[i]? =some s->SI H (vs s) (b2P n k es us lo hi i)
theorem AllI.mono {H':PH} {z c:Nat} {lv':Value} {m:List Slc} (h:AllI H z c b n k ms lv who w rw es us lo hi wts lv' m) (hl:PH.le H H'):AllI H' z c b n k ms lv who w rw es us lo hi wts lv' m:=⟨hl _ _ h.zb,hl _ _ h.cb,h.wo.mono hl,h.se.mono hl,h.len,fun i s hs=>(h.at' i s hs).mono hl⟩
theorem b5v (hW:Wo H b n k ms lv who w rw es us lo hi wts) (hS:StOk n k ms lv who es us lo hi) (hp:0<a2R n k es us lo hi):Con prog 21 [.pointer (some ⟨b,0,none⟩)] H fun r H'=>PH.le H H'/\∃z c lv' m,r= .func (.func 69) #[] #[.pointer (some ⟨z,0,none⟩),.pointer (some ⟨c,0,none⟩)]/\AllI H' z c b n k ms lv who w rw es us lo hi wts lv' m:=by
 refine a0b mixed d2M (by kernel_rfl) rfl ?_
 refine a0a (a9k rfl rfl) ?_
 refine a0A (cs:= #[.pointer (some ⟨b,0,none⟩)]) rfl fun c hc=> ?_
 simp only[cA,nA]
 have lc:=PH.le_put hc (.cells #[.pointer (some ⟨b,0,none⟩)] 82 (0,0))
 have hcc:=PH.put_self H c (.cells #[.pointer (some ⟨b,0,none⟩)] 82 (0,0))
 generalize H.put c (.cells #[.pointer (some ⟨b,0,none⟩)] 82 (0,0))=H1 at lc hcc⊢
 have hW1:=hW.mono lc
 refine a0g c2p rfl rfl hcc rfl rfl ?_
 simp only[cA,nA]
 refine a0u (ad:=⟨b,0,none⟩) rfl rfl rfl ?_
 simp only[cA,nA]
 refine a0i a1H rfl rfl rfl ?_
 simp only[cA,nA]
 refine a0i c2k rfl rfl rfl ?_
 simp only[cA,nA]
 refine a0N (vs:=[ii (n:Nat),w]) b2n rfl rfl hW1.bk rfl (show 0+0+0+2<=17 by decide) rfl ?_
 simp only[cA,nA]
 refine a0g c2p rfl rfl hcc rfl rfl ?_
 simp only[cA,nA]
 refine a0u (ad:=⟨b,0,none⟩) rfl rfl rfl ?_
 simp only[cA,nA]
 refine a0i a4D rfl rfl rfl ?_
 simp only[cA,nA]
 refine a0N (vs:=[wts,ii lo,ii hi,ii (k:Nat)]) b5u rfl rfl hW1.bk rfl (show 0+12+4<=17 by decide) rfl ?_
 simp only[cA,nA]
 refine a0d (b4S hW1.mm.tb hW1.mm.gr hS.gv hS.n6 hW1.wt hS.bd) rfl ?_
 rintro _ H2 ⟨l2,v,m,rfl,hse,hlen,hat⟩
 refine⟨(fun _=>l2),?_⟩
 simp only[cA,nA]
 refine a0a ⟨_,rfl,by simp⟩ ?_
 refine a0a ⟨_,rfl,by simp⟩ ?_
 refine a0q (c7d _) rfl ?_
 simp only[cA,nA]
 obtain⟨_,a1,c1,rfl,_⟩:=id hse
 refine a0A (cs:= #[.slice none 0 0]) d5G fun z hz=> ?_
 simp only[cA,nA]
 refine a1f (u:= .slice a1 m.length c1) c2q rfl rfl rfl (PH.put_self _ _ _) (by simp) rfl rfl rfl (fun h=>(nomatch h)) ?_
 simp only[cA,nA]
 rw[PH.put_put]
 change den _ _ _ _ _ _ (H2.put z (.cells #[.slice a1 m.length c1] 53 (0,0)))
 have lz:=PH.le_put hz (.cells #[.slice a1 m.length c1] 53 (0,0))
 have hzz:=PH.put_self H2 z (.cells #[.slice a1 m.length c1] 53 (0,0))
 generalize H2.put z (.cells #[.slice a1 m.length c1] 53 (0,0))=H3 at lz hzz⊢
 refine a0g c2q rfl rfl hzz rfl rfl ?_
 simp only[cA,nA]
 refine a0j a9f rfl rfl (hse.mono lz) rfl ?_
 simp only[cA,nA]
 refine a0a ⟨_,rfl⟩ ?_
 refine a0q (a4t 4) (a0R (d7c (a:=((m.length:Nat):Int)) (by have:m.length=a2R n k es us lo hi:=hlen;omega)) rfl) ?_
 simp only[cA,nA]
 refine a0O (a0z (vs:=[.pointer (some ⟨z,0,none⟩),.pointer (some ⟨c,0,none⟩)]) rfl rfl) rfl ?_
 simp only[cA,nA]
 exact a0c rfl ⟨lc.trans (l2.trans lz),z,c,_,m,rfl,hzz,lz _ _ (l2 _ _ hcc),hW1.mono (l2.trans lz),hse.mono lz,hlen,fun i s hs=>(hat i s hs).mono lz⟩
theorem b0A {i:Nat} (h:i<a2R n k es us lo hi):PlOk n k (b2P n k es us lo hi i):=by
 obtain⟨h1,h2,h3⟩:=c5D (ft:=alB es (wlU us n) lo hi) (n:=n) (k:=k) (i:=i) h
 refine⟨by unfold b2P b1T;rw[List.length_map];exact h1,fun x hx=> ?_,fun d hd=> ?_⟩
 ·unfold b2P b1T at hx
  obtain⟨y,hy,rfl⟩:=List.mem_map.1 hx
  have:=h2 y hy
  omega
 ·unfold b2P b1T
  exact List.mem_map.2 ⟨d,h3 d hd,rfl⟩
theorem b2z {z c:Nat} {lv':Value} {m:List Slc} {Ro:PH} (hA:AllI Ro z c b n k ms lv who w rw es us lo hi wts lv' m) (hS:StOk n k ms lv who es us lo hi) (hz:ms=1->a3n us n=true) (ho:∀i,i<a2R n k es us lo hi->PlOk n k (b2P n k es us lo hi i)) (hm:m.length<=1000):
  ItC prog 69 [.pointer (some ⟨z,0,none⟩),.pointer (some ⟨c,0,none⟩)] Ro PH.nil (fun pre xs=>∃s,m[pre.length]? =some s/\xs=[vs s,shR (a9m n es us k ms lv who (b2P n k es us lo hi pre.length))]) (fun xs _=>xs.length=m.length) (fun _ _=>True):=by
 intro l J Jx hRo hY X hX hd w' hw'
 refine(a0b (H:=X.or PH.nil) (V:=fun _ H'=>∃X' K',PH.le (X'.or K') H'/\Disj X' K'/\((∃xs,xs.length=m.length/\J xs X')\/(∃pre,True/\Jx pre X'))) mixed c6N (by kernel_rfl) rfl ?_ w' hw').mono fun e w' ⟨v,H',he,hst,hV⟩=>⟨v,H',he,hst,hV⟩
 have hA0:=hA.mono ((hRo _ _ hX).trans (PH.le_or X PH.nil))
 refine a0g c2q rfl rfl hA0.zb rfl rfl ?_
 simp only[cA,nA]
 refine a0j a9f rfl rfl hA0.se rfl ?_
 simp only[cA,nA]
 refine a0o (α:=Nat×List (List Value)×PH×PH) (fun⟨i,pre,X',K⟩=>[ii (i:Nat)]) (fun⟨i,pre,X',K⟩=>fun H'=>i<=m.length/\H'=X'.or K/\Disj X' K/\pre.length=i/\J pre X') (fun⟨i,pre,X',K⟩=>m.length-i) ((0,[],X,PH.nil)) rfl (⟨Nat.zero_le _,rfl,hd,rfl,hX⟩) fun⟨i,pre,X',K⟩ H' hQ=> ?_
 simp only[cA,nA]
 obtain⟨hiI,rfl,hd',hpre,hJ⟩:=hQ
 have hA1:=hA.mono ((hRo _ _ hJ).trans (PH.le_or X' K))
 refine a0a ⟨_,rfl⟩ ?_
 refine a0a ⟨_,rfl⟩ ?_
 refine a0f (b:=decide (((i:Nat):Int)<(m.length:Nat))) rfl (fun h=> ?_) (fun h=> ?_)
 ·replace h:=of_decide_eq_true h
  have hi':i<m.length:=by omega
  obtain⟨s,hs,_⟩:=a0t hi'
  have hiN:i<a2R n k es us lo hi:=by have:=hA.len;omega
  refine a0m a9f rfl rfl rfl rfl (fun _=>rfl) hA1.se hs rfl (fun _=>rfl) fun _=> ?_
  simp only[cA,nA]
  refine a0g c2p rfl rfl hA1.cb rfl rfl ?_
  simp only[cA,nA]
  refine a0h (b2x hA1.wo hS hz (hA1.at' i s hs) (ho i hiN)) rfl fun H2 l2=> ?_
  simp only[cA,nA]
  have lX2:PH.le X' H2:=(PH.le_or X' K).trans l2
  rw[<-PH.or_sub lX2]
  refine a3X (hY _ [vs s,shR (a9m n es us k ms lv who (b2P n k es us lo hi i))] X' (H2.sub X') ⟨s,by rw[hpre];exact hs,by rw[hpre]⟩ hJ (PH.disj_sub _ _)) rfl rfl rfl rfl rfl fun v X2 hd2 hV=> ?_
  simp only[cA,nA]
  obtain⟨bb,rfl,hb1,hb3⟩:∃bb,v= .bool bb/\(bb=true->J (pre++[[vs s,shR (a9m n es us k ms lv who (b2P n k es us lo hi i))]]) X2)/\(bb=false->Jx (pre++[[vs s,shR (a9m n es us k ms lv who (b2P n k es us lo hi i))]]) X2):=by
   rcases hV with⟨rfl,h⟩|⟨rfl,h⟩
   ·exact⟨true,rfl,fun _=>h,(fun h=>nomatch h)⟩
   ·exact⟨false,rfl,(fun h=>nomatch h),fun _=>h⟩
  refine a0a ⟨_,rfl⟩ ?_
  refine a0f (b:= !bb) rfl (fun hbb=> ?_) (fun hbb=> ?_)
  ·skip
   exact a0c rfl ⟨X2,H2.sub X',PH.le.refl _,hd2,.inr ⟨_,trivial,hb3 (by simpa using hbb)⟩⟩
  ·skip
   exact⟨(i+1,pre++[[vs s,shR (a9m n es us k ms lv who (b2P n k es us lo hi i))]],X2,H2.sub X'),by show m.length-(i+1)<m.length-i;omega,(a1R (a0J rfl (by omega))),⟨hi',rfl,hd2,by rw[List.length_append];simp;omega,hb1 (by simpa using hbb)⟩⟩
 ·replace h:=of_decide_eq_false h
  exact a0c rfl ⟨X',K,PH.le.refl _,hd',.inl ⟨pre,by omega,hJ⟩⟩
end
end Go.Proofs.YtlmgkkjgdapnpaaGreatDoor
/- A call that knows a part of memory. -/
namespace Go.RX
open Go.RowKit
theorem b5w {P:Program} {G Xp:Value->PH->Prop} {nx:List (List Value->PH->Prop)} {ρ:List Value} {X H:PH} {pf:Bool} {f:FuncId} {args:List SV} {t:Tree} {vs:List Value} {W:Value->PH->Prop} (hc:Con P f vs X fun u X'=>PH.le X X'/\W u X') (hX:PH.le X H) (ha:args.map (D P ρ)=vs)
  (n:∀u X' H',PH.le X X'->W u X'->PH.le X' H'->PH.le H H'->(∀k,H k≠none->X k=none->X' k=none)->den P G Xp t nx (ρ++[u]) H'):den P G Xp (.call pf f args t) nx ρ H:=by
 refine a0d (hc.frame hX) ha ?_
 rintro u H' ⟨X',⟨h1,h2⟩,h3,h4⟩
 have hle:PH.le H H':=fun k ob hk=>by
  cases e:X k with
  |none=>exact(h4 k ob hk e).2
  |some o2=>
   have:=hX _ _ e
   rw[this]at hk
   rw[<-hk]
   exact h3 _ _ (h1 _ _ e)
 exact⟨fun _=>hle,n u X' H' h1 h2 h3 hle fun k hk e=>by
  obtain⟨ob,hk⟩:=Option.ne_none_iff_exists'.1 hk
  exact(h4 k ob hk e).1⟩
end Go.RX
/- Ensembles: counts, the tally. -/
namespace Go.Proofs.YtlmgkkjgdapnpaaGreatDoor
open Go.Proofs.Tryz
open Go.RowKit Go.RX Go.GS Go.RZ Go.WD
set_option maxRecDepth 100000
def CntS (B H:PH) (m:Value) (l:List Rat) (i:Nat):Prop:=∃L:List (Rat×Value),MKO Rg shR B H m L/\(∀r,r∈L.map (·.1)↔r∈l.take i)/\∀q∈L,q.2=iw (((l.take i).count q.1:Nat):Int)
section
variable {H B:PH} {n k ms lv who:Nat} {es:List (Nat×Nat)} {us:List Un} {w rw wts u v:Value} {lo hi:Int} {b i:Nat} {p:List Int} {l:List Rat}
theorem b5x (a:Nat):Asks prog 22 [wd a,ii 0] H (wd a):=by
 refine a0b mixed d2F (by kernel_rfl) rfl ?_
 refine a0a ⟨a0r a,a0x a⟩ ?_
 refine a0a ⟨_,rfl⟩ ?_
 refine a0e (bF (p:=(0:Int)≠0) (by simp)) ?_
 exact a0c rfl ⟨rfl,rfl⟩
theorem b0B:prog.underlying 80=some (.map 61 59):=by kernel_rfl
theorem d5H:∀w,(zeroValue 59).run prog w= .ok (wd 0) w:=by
 have hi:(prog.info? 59).map (fun i=>(i.zero,i.size))=some (some (.agg #[GS.uv 0,GS.uv 0,GS.uv 0,GS.uv 0,GS.uv 0,GS.uv 0,GS.uv 0,GS.uv 0]),8):=by kernel_rfl
 have e:wd 0= .agg #[GS.uv 0,GS.uv 0,GS.uv 0,GS.uv 0,GS.uv 0,GS.uv 0,GS.uv 0,GS.uv 0]:=by rw[<-a3U];kernel_rfl
 rw[e]
 exact(Go.zero_of_info hi).1
theorem fits_small {z:Int} (h0:0<=z) (h1:z<9223372036854775808):c3p z:=by
 have:=d6M
 unfold c3p
 omega
theorem b5y {a b:Int} (ha:0<=a) (hb:0<=b) (h:a+b<9223372036854775808):Det prog 23 [iw a,iw b] (.tuple #[iw (a+b),ii 0]):=by
 have h1:=c9A (rs a) (rs b)
 rw[a3T (fits_small ha (by omega)),a3T (fits_small hb (by omega)),a7A (fits_small (by omega) h)]at h1
 exact h1
theorem b6J {c n:Nat} (hn:0<n) (hc:c<2^20) (h:n<2^20):a1g prog 72 [iw ((c:Nat):Int),iw ((n:Nat):Int)] H (.tuple #[shR (qN c n),ii 0]):=
 (b1x _ _).mono fun u H' hh=>⟨hh.1,by
  rw[hh.2,a3T (fits_small (by omega) (by omega)),a3T (fits_small (by omega) (by omega))]
  unfold a7L
  rw[if_neg (by omega)]
  exact a5V (c1T hn hc h)⟩
theorem c7i (hM:CntS B H v l l.length) (hn:l≠[]) (hl:l.length<=400):Con prog 25 [v] H fun r H'=>PH.le H H'/\∃m,SE H' 32 ceM r m/\TalP l m:=by
 refine a0b mixed d2N (by kernel_rfl) rfl ?_
 have hl0:0<l.length:=List.length_pos_iff.2 hn
 obtain⟨L,o1,hk,hv⟩:=hM
 rw[List.take_length]at hk hv
 have hmk:=o1.mk
 obtain⟨r,es,clock,rfl,-,hHr,hE,hkv⟩:=id o1
 have hkeys:es.map (·.1)=L.map (·.1):=by rw[<-hkv];unfold kvN;rw[List.map_map];rfl
 have hLl:L.length<=400:=by
  have:=List.Nodup.length_le_of_subset hmk.keys.1 (l₂:=l) fun x hx=>(hk x).1 hx
  rw[List.length_map]at this;omega
 have hel:es.length=L.length:=by have:=congrArg List.length hkeys;simpa using this
 have hcl:∀q,l.count q<=400:=fun q=>by have:=List.count_le_length (a:=q) (l:=l);omega
 have hsum:(es.map fun e=>l.count e.1).sum=l.length:=by
  have:=c1X (l:=l) hE.keys (fun x hx=>by rw[hkeys];exact(hk x).2 hx)
  rwa[List.map_map]at this
 have heL:∀e∈es,e.2.1=iw ((l.count e.1:Nat):Int):=fun e he=>hv (e.1,e.2.1) (by rw[<-hkv];exact List.mem_map.2 ⟨e,he,rfl⟩)
 have iw0:iw ((0:Nat):Int)=wd 0:=rfl
 refine a0n (a4q (κ:=Rat) (ke:=shR) (vs:=[.map (some r)]) rfl rfl b0B hHr) rfl ?_
 rintro _ _ ⟨q,hq,rfl,rfl⟩
 refine⟨fun h=>(nomatch h),?_⟩
 simp only[cA,nA]
 have hrq:r≠q:=fun e=>by subst e;rw[hHr]at hq;cases hq
 have hI0:IT shR (H.put q (.mapIter (some r) clock #[] clock)) q r es clock []:=⟨PH.put_self _ _ _,by rw[PH.put_ne _ _ hrq];exact hHr⟩
 refine a0o (α:=List Nat×Nat) (fun⟨seen,z⟩=>[iw ((z:Nat):Int)]) (fun⟨seen,z⟩=>fun H'=>PH.le H H'/\IT shR H' q r es clock seen/\z+((left es seen).map fun e=>l.count e.1).sum=l.length) (fun⟨seen,z⟩=>(left es seen).length) (([],0)) (a1R (by show a0G prog 59=_;rw[a3U];rfl)) (⟨PH.le_put hq _,hI0,by rw[a6R,hsum,Nat.zero_add]⟩) fun⟨seen,z⟩ H4 ⟨l4,it4,hz⟩=> ?_
 simp only[cA,nA]
 refine a0n (a5y (ok:=Rg) (ke:=shR) (vs:=[.pointer (some ⟨q,0,none⟩)]) rfl rfl hE it4) rfl ?_
 rintro v6 H5 hnx
 refine⟨fun h=>(nomatch h),?_⟩
 simp only[cA,nA]
 obtain⟨bb,x,y,rfl,hbx⟩:=a6Q hnx
 refine a0a (b0v bb x y) ?_
 refine a0a ⟨bb,a2Q bb x y⟩ ?_
 refine a0f (b:=bb) (a2Q bb x y) (fun hb1=> ?_) (fun hb1=> ?_)
 ·skip
  obtain⟨e,he,rfl,rfl,rfl⟩:∃p∈left es seen,x=shR p.1/\y=p.2.1/\H5=H4.put q (.mapIter (some r) clock (seen++[p.2.2]).toArray clock):=by
   rcases hbx with⟨h,_⟩|⟨_,h⟩
   ·rw[hb1]at h;cases h
   ·exact h
  subst hb1
  have heE:e∈es:=(List.mem_filter.1 he).1
  have hev:=heL e heE
  have it5:IT shR (H4.put q (.mapIter (some r) clock (seen++[e.2.2]).toArray clock)) q r es clock (seen++[e.2.2]):=⟨PH.put_self _ _ _,by rw[PH.put_ne _ _ hrq];exact it4.2⟩
  have l5:PH.le H (H4.put q (.mapIter (some r) clock (seen++[e.2.2]).toArray clock)):=fun b' ob' hbb=>by rw[PH.put_ne _ _ (fun e=>by subst e;rw[hq]at hbb;cases hbb)];exact l4 _ _ hbb
  generalize H4.put q (.mapIter (some r) clock (seen++[e.2.2]).toArray clock)=H6 at it5 l5⊢
  refine a0n (Rds.opn' (a4r (ok:=Rg) (ke:=shR) (vs:=[.pointer (some ⟨q,0,none⟩)]) rfl rfl hE heE it5)) rfl ?_
  rintro _ _ ⟨rfl,rfl⟩
  refine⟨fun h=>(nomatch h),?_⟩
  simp only[cA,nA]
  rw[hev]
  refine a0a ⟨_,rfl,by simp⟩ ?_
  refine a0a ⟨a0r _,a0x _⟩ ?_
  obtain⟨la,lb,hla,hlb⟩:=a5C (hE.asc.imp fun h=>Nat.ne_of_lt h) he
  have hz2:z+l.count e.1+((left es (seen++[e.2.2])).map fun e=>l.count e.1).sum=l.length:=by
   rw[hlb]
   rw[hla]at hz
   simp only[List.map_append,List.sum_append,List.map_cons,List.sum_cons]at hz⊢
   omega
  refine a1o (b5y (a:=((z:Nat):Int)) (b:=((l.count e.1:Nat):Int)) (by omega) (by omega) (by omega)) rfl ?_
  simp only[cA,nA]
  refine a0a ⟨_,rfl,by simp⟩ ?_
  refine a0a ⟨_,rfl,by simp⟩ ?_
  refine a0q (b5x _) rfl ?_
  simp only[cA,nA]
  refine a0a ⟨a0r _,a0x _⟩ ?_
  exact⟨(seen++[e.2.2],z+l.count e.1),by show(left es (seen++[e.2.2])).length<(left es seen).length;rw[hla,hlb];simp,(a1R (by show wd _=iw (((z+l.count e.1:Nat)):Int);rw[Int.natCast_add];rfl)),⟨l5,it5,hz2⟩⟩
 ·skip
  obtain⟨hle0,h54⟩:left es seen=[]/\H5=H4:=by
   rcases hbx with⟨_,h⟩|⟨h,_⟩
   ·exact h
   ·rw[hb1]at h;cases h
  rw[h54]
  rw[hle0,List.map_nil,List.sum_nil,Nat.add_zero]at hz
  subst hz
  refine a0n (a4q (κ:=Rat) (ke:=shR) (vs:=[.map (some r)]) rfl rfl b0B it4.2) rfl ?_
  rintro _ _ ⟨q2,hq2,rfl,rfl⟩
  refine⟨fun h=>(nomatch h),?_⟩
  simp only[cA,nA]
  have hrq2:r≠q2:=fun e=>by subst e;rw[it4.2]at hq2;cases hq2
  have hHr4:=it4.2
  have hI2:IT shR (H4.put q2 (.mapIter (some r) clock #[] clock)) q2 r es clock []:=⟨PH.put_self _ _ _,by rw[PH.put_ne _ _ hrq2];exact hHr4⟩
  refine a0o (α:=List Nat×Value×List MaT) (fun⟨seen,out,m⟩=>[out]) (fun⟨seen,out,m⟩=>fun H'=>PH.le H4 H'/\IT shR H' q2 r es clock seen/\SO H4 H' 72 32 ceM out m/\((m.map fun q=>q.1.1)++(left es seen).map (·.1)).Perm (es.map (·.1))/\(∀q∈m,q.1.2=qN (l.count q.1.1) l.length)) (fun⟨seen,out,m⟩=>(left es seen).length) (([],.slice none 0 0,[])) rfl (⟨PH.le_put hq2 _,hI2,SO.nil _ _ _ _ _,by rw[a6R];exact List.Perm.refl _,(fun q hq=>nomatch hq)⟩) fun⟨seen,out,m⟩ H7 ⟨l7,it7,o7,hpm,hds⟩=> ?_
  simp only[cA,nA]
  refine a0n (a5y (ok:=Rg) (ke:=shR) (vs:=[.pointer (some ⟨q2,0,none⟩)]) rfl rfl hE it7) rfl ?_
  rintro v6 H8 hnx
  refine⟨fun h=>(nomatch h),?_⟩
  simp only[cA,nA]
  obtain⟨bb,x,y,rfl,hbx⟩:=a6Q hnx
  refine a0a (b0v bb x y) ?_
  refine a0a ⟨bb,a2Q bb x y⟩ ?_
  refine a0f (b:=bb) (a2Q bb x y) (fun hb1=> ?_) (fun hb1=> ?_)
  ·skip
   obtain⟨e,he,rfl,rfl,rfl⟩:∃p∈left es seen,x=shR p.1/\y=p.2.1/\H8=H7.put q2 (.mapIter (some r) clock (seen++[p.2.2]).toArray clock):=by
    rcases hbx with⟨h,_⟩|⟨_,h⟩
    ·rw[hb1]at h;cases h
    ·exact h
   subst hb1
   have heE:e∈es:=(List.mem_filter.1 he).1
   have hev:=heL e heE
   have hRg:Rg e.1:=hE.oks e heE
   have hQg:Rg (qN (l.count e.1) l.length):=c1T hl0 (Nat.lt_of_le_of_lt (hcl e.1) (by decide)) (by omega)
   have it8:IT shR (H7.put q2 (.mapIter (some r) clock (seen++[e.2.2]).toArray clock)) q2 r es clock (seen++[e.2.2]):=⟨PH.put_self _ _ _,by rw[PH.put_ne _ _ hrq2];exact it7.2⟩
   have l8:PH.le H4 (H7.put q2 (.mapIter (some r) clock (seen++[e.2.2]).toArray clock)):=fun b' ob' hbb=>by rw[PH.put_ne _ _ (fun e=>by subst e;rw[hq2]at hbb;cases hbb)];exact l7 _ _ hbb
   have o8:SO H4 (H7.put q2 (.mapIter (some r) clock (seen++[e.2.2]).toArray clock)) 72 32 ceM out m:=(a3A o7 (g:=q2) (fun cs T fz=>by rw[it7.1];exact fun h=>nomatch h)).mono (PH.cut_put _ _ _)
   generalize H7.put q2 (.mapIter (some r) clock (seen++[e.2.2]).toArray clock)=H9 at it8 l8 o8⊢
   refine a0n (Rds.opn' (a4r (ok:=Rg) (ke:=shR) (vs:=[.pointer (some ⟨q2,0,none⟩)]) rfl rfl hE heE it8)) rfl ?_
   rintro _ _ ⟨rfl,rfl⟩
   refine⟨fun h=>(nomatch h),?_⟩
   simp only[cA,nA]
   rw[hev]
   refine a0a ⟨_,rfl,by simp⟩ ?_
   refine a0a ⟨_,rfl,by simp⟩ ?_
   refine a0a (a0s _ _) ?_
   refine a0a ⟨a0r _,a0x _⟩ ?_
   refine a0h (b6J (c:=l.count e.1) (n:=l.length) hl0 (Nat.lt_of_le_of_lt (hcl e.1) (by decide)) (by omega)) rfl fun H10 l10=> ?_
   simp only[cA,nA]
   refine a0a ⟨_,rfl,by simp⟩ ?_
   refine a0a ⟨_,rfl,by simp⟩ ?_
   refine a0q (b5t _ _) rfl ?_
   simp only[cA,nA]
   refine a0a (a0s _ _) ?_
   obtain⟨la,lb,hla,hlb⟩:=a5C (hE.asc.imp fun h=>Nat.ne_of_lt h) he
   have hll:m.length+1<=400:=by
    have:=hpm.length_eq
    rw[hla]at this
    simp at this;omega
   obtain⟨XB,xb1,xb2,xb3,xb4⟩:=a2C (o8.mono l10) (l8.trans l10)
   refine a0P el_mass rfl rfl rfl (fun _=>rfl) (fun _=>rfl) xb2 xb3 (by omega) (show _=[veM ⟨(e.1,qN (l.count e.1) l.length),hRg,hQg⟩]from by unfold veM;rw[<-a2g,<-a2g];rfl) (fun _=>rfl) rfl fun pv v11 H11 l11 o11=> ?_
   simp only[cA,nA]
   exact⟨(seen++[e.2.2],v11,m++[⟨(e.1,qN (l.count e.1) l.length),hRg,hQg⟩]),by show(left es (seen++[e.2.2])).length<(left es seen).length;rw[hla,hlb];simp,rfl,⟨xb1.trans l11,⟨l11 _ _ ((xb4 q2 (fun cs=>by rw[l10 _ _ it8.1];exact fun h=>nomatch h)).trans (l10 _ _ it8.1)),l11 _ _ ((xb4 r (fun cs=>by rw[l10 _ _ it8.2];exact fun h=>nomatch h)).trans (l10 _ _ it8.2))⟩,o11.less xb1,by show((List.map _ (m++[_]))++List.map _ (left es (seen++[e.2.2]))).Perm _;refine List.Perm.trans ?_ hpm;rw[hla,hlb,List.map_append,List.append_assoc,List.map_append,List.map_append];exact List.Perm.append_left _ (by simp only[List.map_cons,List.map_nil,List.singleton_append];exact(List.perm_middle (a:=e.1) (l₁:=la.map (·.1)) (l₂:=lb.map (·.1))).symm),fun q hq=>(List.mem_append.1 hq).elim (hds q) (fun hq=>by rw[List.mem_singleton.1 hq])⟩⟩
  ·skip
   obtain⟨hle0,h54⟩:left es seen=[]/\H8=H7:=by
    rcases hbx with⟨_,h⟩|⟨h,_⟩
    ·exact h
    ·rw[hb1]at h;cases h
   rw[h54]
   rw[hle0,List.map_nil,List.append_nil]at hpm
   have hmem:∀x,x∈(m.map fun q=>q.1.1)↔x∈l:=fun x=>by rw[hpm.mem_iff,hkeys];exact hk x
   have hm0:m≠[]:=fun e=>by
    subst e
    obtain⟨a,t,rfl⟩:=List.exists_cons_of_ne_nil hn
    exact absurd ((hmem a).2 (by simp)) (by simp)
   have hmc:m.length<=1000000:=by have:=hpm.length_eq;simp at this;omega
   refine a0d (b5p c1R l7 o7 hm0 hmc (fun x y=>b6G x y)) rfl ?_
   rintro _ H12 ⟨l12,m',hm1,hm2,o12⟩
   refine⟨fun h=>(nomatch h),?_⟩
   simp only[cA,nA]
   have hmp:(m'.map fun q=>q.1.1).Perm (es.map (·.1)):=(hm1.map _).trans hpm
   exact a0c rfl ⟨l4.trans l12,m',o12.se,c1U (hmp.nodup_iff.2 hE.keys) (fun x=>by rw[hmp.mem_iff,hkeys];exact hk x) (fun q hq=>hds q (hm1.mem_iff.1 hq)) hm2⟩
end
end Go.Proofs.YtlmgkkjgdapnpaaGreatDoor
/- Ensembles: Exact. -/
namespace Go.Proofs.YtlmgkkjgdapnpaaGreatDoor
open Go.Proofs.Tryz
open Go.RowKit Go.RX Go.GS Go.RZ Go.WD
set_option maxRecDepth 100000
section
variable {H B:PH} {n k ms lv who:Nat} {es:List (Nat×Nat)} {us:List Un} {w rw wts u v:Value} {lo hi:Int} {b i:Nat} {p:List Int} {l:List Rat}
theorem CntS.put {H':PH} {m:Value} {r:Rat} {L:List (Rat×Value)} (hk:∀q,q∈L.map (·.1)↔q∈l.take i) (hv:∀q∈L,q.2=iw (((l.take i).count q.1:Nat):Int)) (hr:l[i]? =some r) (o2:MKO Rg shR B H' m (a8w L r (iw (((l.take i).count r+1:Nat):Int)))):CntS B H' m l (i+1):=by
 have hct:∀q,(l.take (i+1)).count q=(l.take i).count q+if r=q then 1 else 0:=fun q=>by
  rw[take_snoc hr,List.count_append,List.count_singleton]
  by_cases h:r=q
  ·rw[if_pos h,if_pos (by simpa using h)]
  ·rw[if_neg h,if_neg (by simpa using h)]
 have hmem:∀q,q∈l.take (i+1)↔q=r\/q∈l.take i:=fun q=>by
  rw[take_snoc hr,List.mem_append,List.mem_singleton];exact Or.comm
 refine⟨_,o2,fun q=> ?_,fun q hq=> ?_⟩
 ·rw[hmem]
  constructor
  ·intro hq
   obtain⟨x,hx,rfl⟩:=List.mem_map.1 hq
   rcases a2N (x:=x.1) (y:=x.2) hx with⟨h,_⟩|⟨_,h⟩
   ·exact .inl h
   ·exact .inr ((hk _).1 (List.mem_map.2 ⟨_,h,rfl⟩))
  ·rintro(rfl|hq)
   ·exact List.mem_map.2 ⟨_,a2O,rfl⟩
   ·by_cases e:q=r
    ·subst e;exact List.mem_map.2 ⟨_,a2O,rfl⟩
    ·obtain⟨x,hx,rfl⟩:=List.mem_map.1 ((hk _).2 hq)
     exact List.mem_map.2 ⟨_,a5w (x:=x.1) (y:=x.2) hx e,rfl⟩
 ·rcases a2N (x:=q.1) (y:=q.2) hq with⟨h1,h2⟩|⟨h0,h1⟩
  ·rw[h2,h1,hct,if_pos rfl]
  ·rw[hct,if_neg (fun e=>h0 e.symm),Nat.add_zero]
   exact hv _ h1
theorem CntS.mono {H':PH} {m:Value} (h:CntS B H m l i) (hl:PH.le H H'):CntS B H' m l i:=by
 obtain⟨L,h1,h2,h3⟩:=h;exact⟨L,h1.mono hl,h2,h3⟩
noncomputable def vlL (n k ms lv who:Nat) (es:List (Nat×Nat)) (us:List Un) (lo hi:Int):List Rat:=(List.range (a2R n k es us lo hi)).map fun i=>a9m n es us k ms lv who (b2P n k es us lo hi i)
theorem a3E:(vlL n k ms lv who es us lo hi).length=a2R n k es us lo hi:=by simp[vlL]
theorem c2r {i:Nat} (h:i<a2R n k es us lo hi):(vlL n k ms lv who es us lo hi)[i]? =some (a9m n es us k ms lv who (b2P n k es us lo hi i)):=by
 unfold vlL;rw[List.getElem?_map,List.getElem?_range h];rfl
theorem b2A:Ag prog 37 12:=⟨by kernel_rfl,by kernel_rfl,by kernel_rfl⟩
theorem c2s {c0:Nat} (hs:H c0=some (.cells (stC n k ms lv who w rw lo hi).toArray 37 (0,0))) (hM:StM H w rw es us) (hS:StOk n k ms lv who es us lo hi) (hz:ms=1->a3n us n=true) (hp:0<a2R n k es us lo hi) (hN:a2R n k es us lo hi<=400) (hr:∀r∈vlL n k ms lv who es us lo hi,Rg r):
  Con prog 19 [.pointer (some ⟨c0,0,none⟩)] H fun r H'=>PH.le H H'/\∃m,SE H' 32 ceM r m/\TalP (vlL n k ms lv who es us lo hi) m:=by
 refine a0b mixed b5m (by kernel_rfl) rfl ?_
 refine a0n (a2A (ok:=Rg) (ke:=shR) b2p rfl) rfl ?_
 rintro v1 H1 ⟨l1,o1⟩
 refine⟨fun h=>(nomatch h),?_⟩
 simp only[cA,nA]
 obtain⟨g0,es0,cl0,rfl,hHg,hH1g,hE0,hkv0⟩:=id o1
 refine a0a (b0w g0) ?_
 refine a0N (vs:=(stC n k ms lv who w rw lo hi)) b2A rfl rfl (l1 _ _ hs) rfl (show 0+12<=12 by decide) rfl ?_
 simp only[cA,nA]
 refine b5w (b0z hM hS hz) l1 rfl fun v3 X1 H2 a1 w1 b1 c1 d1=> ?_
 simp only[cA,nA]
 obtain⟨b,wts,rfl,hW⟩:=w1
 refine b5w (b5v hW hS hp) b1 rfl fun v4 X2 H3 a2 w2 b2 c2 d2=> ?_
 simp only[cA,nA]
 obtain⟨z,c,lv',m,rfl,hA⟩:=w2
 have hX1g:X1 g0=none:=d1 g0 (by rw[hH1g];exact fun h=>nomatch h) hHg
 have hX2g:X2 g0=none:=d2 g0 (by rw[c1 _ _ hH1g];exact fun h=>nomatch h) hX1g
 have hC0:CntS X2 H3 (.map (some g0)) (vlL n k ms lv who es us lo hi) 0:=⟨[],⟨g0,es0,cl0,rfl,hX2g,c2 _ _ (c1 _ _ hH1g),hE0,hkv0⟩,fun r=>by simp,(fun q hq=>nomatch hq)⟩
 have hml:m.length=a2R n k es us lo hi:=hA.len
 rw[<-PH.or_nil H3]
 refine a5q (X:=H3) (K:=PH.nil) (Ro:=X2) (fun pre vals X'=>vals=[]/\PH.le X2 X'/\CntS X2 X' (.map (some g0)) (vlL n k ms lv who es us lo hi) pre.length) (fun _ _ _=>False) (b2z hA hS hz (fun i hi=>b0A hi) (by omega)) b2y (a5p _) rfl (fun _ _ _ h=>h.2.1) ⟨rfl,b2,hC0⟩ ?_ ?_ ?_
 ·rintro pre xs vals X' ⟨s,hs,rfl⟩ _ ⟨rfl,lX,hC⟩
  refine⟨rfl,?_⟩
  simp only[cA,nA]
  have hpm:pre.length<a2R n k es us lo hi:=by have:=(List.getElem?_eq_some_iff.1 hs).1;omega
  have hat:=c2r (ms:=ms) (lv:=lv) (who:=who) hpm
  have hrv:=hr _ (List.mem_of_getElem? hat)
  have hcl:∀q,((vlL n k ms lv who es us lo hi).take pre.length).count q<=400:=fun q=>by
   have:=List.count_le_length (a:=q) (l:=(vlL n k ms lv who es us lo hi).take pre.length)
   rw[List.length_take,a3E]at this;omega
  generalize hvv:a9m n es us k ms lv who (b2P n k es us lo hi pre.length)=vv at hat hrv
  obtain⟨L,o3,hk3,hv3⟩:=hC
  refine a0a (a0s _ _) ?_
  have hlk:(iw ((((vlL n k ms lv who es us lo hi).take pre.length).count vv:Nat):Int)=wd 0/\vv∉L.map (·.1))\/(vv,iw ((((vlL n k ms lv who es us lo hi).take pre.length).count vv:Nat):Int))∈L:=by
   by_cases h:vv∈L.map (·.1)
   ·obtain⟨q,hq,rfl⟩:=List.mem_map.1 h
    right;rw[<-hv3 q hq];exact hq
   ·left
    refine⟨?_,h⟩
    rw[List.count_eq_zero.2 (fun h2=>h ((hk3 vv).2 h2))];rfl
  refine a0l (b2j b2p (k:=vv) (u:=iw ((((vlL n k ms lv who es us lo hi).take pre.length).count vv:Nat):Int)) (vs:=[.map (some g0),shR vv]) rfl rfl rfl b0B hrv d5H o3.mk hlk) (a0R (a1a rfl rfl) rfl) ?_
  simp only[cA,nA]
  refine a1o (b4o 1 (by omega) (by omega)) rfl ?_
  simp only[cA,nA]
  refine a1o (b5y (a:=((((vlL n k ms lv who es us lo hi).take pre.length).count vv:Nat):Int)) (b:=1) (by omega) (by omega) (by have:=hcl vv;omega)) rfl ?_
  simp only[cA,nA]
  refine a0a ⟨_,rfl,by simp⟩ ?_
  refine a0a ⟨_,rfl,by simp⟩ ?_
  refine a0q (b5x _) rfl ?_
  simp only[cA,nA]
  refine a0n (a3z b2p (k:=vv) (v:=iw ((((vlL n k ms lv who es us lo hi).take pre.length).count vv+1:Nat):Int)) (vs:=[.map (some g0),shR vv,iw ((((vlL n k ms lv who es us lo hi).take pre.length).count vv+1:Nat):Int)]) rfl rfl rfl rfl b0B hrv lX o3) (b2K (a1a rfl rfl) rfl (by rw[Int.natCast_add];rfl)) ?_
  rintro _ H5 ⟨rfl,l5,o5,-⟩
  refine⟨fun h=>(nomatch h),?_⟩
  simp only[cA,nA]
  exact⟨rfl,l5,by rw[List.length_append];exact CntS.put hk3 hv3 hat o5⟩
 ·rintro xs vals X' K' hxn hd _ ⟨rfl,lX,hC⟩
  simp only[cA,nA]
  have hxl:xs.length=(vlL n k ms lv who es us lo hi).length:=by rw[a3E];omega
  rw[hxl]at hC
  refine a0d (c7i (hC.mono (PH.le_or X' K')) (fun e=>by have:=congrArg List.length e;rw[a3E]at this;simp at this;omega) (by rw[a3E];exact hN)) (a1R (a1a rfl rfl)) ?_
  rintro r H6 ⟨l6,m',hse,hT⟩
  refine⟨fun h=>(nomatch h),?_⟩
  simp only[cA,nA]
  exact a0c rfl ⟨a1.trans (a2.trans (lX.trans ((PH.le_or X' K').trans l6))),m',hse,hT⟩
 ·exact fun _ _ _ _ _ _ _ h=>h.elim
end
end Go.Proofs.YtlmgkkjgdapnpaaGreatDoor

/- Chapter 02: fractions of good size. -/
import Derived.Test.YtmannekkmdockaaGreatDoorSwT
import Derived.Test.YtmannekkmdockaaGreatDoorGvA
import Derived.Test.YtmannekkmdockaaGreatDoorGyH
import Derived.Test.YtmannekkmdockaaGreatDoorGdF
namespace Go.Proofs.YtmannekkmdockaaGreatDoor
open Go.Proofs.Tryz
open Go.RowKit Go.RX Go.WD
theorem c2g {r:Rat} {k:Nat} (h:Rb k r) (hk:k<=511):(-(HM:Int)<=r.num/\r.num<HM)/\(r.den:Int)<HM:=by
 have:=c1c hk
 unfold Rb at h
 omega
theorem d1n {r:Rat} {k:Nat} (h:Rb k r) (hk:k<=511):a4g r= .tuple #[shR r,.int .i64 0]:=by
 unfold a4g
 rw[if_pos (c2g h hk)];rfl
section
variable {H:PH} {r s t:Rat}
def Rg (r:Rat):Prop:=∃k,k<=511/\Rb k r
theorem b0P (h:Rg r):a4g r= .tuple #[shR r,.int .i64 0]:=h.elim fun _ h=>d1n h.2 h.1
theorem b6l {x y:Int} (hx:b0S x) (hy:b0S y) (h:rs x%M=rs y%M):x=y:=by
 rw[c6b,c6b]at h
 rw[<-toI_rs hx,<-toI_rs hy,h]
theorem a3S (h:Rg r):b0S r.num/\b0S (r.den:Int):=by
 obtain⟨k,hk,h⟩:=h
 have h1:=c2g h hk
 exact⟨h1.1,by have:=b1y;omega,h1.2⟩
theorem c7b {o:Oper} {x y:Operand} (hr:Rg r) (hs:Rg s) (ho:o.op= .binOp .eql 58 x y 58) (hx:∀u v,a0f [x,y] [u,v] x=u) (hy:∀u v,a0f [x,y] [u,v] y=v):Yld prog o [shR r,shR s] (.bool (decide (r=s))):=by
 have h:=c5H (a:=rs r.num) (b:=rs (r.den:Int)) (c:=rs s.num) (d:=rs (s.den:Int)) ho hx hy
 have e:(decide (rs r.num%M=rs s.num%M)&&decide (rs (r.den:Int)%M=rs (s.den:Int)%M))=decide (r=s):=by
  rw[Bool.eq_iff_iff,Bool.and_eq_true,decide_eq_true_iff,decide_eq_true_iff,decide_eq_true_iff]
  constructor
  ·rintro⟨h1,h2⟩
   have e1:=b6l (a3S hr).1 (a3S hs).1 h1
   have e2:=b6l (a3S hr).2 (a3S hs).2 h2
   exact Rat.ext e1 (by omega)
  ·rintro rfl;exact⟨rfl,rfl⟩
 rw[e]at h
 exact h
theorem c7c {o:Oper} {x y:Operand} (hr:Rg r) (hs:Rg s) (ho:o.op= .binOp .neq 58 x y 58) (hx:∀u v,a0f [x,y] [u,v] x=u) (hy:∀u v,a0f [x,y] [u,v] y=v):Yld prog o [shR r,shR s] (.bool (!decide (r=s))):=by
 have h:=c5I (a:=rs r.num) (b:=rs (r.den:Int)) (c:=rs s.num) (d:=rs (s.den:Int)) ho hx hy
 have e:(decide (rs r.num%M=rs s.num%M)&&decide (rs (r.den:Int)%M=rs (s.den:Int)%M))=decide (r=s):=by
  rw[Bool.eq_iff_iff,Bool.and_eq_true,decide_eq_true_iff,decide_eq_true_iff,decide_eq_true_iff]
  constructor
  ·rintro⟨h1,h2⟩
   have e1:=b6l (a3S hr).1 (a3S hs).1 h1
   have e2:=b6l (a3S hr).2 (a3S hs).2 h2
   exact Rat.ext e1 (by omega)
  ·rintro rfl;exact⟨rfl,rfl⟩
 rw[e]at h
 exact h
theorem d1o {p q:Int} (hp:b0S p) (hq:b0S q) (h0:q≠0) (ht:Rat.divInt p q=t) (hT:Rg t):Con prog 30 [iw p,iw q] H fun u H'=>PH.le H H'/\u= .tuple #[shR t,.int .i64 0]:=
 (b2A _ _).mono fun u H' ⟨l,h⟩=>⟨l,by rw[h,toI_rs hp,toI_rs hq];unfold b0O;rw[if_neg h0,ht];exact b0P hT⟩
end
end Go.Proofs.YtmannekkmdockaaGreatDoor
/- Chapter 32: the law RecomFormula returns true. -/
namespace Go.Proofs.YtmannekkmdockaaGreatDoor
open Go.Proofs.Tryz
open Go.RowKit Go.RX Go.GS Go.RZ
open Go.WD (BP a1L wd iw rs toI HM sgI Rb b0S)
set_option maxRecDepth 100000
section
variable {H:PH} {u v w wts:Value} {l:List Nat} {p wl:List Int} {n k:Nat} {es:List (Nat×Nat)} {lo hi:Int}
theorem d6w (l:List Nat) (x y:Nat):(l++[x]).contains y=(l.contains y||decide (y=x)):=by
 rw[Bool.eq_iff_iff];simp
theorem c5J (hu:SU H u l) (y:Nat):Con prog 69 [u,GS.uv y] H fun r H'=>H'=H/\∃z:Int,r=ii z/\decide (z≥0)=l.contains y:=by
 refine a0b mixed d1k (by kernel_rfl) rfl ?_
 have hl:=hu.len
 refine a0g el_u64 rfl rfl hu rfl ?_
 refine a0E (α:=Nat×Int) (fun⟨i,p⟩=>[ii p,ii (i:Nat)]) (fun⟨i,p⟩=>i<=l.length/\(l.take i).contains y=false) (fun⟨i,p⟩=>l.length-i) ((0,0)) rfl (⟨Nat.zero_le _,rfl⟩) fun⟨i,p⟩ hQ=> ?_
 simp only[cA,nA]
 obtain⟨hi,hq⟩:=hQ
 refine a0a ⟨_,rfl⟩ ?_
 refine a0a ⟨_,rfl⟩ ?_
 refine a0e (b:=decide (((i:Nat):Int)<(l.length:Nat))) rfl (fun h=> ?_) (fun h=> ?_)
 ·replace h:=of_decide_eq_true h
  have hi':i<l.length:=by omega
  obtain⟨x,hx,hdx⟩:=a0u hi'
  refine a0i el_u64 rfl rfl rfl rfl (fun _=>rfl) hu hx rfl (fun _=>rfl) fun _=> ?_
  simp only[cA,nA]
  refine a0a ⟨_,rfl⟩ ?_
  refine a0a ⟨_,rfl⟩ ?_
  refine a0e (b:=decide (y=x)) (bEn y x) (fun hyx=> ?_) (fun hyx=> ?_)
  ·replace hyx:=of_decide_eq_true hyx
   exact a0c rfl ⟨rfl,_,rfl,by rw[List.contains_iff_mem.2 (hyx ▸ List.mem_of_getElem? hx)];exact decide_eq_true (by omega)⟩
  ·replace hyx:=of_decide_eq_false hyx
   exact⟨(i+1,p),by show l.length-(i+1)<l.length-i;omega,(a1l rfl (a0r rfl (by omega))),⟨⟨hi',by rw[take_snoc hx,d6w,hq];simp[hyx]⟩,rfl⟩⟩
 ·replace h:=of_decide_eq_false h
  rw[List.take_of_length_le (by omega)]at hq
  exact a0c rfl ⟨rfl,_,rfl,by rw[hq];rfl⟩
theorem c5K (hu:SU H u l) (y:Nat):Asks prog 26 [u,GS.uv y] H (.bool (l.contains y)):=by
 refine a0b mixed d1j (by kernel_rfl) rfl ?_
 refine a0d (c5J hu y) rfl ?_
 rintro _ _ ⟨rfl,z,rfl,hz⟩
 refine⟨fun h=>(nomatch h),?_⟩
 simp only[cA,nA]
 refine a0a ⟨_,rfl⟩ ?_
 exact a0c rfl ⟨rfl,hz ▸ rfl⟩
theorem c5L {a b:Nat} {l:List Nat} (h:l.Perm [a,b]):l=[a,b]\/l=[b,a]:=by
 have hl:=h.length_eq
 match l,hl with
 |[x,y],_=>
  have hx:=(h.mem_iff (a:=x)).1 (by simp)
  simp only[List.mem_cons,List.not_mem_nil,or_false]at hx
  rcases hx with rfl|rfl
  ·have:=(List.perm_cons x).1 h
   rw[List.singleton_perm_singleton]at this
   exact .inl (by rw[this])
  ·have h2:[x,y].Perm [x,a]:=h.trans (List.Perm.swap _ _ _)
   have:=(List.perm_cons x).1 h2
   rw[List.singleton_perm_singleton]at this
   exact .inr (by rw[this])
theorem d4t (hg:GV n es) (hn:n<=9) (h1:1<=k) (h4:k<=4) (hf:a4B n es wl lo hi (k:Nat) p=true):SitO es n k (a0m p)/\LabOk p (k:Nat)/\a3G p k/\p.length=n:=by
 obtain⟨k',he,_,_,hl,hL,hU,_⟩:=b6i hf
 obtain rfl:k=k':=by omega
 exact⟨⟨hg,hn,a3c hL hU,a2l hL hU,a8b p,by rw[a0T];exact hl,h1,h4⟩,hL,hU,hl⟩
theorem a6K (hb:bdE n wl lo hi (k:Nat)=0) (hn:n<=12) (l:List (List Int)) (hf:∀p∈l,a4B n es wl lo hi (k:Nat) p=true):smE n es wl lo hi (k:Nat) l=0:=by
 unfold smE
 rw[if_neg (by rw[hb];simp),if_neg (by omega),if_neg]
 rw[List.any_eq_true]
 rintro⟨p,hp,h⟩
 rw[hf p hp]at h;cases h
theorem d4u {H':PH} {r:Value} (h:SitO es n k (a0m p)) (hs:smE n es wl lo hi (k:Nat) [p]=0) (hO:d0X H' n es wl lo hi (k:Nat) p r):
  ∃(ps:List (List Int)) (pv ov:Value) (m:List Slc) (cont:Slc->List Int),ps.Perm ((a3v es wl lo hi n k (a0m p)).map fun x=>x.1.take n)/\r= .tuple #[pv,ov,ii 0]/\SE H' 1 (fun s:Slc=>[vs s]) pv m/\m.map cont=ps/\(∀s∈m,SI H' (vs s) (cont s))/\SE H' 16 shc ov (ps.map fun q=>tpr (vO (a3v es wl lo hi n k (a0m p)) (a0v q))):=by
 unfold d0X at hO
 rw[Int.toNat_natCast]at hO
 rcases hO with⟨h1,_⟩|⟨_,ps,h2,_,h3⟩
 ·exact absurd hs h1
 ·rcases h3 with⟨_,pv,ov,m,cont,a1,a2,a3,a4,a5⟩|⟨⟨q,hq,h4⟩,_⟩
  ·exact⟨ps,pv,ov,m,cont,h2,a1,a2,a3,a4,a5⟩
  ·obtain⟨_,h5⟩:=h.outv (h2.mem_iff.1 hq)
   rw[c6Y (h.tok h5).2.2]at h4;cases h4
theorem c2h:∀(n:Fin 10) (k:Fin 5),1<=n.val->IntKind.i64.wrap (Int.tdiv (IntKind.i64.wrap (IntKind.i64.wrap (IntKind.i64.wrap (((n.val:Nat):Int)-1)*((k.val:Nat):Int))*IntKind.i64.wrap (((k.val:Nat):Int)-1))) 2)=(((n.val-1)*(a0w k.val).length:Nat):Int):=by decide
theorem d1p {ρ:List Value} {x y:SV} (hn:n<=9) (hn1:1<=n) (hk:k<=4) (hx:D prog ρ x=ii (n:Nat)) (hy:D prog ρ y=ii (k:Nat)):D prog ρ (.op2 .quo .i64 (.op2 .mul .i64 (.op2 .mul .i64 (.op2 .sub .i64 x (.k (.int .i64 1))) y) (.op2 .sub .i64 y (.k (.int .i64 1)))) (.k (.int .i64 2)))=ii (((n-1)*(a0w k).length:Nat):Int):=by
 show Value.int .i64 (IntKind.i64.wrap (Int.tdiv (IntKind.i64.wrap (IntKind.i64.wrap (IntKind.i64.wrap (intOf (D prog ρ x)-1)*intOf (D prog ρ y))*IntKind.i64.wrap (intOf (D prog ρ y)-1))) 2))=_
 rw[hx,hy]
 exact congrArg (Value.int .i64) (c2h ⟨n,by omega⟩ ⟨k,by omega⟩ hn1)
theorem c5M {z:Nat} (h:z<=2^100):b0S ((z:Nat):Int):=by
 have h1:=c6X
 have h2:(2:Nat)^100<=2^256:=by decide
 exact⟨by omega,by omega⟩
end
theorem d1q {H:PH} {s wv cu:Value} {more:List (Nat×Nat)} {wl0 cuts:List Nat} {da db dc dk s0 s1 tr:Nat} (hT:Tb H) (hwork:a3y prog 7 [] H (.bool true)) (hs:SE H 2 bc s more) (hwv:SE H 1 c8 wv wl0) (hcu:SE H 1 c8 cu cuts) (hc256:∀c∈cuts,c<256) (htr:tr<256):
  Con prog 5 [cv da db dc s wv cu dk s0 s1 tr] H fun r H'=>PH.le H H'/\r= .bool true:=by
 refine a0b mixed d4r (by kernel_rfl) rfl ?_
 refine a0a (c6J (a0A hs) (a0A hwv) (a0A hcu) _ _ _ _ _ _ _) ?_
 refine a0q (hwork) rfl fun H1 l1=> ?_
 simp only[cA,nA]
 refine a0a ⟨_,rfl⟩ ?_
 refine a0j rfl ?_
 refine a0d (b3Z (hs.mono l1) (hwv.mono l1) (hcu.mono l1) hc256 htr) rfl ?_
 rintro v2 H2 ⟨l2,n,w,es,wts,wl,lo,hi,k,u,p,rfl,hw,hg,hn9,hC,hwt,hk1,hk4,hu,hbd,hft⟩
 refine⟨fun h=>(nomatch h),?_⟩
 simp only[cA,nA]
 have hn1:=hg.n1
 have hT2:=hT.mono (l1.trans l2)
 obtain⟨hS,hL,hU,hpl⟩:=d4t hg hn9 hk1 hk4 hft
 have hL8:LabOk p 8:=⟨fun x hx=>by have:=hL.1 x hx;omega,hL.2⟩
 refine a0a ⟨_,rfl,by simp⟩ ?_
 refine a0a ⟨_,rfl,by simp⟩ ?_
 refine a0a ⟨_,rfl,by simp⟩ ?_
 refine a0a (a0S hw) ?_
 refine a0a (a2y (a0A hwt) _ _ _) ?_
 refine a0d (a5l hu hL8) rfl ?_
 rintro _ H3 ⟨l3,z3,rfl,hz3⟩
 refine⟨fun h=>(nomatch h),?_⟩
 simp only[cA,nA]
 refine a0a ⟨_,rfl,by simp⟩ ?_
 refine a0a ⟨_,rfl,by simp⟩ ?_
 refine a0d (a8h (hT2.mono l3) (hw.mono l3) hg (hwt.mono l3) (hu.mono l3)) rfl ?_
 rintro v4 H4 ⟨l4,hO⟩
 refine⟨fun h=>(nomatch h),?_⟩
 simp only[cA,nA]
 obtain⟨ps,pv,ov,m,cont,hps,rfl,hpv,hmc,hmS,hov⟩:=d4u hS (a6K hbd (by omega) [p] (fun q hq=>by rw[List.mem_singleton.1 hq];exact hft)) hO
 refine a0a ⟨_,rfl,by simp⟩ ?_
 refine a0a ⟨_,rfl,by simp⟩ ?_
 refine a0a ⟨_,rfl,by simp⟩ ?_
 refine a0d (a6x (hz3.se.mono l4) k hk1 (by omega) hS.lab hS.used) rfl ?_
 rintro _ H5 ⟨l5,z5,rfl,hz5⟩
 refine⟨fun h=>(nomatch h),?_⟩
 simp only[cA,nA]
 refine a0a ⟨_,rfl,by simp⟩ ?_
 refine a0a ⟨_,rfl,by simp⟩ ?_
 refine a0a ⟨_,rfl⟩ ?_
 refine a0j rfl ?_
 refine a0a ⟨_,rfl⟩ ?_
 refine a0j rfl ?_
 refine a0g a1X rfl rfl (hpv.mono l5) rfl ?_
 simp only[cA,nA]
 refine a0g a4n rfl rfl (hov.mono l5) rfl ?_
 simp only[cA,nA]
 have hml:m.length=ps.length:=by rw[<-hmc,List.length_map]
 have hll:(ps.map fun q=>tpr (vO (a3v es wl lo hi n k (a0m p)) (a0v q))).length=m.length:=by rw[List.length_map,hml]
 rw[hll]
 refine a0a ⟨_,rfl⟩ ?_
 refine a0a ⟨_,rfl⟩ ?_
 refine a0j (by show Value.bool (((m.length:Nat):Int) !=((m.length:Nat):Int))=_;rw[bne_self_eq_false]) ?_
 refine a0g a1X rfl rfl (hpv.mono l5) rfl ?_
 simp only[cA,nA]
 have hm0:=hpv.len
 refine a0k (α:=Nat) (fun i=>[.bool false,ii (i:Nat)]) (fun i=>fun H'=>i<=m.length/\PH.le H5 H') (fun i=>m.length-i) (0) rfl (⟨Nat.zero_le _,PH.le.refl _⟩) fun i H6 ⟨hi6,l6⟩=> ?_
 simp only[cA,nA]
 refine a0a ⟨_,rfl⟩ ?_
 refine a0a ⟨_,rfl⟩ ?_
 refine a0e (b:=decide (((i:Nat):Int)<(m.length:Nat))) rfl (fun h=> ?_) (fun h=> ?_)
 ·replace h:=of_decide_eq_true h
  have hi':i<m.length:=by omega
  obtain⟨sl,hsl,_⟩:=a0u hi'
  have hsm:=List.mem_of_getElem? hsl
  refine a0i a1X rfl rfl rfl rfl (fun _=>rfl) (hpv.mono (l5.trans l6)) hsl rfl (fun _=>rfl) fun _=> ?_
  simp only[cA,nA]
  have hq0:=(hmS sl hsm).mono (l5.trans l6)
  have hqi:ps[i]? =some (cont sl):=by rw[<-hmc,List.getElem?_map,hsl];rfl
  have hqm:=hps.mem_iff.1 (List.mem_of_getElem? hqi)
  generalize hqe:cont sl=q at hq0 hqi hqm
  refine a0I (c5b hq0 (hz3.se.mono (l4.trans (l5.trans l6)))) rfl ?_
  simp only[cA,nA]
  refine a0a ⟨_,rfl⟩ ?_
  refine a0e (b:=decide (q=a0m p)) rfl (fun hqp=> ?_) (fun hqp=> ?_)
  ·replace hqp:=of_decide_eq_true hqp
   exact⟨i+1,by omega,(a1l rfl (a0r rfl (by omega))),⟨by omega,l6⟩⟩
  ·replace hqp:=of_decide_eq_false hqp
   obtain⟨x,hx,rfl⟩:=(hS.out hqm).resolve_right (fun h=>hqp h.1)
   have hH:=hS.hit hx
   have hV:=hS.hitv hx
   have hVv:=hS.val hx
   have hN:=hS.next hH.pr hH.pl
   have hP:=hS.pr hH.pr
   refine a0d (a6x hq0 k hk1 (by omega) hN.lab hN.used) rfl ?_
   rintro _ H7 ⟨l7,z7,rfl,hz7⟩
   refine⟨fun h=>(nomatch h),?_⟩
   simp only[cA,nA]
   refine a0a ⟨_,rfl,by simp⟩ ?_
   refine a0a ⟨_,rfl,by simp⟩ ?_
   refine a0g el_u64 rfl rfl hz7 rfl ?_
   simp only[cA,nA]
   have hmk:(masks (a2s (a0m p) x.1 x.2) k).length=k:=by unfold masks;exact a5a _ _ _
   have hz7l:=hz7.len
   have hfr:=hH.prt.fresh (by rw[hS.can];exact fun e=>hH.ne e.symm)
   have hnx:a0m (a4m (a0m p) (x.1.1:Nat) (x.1.2:Nat) x.2)=a2s (a0m p) x.1 x.2:=rfl
   rw[hnx]at hfr
   have h56:=l6.trans l7
   refine a0k (α:=Nat×Value) (fun⟨j,v⟩=>[v,ii (j:Nat)]) (fun⟨j,v⟩=>fun H'=>j<=(masks (a2s (a0m p) x.1 x.2) k).length/\PH.le H7 H'/\SO H7 H' 54 1 (fun s:Nat=>[GS.uv s]) v (((masks (a2s (a0m p) x.1 x.2) k).take j).filter fun m=> !(masks (a0m p) k).contains m)) (fun⟨j,v⟩=>(masks (a2s (a0m p) x.1 x.2) k).length-j) ((0,.slice none 0 0)) rfl (⟨Nat.zero_le _,PH.le.refl _,SO.nil _ _ _ _ _⟩) fun⟨j,v⟩ H8 ⟨hj,l8,o8⟩=> ?_
   simp only[cA,nA]
   refine a0a ⟨_,rfl⟩ ?_
   refine a0a ⟨_,rfl⟩ ?_
   refine a0e (b:=decide (((j:Nat):Int)<((masks (a2s (a0m p) x.1 x.2) k).length:Nat))) rfl (fun h=> ?_) (fun h=> ?_)
   ·replace h:=of_decide_eq_true h
    have hj':j<(masks (a2s (a0m p) x.1 x.2) k).length:=by omega
    obtain⟨y,hy,_⟩:=a0u hj'
    refine a0i el_u64 rfl rfl rfl rfl (fun _=>rfl) (hz7.mono l8) hy rfl (fun _=>rfl) fun _=> ?_
    simp only[cA,nA]
    refine a0I (c5K (hz5.mono (h56.trans l8)) y) rfl ?_
    simp only[cA,nA]
    have hst:((masks (a2s (a0m p) x.1 x.2) k).take (j+1)).filter (fun m=> !(masks (a0m p) k).contains m)=((masks (a2s (a0m p) x.1 x.2) k).take j).filter (fun m=> !(masks (a0m p) k).contains m)++if(!(masks (a0m p) k).contains y)=true then[y]else[]:=by
     rw[take_snoc hy,List.filter_append]
     congr 1
     rw[List.filter_cons];split<;>rfl
    have hfl:(((masks (a2s (a0m p) x.1 x.2) k).take j).filter fun m=> !(masks (a0m p) k).contains m).length<=j:=Nat.le_trans (List.length_filter_le _ _) (by rw[List.length_take];omega)
    refine a0a ⟨_,rfl⟩ ?_
    refine a0e (b:= !(masks (a0m p) k).contains y) rfl (fun hcy=> ?_) (fun hcy=> ?_)
    ·skip
     refine a2o el_u64 rfl rfl rfl (fun _=>rfl) (fun _=>rfl) l8 o8 (by omega) rfl (fun _=>rfl) rfl fun q v9 H9 l9 o9=> ?_
     simp only[cA,nA]
     exact⟨(j+1,v9),by show _-(j+1)<_-j;omega,(a1l rfl (a0r rfl (by omega))),⟨(by show j+1<=_;omega),l9,by show SO _ _ _ _ _ _ (((masks (a2s (a0m p) x.1 x.2) k).take (j+1)).filter _);rw[hst,if_pos hcy];exact o9⟩⟩
    ·skip
     exact⟨(j+1,v),by show _-(j+1)<_-j;omega,(a1l rfl (a0r rfl (by omega))),⟨(by show j+1<=_;omega),l8,by show SO _ _ _ _ _ _ (((masks (a2s (a0m p) x.1 x.2) k).take (j+1)).filter _);rw[hst,hcy,if_neg (by simp),List.append_nil];exact o8⟩⟩
   ·replace h:=of_decide_eq_false h
    rw[List.take_of_length_le (show(masks (a2s (a0m p) x.1 x.2) k).length<=j by omega)]at o8
    obtain⟨a,b,hab,habc⟩:∃a b:Nat,((masks (a2s (a0m p) x.1 x.2) k).filter fun m=> !(masks (a0m p) k).contains m)=[a,b]/\((a=x.2/\b=sdf (unP (a0m p) x.1) x.2)\/(a=sdf (unP (a0m p) x.1) x.2/\b=x.2)):=by
     rcases c5L hfr with h|h
     ·exact⟨_,_,h,.inl ⟨rfl,rfl⟩⟩
     ·exact⟨_,_,h,.inr ⟨rfl,rfl⟩⟩
    rw[hab]at o8
    refine a0a ⟨_,rfl⟩ ?_
    refine a0j rfl ?_
    refine a0g el_u64 rfl rfl o8.se rfl ?_
    refine a0a ⟨_,rfl⟩ ?_
    refine a0j rfl ?_
    have hbs:∀y,bit (sdf (unP (a0m p) x.1) x.2) y=true->bit (unP (a0m p) x.1) y=true:=fun y hy=>by rw[a0y,Bool.and_eq_true]at hy;exact hy.1
    have hor:a|||b=unP (a0m p) x.1:=by
     have e:x.2|||sdf (unP (a0m p) x.1) x.2=unP (a0m p) x.1:=a0G fun y=>by
      rw[a0F,a0y]
      cases ha:bit x.2 y with
      |true=>rw[hH.sub y ha];simp
      |false=>simp
     rcases habc with⟨rfl,rfl⟩|⟨rfl,rfl⟩
     ·exact e
     ·rw[Nat.or_comm];exact e
    have ha2:(a≠0/\a<2^n)/\(b≠0/\b<2^n):=by
     rcases habc with⟨rfl,rfl⟩|⟨rfl,rfl⟩
     ·exact⟨hH.a0,hH.b0⟩
     ·exact⟨hH.b0,hH.a0⟩
    have hmu:tn es a*tn es b=tn es x.2*tn es (sdf (unP (a0m p) x.1) x.2):=by
     rcases habc with⟨rfl,rfl⟩|⟨rfl,rfl⟩
     ·rfl
     ·rw[Nat.mul_comm]
    have hn64:n<=64:=by omega
    have haM:=a1g hn64 ha2.1.2
    have hbM:=a1g hn64 ha2.2.2
    have sa:=a5q hg haM (Nat.le_trans (b3G ha2.1.2 hn64) hn9)
    have sb:=a5q hg hbM (Nat.le_trans (b3G ha2.2.2 hn64) hn9)
    have ss:=a5q hg hP.sM (Nat.le_trans hP.cd hn9)
    have ea:b2D a es [] []=((tn es a:Nat):Int):=a6q haM ha2.1.1
    have eb:b2D b es [] []=((tn es b:Nat):Int):=a6q hbM ha2.2.1
    have eS:b2D (unP (a0m p) x.1) es [] []=((tn es (unP (a0m p) x.1):Nat):Int):=a6q hP.sM hP.s0
    have hfit:∀z:Nat,z<=2^100->b0S ((z:Nat):Int):=fun z hz=>c5M hz
    have hT8:=hT2.mono (l3.trans (l4.trans (l5.trans (h56.trans l8))))
    have hw8:=hw.mono (l3.trans (l4.trans (l5.trans (h56.trans l8))))
    refine a0i el_u64 rfl rfl rfl rfl (fun _=>rfl) o8.se (show[a,b][0]? =some a from rfl) rfl (fun _=>rfl) fun _=> ?_
    simp only[cA,nA]
    refine a0d (a6F hw8 hg ha2.1 haM hT8) rfl ?_
    rintro _ H9 ⟨l9,rfl⟩
    refine⟨(fun _=>l9),?_⟩
    simp only[cA,nA]
    rw[show told (b2D a es [] [])= .tuple #[wd (rs ((tn es a:Nat):Int)),ii 0]from by rw[ea];exact if_pos (hfit _ (by omega))]
    refine a0a ⟨_,rfl,by simp⟩ ?_
    refine a0a ⟨_,rfl,by simp⟩ ?_
    refine a0a (a4E _) ?_
    refine a0i el_u64 rfl rfl rfl rfl (fun _=>rfl) (o8.se.mono l9) (show[a,b][1]? =some b from rfl) rfl (fun _=>rfl) fun _=> ?_
    simp only[cA,nA]
    refine a0d (a6F (hw8.mono l9) hg ha2.2 hbM (hT8.mono l9)) rfl ?_
    rintro _ H10 ⟨l10,rfl⟩
    refine⟨(fun _=>l10),?_⟩
    simp only[cA,nA]
    rw[show told (b2D b es [] [])= .tuple #[wd (rs ((tn es b:Nat):Int)),ii 0]from by rw[eb];exact if_pos (hfit _ (by omega))]
    refine a0a ⟨_,rfl,by simp⟩ ?_
    refine a0a ⟨_,rfl,by simp⟩ ?_
    refine a0a (a4E _) ?_
    refine a0i el_u64 rfl rfl rfl rfl (fun _=>rfl) ((o8.se.mono l9).mono l10) (show[a,b][0]? =some a from rfl) rfl (fun _=>rfl) fun _=> ?_
    simp only[cA,nA]
    refine a0i el_u64 rfl rfl rfl rfl (fun _=>rfl) ((o8.se.mono l9).mono l10) (show[a,b][1]? =some b from rfl) rfl (fun _=>rfl) fun _=> ?_
    simp only[cA,nA]
    refine a0a ⟨_,rfl⟩ ?_
    refine a0a ⟨_,rfl⟩ ?_
    refine a0d (a6F ((hw8.mono l9).mono l10) hg ⟨hP.s0,hP.s2⟩ hP.sM ((hT8.mono l9).mono l10)) (a1l rfl (by rw[a8o (A:=a) (B:=b) rfl rfl haM hbM,hor])) ?_
    rintro _ H11 ⟨l11,rfl⟩
    refine⟨(fun _=>l11),?_⟩
    simp only[cA,nA]
    rw[show told (b2D (unP (a0m p) x.1) es [] [])= .tuple #[wd (rs ((tn es (unP (a0m p) x.1):Nat):Int)),ii 0]from by rw[eS];exact if_pos (hfit _ (by omega))]
    refine a0a ⟨_,rfl,by simp⟩ ?_
    refine a0a ⟨_,rfl,by simp⟩ ?_
    refine a0a (a4E _) ?_
    have hab36:tn es a*tn es b<=2^36*2^36:=Nat.mul_le_mul sa sb
    have hab100:tn es a*tn es b<=2^100:=Nat.le_trans hab36 (by decide)
    refine a0s ((by have:=c6H (x:=((tn es a:Nat):Int)) (y:=((tn es b:Nat):Int)) (hfit _ (by omega)) (hfit _ (by omega));rw[<-Int.natCast_mul,show told (((tn es a*tn es b:Nat):Int))= .tuple #[iw ((tn es a*tn es b:Nat):Int),ii 0]from if_pos (hfit _ hab100)]at this;exact this)) rfl ?_
    simp only[cA,nA]
    refine a0a ⟨_,rfl,by simp⟩ ?_
    refine a0a ⟨_,rfl,by simp⟩ ?_
    refine a0a (a4E _) ?_
    obtain⟨hn1',hm1,hm6⟩:=hS.n2 hH.pr
    have hnm:(n-1)*(a0w k).length<=8*6:=Nat.mul_le_mul (by omega) hm6
    refine a0a ⟨_,rfl⟩ ?_
    refine a0a ⟨_,rfl⟩ ?_
    refine a0s ((b4C (((n-1)*(a0w k).length:Nat):Int) (by omega) (by omega))) (a3k (d1p hn9 hn1 hk4 rfl rfl)) ?_
    simp only[cA,nA]
    have hS36:tn es (unP (a0m p) x.1)*((n-1)*(a0w k).length)<=2^36*(8*6):=Nat.mul_le_mul ss hnm
    have hS100:tn es (unP (a0m p) x.1)*((n-1)*(a0w k).length)<=2^100:=Nat.le_trans hS36 (by decide)
    refine a0s ((by have:=c6H (x:=((tn es (unP (a0m p) x.1):Nat):Int)) (y:=(((n-1)*(a0w k).length:Nat):Int)) (hfit _ (by omega)) (hfit _ (by omega));rw[<-Int.natCast_mul,show told (((tn es (unP (a0m p) x.1)*((n-1)*(a0w k).length):Nat):Int))= .tuple #[iw ((tn es (unP (a0m p) x.1)*((n-1)*(a0w k).length):Nat):Int),ii 0]from if_pos (hfit _ hS100)]at this;exact this)) rfl ?_
    simp only[cA,nA]
    refine a0a ⟨_,rfl,by simp⟩ ?_
    refine a0a ⟨_,rfl,by simp⟩ ?_
    refine a0a (a4E _) ?_
    have hD0:0<tn es (unP (a0m p) x.1)*((n-1)*(a0w k).length):=Nat.mul_pos (Nat.pos_of_ne_zero hH.ts) (Nat.mul_pos hn1' hm1)
    have hve:Rat.divInt ((tn es a*tn es b:Nat):Int) ((tn es (unP (a0m p) x.1)*((n-1)*(a0w k).length):Nat):Int)=b6g es n (a0w k).length (a0m p) x.1 x.2:=by rw[Rat.divInt_eq_div,hmu];exact(b6j hP hn64 hH.pl).symm
    have hRg:Rg (b6g es n (a0w k).length (a0m p) x.1 x.2):=⟨256,by decide,hVv.2.2⟩
    refine a0d (d1o (p:=((tn es a*tn es b:Nat):Int)) (q:=((tn es (unP (a0m p) x.1)*((n-1)*(a0w k).length):Nat):Int)) (hfit _ hab100) (hfit _ hS100) (by omega) hve hRg) rfl ?_
    rintro _ H12 ⟨l12,rfl⟩
    refine⟨fun h=>(nomatch h),?_⟩
    simp only[cA,nA]
    refine a0a ⟨_,rfl,by simp⟩ ?_
    refine a0a ⟨_,rfl,by simp⟩ ?_
    refine a0a (a1O _ _) ?_
    refine a0a ⟨_,rfl⟩ ?_
    refine a0j rfl ?_
    refine a0a ⟨_,rfl⟩ ?_
    refine a0j rfl ?_
    refine a0a ⟨_,rfl⟩ ?_
    refine a0j rfl ?_
    refine a0a ⟨_,rfl⟩ ?_
    refine a0j rfl ?_
    refine a0a ⟨_,rfl⟩ ?_
    refine a0j rfl ?_
    refine a0a ⟨_,rfl⟩ ?_
    refine a0j rfl ?_
    have l612:PH.le H6 H12:=l7.trans (l8.trans (l9.trans (l10.trans (l11.trans l12))))
    refine a0i a4n rfl rfl rfl rfl (fun _=>rfl) (hov.mono (l5.trans (l6.trans l612))) (show(ps.map fun q=>tpr (vO (a3v es wl lo hi n k (a0m p)) (a0v q)))[i]? =some (tpr (b6g es n (a0w k).length (a0m p) x.1 x.2))from by rw[List.getElem?_map,hqi,Option.map_some,hV]) rfl (fun _=>rfl) fun _=> ?_
    simp only[cA,nA]
    refine a0h ((c7c hRg hRg rfl (fun _ _=>rfl) (fun _ _=>rfl)).rds _) rfl ?_
    simp only[cA,nA]
    refine a0a ⟨_,rfl⟩ ?_
    refine a0j rfl ?_
    exact⟨i+1,by omega,(a1l rfl (a0r rfl (by omega))),⟨by omega,l6.trans l612⟩⟩
 ·replace h:=of_decide_eq_false h
  exact a0c rfl ⟨l1.trans (l2.trans (l3.trans (l4.trans (l5.trans l6)))),rfl⟩
end Go.Proofs.YtmannekkmdockaaGreatDoor

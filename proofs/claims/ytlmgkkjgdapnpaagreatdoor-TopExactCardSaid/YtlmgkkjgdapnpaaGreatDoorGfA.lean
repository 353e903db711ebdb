/- Rolls: what is valid. -/
import Derived.Test.YtlmgkkjgdapnpaaGreatDoorGfS
import Derived.Test.YtlmgkkjgdapnpaaGreatDoorGeC
namespace Go.GS
structure Un where
 name:List UInt8
 ppl:Int
 grp:List Int
 vot:List Int
 par:List Int
 wat:Bool
def d3w:List UInt8:=[65,66,67,68,69,70,71,72,73,74,75,76,77,78,79,80,81,82,83,84,85,86,87,88,89,90,97,98,99,100,101,102,103,104,105,106,107,108,109,110,111,112,113,114,115,116,117,118,119,120,121,122,48,49,50,51,52,53,54,55,56,57,45,95]
structure UnV (x:Un):Prop where
 n0:x.name≠[]
 n12:x.name.length<=12
 trm:Go.Lib.trimS x.name d3w=[]
 p0:0<=x.ppl
 p1:x.ppl<=if x.wat then 0 else 1000000000
 gl:x.grp.length=2
 gz:∀z∈x.grp,0<=z/\z<=x.ppl
 vl:x.vot.length=3
 vz:∀z∈x.vot,0<=z/\z<=if x.wat then 0 else 1000000000
 pl:x.par.length=2
 pz:∀z∈x.par,0<=z/\z<=if x.wat then 0 else 63
structure RoV (n:Nat) (us:List Un):Prop where
 n1:1<=n
 le:n<=us.length
 l64:us.length<=64
 un:∀x∈us,UnV x
 wat:∀(i:Nat) x,us[i]? =some x->x.wat=decide (n<=i)
 nd:(us.map (·.name)).Nodup
end Go.GS
namespace Go.Proofs.YtlmgkkjgdapnpaaGreatDoor
open Go.Proofs.Tryz
open Go.RowKit Go.RX Go.GS
set_option maxRecDepth 100000
structure UC where
 name:List UInt8
 ppl:Int
 grp:Slc
 vot:Slc
 par:Slc
 wat:Bool
def ceU (u:UC):List Value:=[st u.name,ii u.ppl,vs u.grp,vs u.vot,vs u.par,.bool u.wat]
def veU (u:UC):Value:= .agg (ceU u).toArray
theorem a1O (u:UC):(veU u).cells.size=6/\a0p (veU u).cells:=⟨rfl,fun c hc=>by
 simp[veU,ceU,Value.cells]at hc
 rcases hc with rfl|rfl|rfl|rfl|rfl|rfl<;>rfl⟩
theorem a0U:El prog 33 52 6 true ceU veU where
 und:=by kernel_rfl
 has:=by kernel_rfl
 cel:=by kernel_rfl
 agg:=by kernel_rfl
 pos:=by decide
 one1:=fun h=>by cases h
 small:=by decide
 inf:=⟨(prog.info? 52).getD default,veU ⟨[],0,(none,0,0),(none,0,0),(none,0,0),false⟩,by kernel_rfl,by kernel_rfl,by kernel_rfl,rfl,of_decide_eq_true (by kernel_rfl)⟩
 len:=fun p=>rfl
 val:=fun p=>rfl
 cells:=fun p=>rfl
 one:=fun p c hc=>(a1O p).2 c (by simpa[veU,Value.cells]using hc)
structure UnR (H:PH) (u:UC) (x:Un):Prop where
 name:u.name=x.name
 ppl:u.ppl=x.ppl
 wat:u.wat=x.wat
 grp:SI H (vs u.grp) x.grp
 vot:SI H (vs u.vot) x.vot
 par:SI H (vs u.par) x.par
theorem UnR.mono {H H':PH} {u:UC} {x:Un} (h:UnR H u x) (hl:PH.le H H'):UnR H' u x:=⟨h.name,h.ppl,h.wat,h.grp.mono hl,h.vot.mono hl,h.par.mono hl⟩
def RoR (H:PH) (w:Value) (us:List Un):Prop:=∃l:List UC,SE H 6 ceU w l/\l.length=us.length/\∀(i:Nat) u x,l[i]? =some u->us[i]? =some x->UnR H u x
theorem RoR.mono {H H':PH} {w:Value} {us:List Un} (h:RoR H w us) (hl:PH.le H H'):RoR H' w us:=by
 obtain⟨l,h1,h2,h3⟩:=h
 exact⟨l,h1.mono hl,h2,fun i u x a b=>(h3 i u x a b).mono hl⟩
def rov (w:Value):Value:= .agg #[ii 2,ii 3,ii 2,w]
theorem a1A {w:Value} (h:a3G w=true):(rov w).cells.size=4/\a0p (rov w).cells:=⟨rfl,fun c hc=>by
 simp[rov,Value.cells]at hc
 rcases hc with rfl|rfl|rfl|rfl
 ·rfl
 ·rfl
 ·rfl
 ·exact h⟩
section
variable {H:PH} {u v w:Value} {n:Nat} {us:List Un}
theorem RoR.one (h:RoR H w us):a3G w=true:=by
 obtain⟨l,h1,_⟩:=h;exact a0I h1
theorem c5Z (l:List UInt8) (h0:l≠[]) (hl:l.length<=100):a1g prog 124 [st l,st d3w] H (st (Go.Lib.trimS l d3w)):=fun w hw=>by
 have hp:0<l.length:=List.length_pos_iff.2 h0
 have hi:(prog.info? (Go.Proofs.Tryz.lays160_ren.t 116)).map (fun i=>(i.zero,i.size))=some (some (.agg (Array.replicate 256 (.bool false))),256):=by kernel_rfl
 have h:=Go.Proofs.Any.strings_Trim_set Go.Proofs.Tryz.lays160 (Go.zero_of_info hi).1 (Go.zero_of_info hi).2 (ba l) (ba d3w) w (by rw[a3S];decide) (by rw[a3S];exact hp) (by rw[a3S];omega) (by rw[a3S];decide) (Go.Proofs.ascii_of_all (by decide))
 exact h.mono fun e w' ⟨he,q,hb⟩=>⟨_,H,he,Step.of_ext hw (by
  subst hb
  exact((Ext.alloc w _).trans (Ext.alloc _ _)).trans ⟨rfl,rfl,rfl,Nat.le_refl _,fun _ _=>rfl,Nat.le_add_right _ _⟩),PH.le.refl _,rfl⟩
theorem d4W (l:List Bool):(!l.contains false)=l.all id:=by
 induction l with
 |nil=>rfl
 |cons a l ih=>rw[List.contains_cons,List.all_cons,<-ih];cases a<;>simp
theorem c6a {l:List Bool} (hu:SE H 1 (fun b:Bool=>[.bool b]) u l) (hl:l.length<1000000) (y:Bool):Con prog 178 [u,.bool y] H fun r H'=>H'=H/\∃z:Int,r=ii z/\decide (z≥0)=l.contains y:=by
 refine a0b mixed d0D (by kernel_rfl) rfl ?_
 refine a0j a2B rfl rfl hu rfl ?_
 refine a0W (α:=Nat×Int) (fun⟨i,p⟩=>[ii p,ii (i:Nat)]) (fun⟨i,p⟩=>i<=l.length/\(l.take i).contains y=false) (fun⟨i,p⟩=>l.length-i) ((0,0)) rfl (⟨Nat.zero_le _,rfl⟩) fun⟨i,p⟩ hQ=> ?_
 simp only[cA,nA]
 obtain⟨hi,hq⟩:=hQ
 refine a0a ⟨_,rfl⟩ ?_
 refine a0a ⟨_,rfl⟩ ?_
 refine a0f (b:=decide (((i:Nat):Int)<(l.length:Nat))) rfl (fun h=> ?_) (fun h=> ?_)
 ·replace h:=of_decide_eq_true h
  have hi':i<l.length:=by omega
  obtain⟨x,hx,hdx⟩:=a0t hi'
  refine a0m a2B rfl rfl rfl rfl (fun _=>rfl) hu hx rfl (fun _=>rfl) fun _=> ?_
  simp only[cA,nA]
  refine a0a ⟨_,rfl⟩ ?_
  refine a0a ⟨_,rfl⟩ ?_
  refine a0f (b:=(false !=(y==x))) rfl (fun hyx=> ?_) (fun hyx=> ?_)
  ·skip
   exact a0c rfl ⟨rfl,_,rfl,by rw[List.contains_iff_mem.2 (by have:=List.mem_of_getElem? hx;simp at hyx;rw[hyx];exact this)];exact decide_eq_true (by omega)⟩
  ·skip
   exact⟨(i+1,p),by show l.length-(i+1)<l.length-i;omega,(a0R rfl (a0J rfl (by omega))),⟨⟨hi',by rw[take_snoc hx,List.contains_append,hq];simp at hyx;simp[hyx]⟩,rfl⟩⟩
 ·replace h:=of_decide_eq_false h
  rw[List.take_of_length_le (by omega)]at hq
  exact a0c rfl ⟨rfl,_,rfl,by rw[hq];rfl⟩
theorem a5z {l:List Bool} (hu:SE H 1 (fun b:Bool=>[.bool b]) u l) (hl:l.length<1000000):Asks prog 75 [u] H (.bool (l.all id)):=by
 refine a0b mixed d0v (by kernel_rfl) rfl ?_
 have hsct:Asks prog 123 [u,.bool false] H (.bool (l.contains false)):=by
  refine a0b mixed d0C (by kernel_rfl) rfl ?_
  refine a0d (c6a hu hl false) rfl ?_
  rintro _ _ ⟨rfl,z,rfl,hz⟩
  refine⟨fun h=>(nomatch h),?_⟩
  simp only[cA,nA]
  refine a0a ⟨_,rfl⟩ ?_
  exact a0c rfl ⟨rfl,hz ▸ rfl⟩
 refine a0q (hsct) rfl ?_
 simp only[cA,nA]
 refine a0a ⟨_,rfl⟩ ?_
 exact a0c rfl ⟨rfl,by rw[<-d4W];rfl⟩
theorem c0u:a1q prog 186=true:=by kernel_rfl
theorem c0v {b:Nat} {T:TypeId} {mx:Int} (hb:H b=some (.cells #[ii mx] T (0,0))) (x:Int):Asks prog 186 [ii x,.pointer (some ⟨b,0,none⟩)] H (.bool (decide (x<0)||decide (x>mx))):=by
 refine a0b mixed c5q (by kernel_rfl) rfl ?_
 refine a0a ⟨_,rfl⟩ ?_
 refine a0f (b:=decide (x<0)) rfl (fun h=> ?_) (fun h=> ?_)
 ·replace h:=of_decide_eq_true h
  exact a0c rfl ⟨rfl,by rw[decide_eq_true h];rfl⟩
 ·replace h:=of_decide_eq_false h
  refine a0g sc_int rfl rfl hb rfl rfl ?_
  simp only[cA,nA]
  refine a0a ⟨_,rfl⟩ ?_
  exact a0c rfl ⟨rfl,by rw[decide_eq_false h];rfl⟩
theorem a8f {l:List Int} {k:Nat} {mx:Int} (hu:SI H u l) (hl:l.length=k) (hz:∀z∈l,0<=z/\z<=mx):a1g prog 125 [u,ii (k:Nat),ii mx] H (.bool true):=by
 refine a0b mixed d0w (by kernel_rfl) rfl ?_
 refine a0a (el_int.vcells mx) ?_
 refine a0A (cs:= #[ii mx]) rfl fun b hb=> ?_
 simp only[cA,nA]
 refine a0j el_int rfl rfl (hu.mono (PH.le_put hb _)) rfl ?_
 refine a0a ⟨_,rfl⟩ ?_
 refine a0a ⟨_,rfl⟩ ?_
 refine a0K (bT (p:=((l.length:Nat):Int)=((k:Nat):Int)) (by omega)) ?_
 refine a0O (a0z (vs:=[.pointer (some ⟨b,0,none⟩)]) rfl rfl) rfl ?_
 simp only[cA,nA]
 have hb2:=PH.put_self H b (.cells #[ii mx] 3 (0,0))
 refine a0h (a7V (caps:=[.pointer (some ⟨b,0,none⟩)]) (q:=fun x=>decide (x<0)||decide (x>mx)) (hu.mono (PH.le_put hb _)) c0u (fun H' x hle _=>(c0v (hle _ _ hb2) x).give)) rfl fun H2 l2=> ?_
 simp only[cA,nA]
 have hany:(l.any fun x=>decide (x<0)||decide (x>mx))=false:=by
  rw[List.any_eq_false]
  intro x hx
  have:=hz x hx
  simp;omega
 rw[hany]
 refine a0a ⟨_,rfl⟩ ?_
 exact a0c rfl ⟨(PH.le_put hb _).trans l2,rfl⟩
theorem a8g:prog.underlying 9=some .string:=by kernel_rfl
theorem d1j:prog.eqGuardType prog.depth 9=false:=by kernel_rfl
theorem c0w:prog.underlying 164=some (.map 9 4):=by kernel_rfl
theorem d1k:∀w,(zeroValue 4).run prog w= .ok (.bool false) w:=fun w=>by rfl
theorem c0x {u:UC} {x:Un} (hw:a3G w=true) (hu:UnR H u x) (hx:UnV x):a1g prog 76 [rov w,veU u] H (.bool true):=by
 refine a0b mixed d0x (by kernel_rfl) rfl ?_
 have hn:=hu.name
 have hp:=hu.ppl
 have hwt:=hu.wat
 have hn0:u.name≠[]:=hn ▸ hx.n0
 have hn12:u.name.length<=12:=hn ▸ hx.n12
 refine a0a (a1A hw) ?_
 refine a0a (a1O u) ?_
 refine⟨(fun l H'=>l=[ii (if x.wat then 0 else 1000000000),ii (if x.wat then 0 else 63)]/\H'=H),?_,?_⟩
 ·skip
  refine a0a ⟨_,rfl⟩ ?_
  refine a0f (b:=u.wat) rfl (fun hb=> ?_) (fun hb=> ?_)
  ·skip
   exact⟨by rw[<-hwt,hb];rfl,rfl⟩
  ·skip
   exact⟨by rw[<-hwt,hb];rfl,rfl⟩
 rintro vals H' _ ⟨rfl,rfl⟩
 simp only[cA,nA]
 refine a0l ((d3P (l:=u.name) (m:=[]) (vs:=[st u.name,st []]) rfl rfl rfl).rds _) rfl ?_
 simp only[cA,nA]
 refine a0l ((d3O (l:=u.name) (vs:=[st u.name]) rfl rfl a8g).rds _) rfl ?_
 simp only[cA,nA]
 refine a0a ⟨_,rfl⟩ ?_
 refine a0a ⟨_,rfl⟩ ?_
 refine a0a ⟨_,rfl⟩ ?_
 refine a0h (c5Z u.name hn0 (by omega)) rfl fun H1 l1=> ?_
 simp only[cA,nA]
 rw[show Go.Lib.trimS u.name d3w=[]from hn ▸ hx.trm]
 refine a0l ((d6x (l:=[]) (m:=[]) (vs:=[st [],st []]) rfl rfl rfl a8g d1j).rds _) rfl ?_
 simp only[cA,nA]
 refine a0h (a8f (hu.grp.mono l1) hx.gl (mx:=u.ppl) (fun z hz=>by rw[hp];exact hx.gz z hz)) rfl fun H2 l2=> ?_
 simp only[cA,nA]
 refine a0h (a8f (hu.vot.mono (l1.trans l2)) hx.vl hx.vz) rfl fun H3 l3=> ?_
 simp only[cA,nA]
 refine a0h (a8f (hu.par.mono ((l1.trans l2).trans l3)) hx.pl hx.pz) rfl fun H4 l4=> ?_
 simp only[cA,nA]
 refine a2t a2B (N:=8) (l:=[!(u.name==[]),decide (((u.name.length:Nat):Int)<=12),([]:List UInt8)==[],decide (u.ppl≥0),decide (u.ppl<=if x.wat then 0 else 1000000000),true,true,true]) (vs:=[.bool (!(u.name==[])),.bool (decide (((u.name.length:Nat):Int)<=12)),.bool (([]:List UInt8)==[]),.bool (decide (u.ppl≥0)),.bool (decide (u.ppl<=if x.wat then 0 else 1000000000)),.bool true,.bool true,.bool true]) rfl (by decide) (by decide) rfl rfl rfl fun v11 H5 l5 o5 _=> ?_
 simp only[cA,nA]
 refine a0h ((a5z o5.se (by simp)).give) rfl fun H6 l6=> ?_
 simp only[cA,nA]
 have e1:(!(u.name==[]))=true:=by cases h:u.name with|nil=>exact absurd h hn0|cons a l=>rfl
 have e2:decide (((u.name.length:Nat):Int)<=12)=true:=decide_eq_true (by omega)
 have e3:decide (u.ppl≥0)=true:=decide_eq_true (by rw[hp];exact hx.p0)
 have e4:decide (u.ppl<=if x.wat then 0 else 1000000000)=true:=decide_eq_true (by rw[hp];exact hx.p1)
 exact a0c rfl ⟨((((l1.trans l2).trans l3).trans l4).trans l5).trans l6,by show Value.bool (List.all _ id)=_;rw[e1,e2,e3,e4];rfl⟩
theorem a3k (hr:RoR H w us) (hv:RoV n us):a1g prog 26 [rov w] H (ii 0):=by
 refine a0b mixed d0y (by kernel_rfl) rfl ?_
 obtain⟨ul,hw,hlen,hun⟩:=id hr
 have hn1:=hv.n1
 have hle:=hv.le
 have h64:=hv.l64
 refine a0a (a1A hr.one) ?_
 refine a0j a0U rfl rfl hw rfl ?_
 simp only[cA,nA]
 refine a0a ⟨_,rfl⟩ ?_
 refine a0a ⟨_,rfl⟩ ?_
 refine a0a ⟨_,rfl⟩ ?_
 refine a0a ⟨_,rfl⟩ ?_
 refine a2t a2B (N:=8) (l:=[true,true,true,true,true,true,decide (((ul.length:Nat):Int)>0),decide (((ul.length:Nat):Int)<=64)]) (vs:=[.bool true,.bool true,.bool true,.bool true,.bool true,.bool true,.bool (decide (((ul.length:Nat):Int)>0)),.bool (decide (((ul.length:Nat):Int)<=64))]) rfl (by decide) (by decide) rfl rfl rfl fun v2 H1 l1 o1 _=> ?_
 simp only[cA,nA]
 refine a0h ((a5z o1.se (by simp)).give) rfl fun H2 l2=> ?_
 simp only[cA,nA]
 rw[decide_eq_true (show((ul.length:Nat):Int)>0 by omega),decide_eq_true (show((ul.length:Nat):Int)<=64 by omega)]
 refine a0a ⟨_,rfl⟩ ?_
 refine a0e rfl ?_
 refine a0n (a2A (ok:=fun l:List UInt8=>l.length<=maxLen) (ke:=st) b9P rfl) rfl ?_
 rintro v4 H3 ⟨l3,o3⟩
 refine⟨fun h=>(nomatch h),?_⟩
 simp only[cA,nA]
 have l03:=(l1.trans l2).trans l3
 refine a0j a0U rfl rfl (hw.mono l03) rfl ?_
 simp only[cA,nA]
 refine a0o (α:=Nat×List (List UInt8×Value)) (fun⟨i,L⟩=>[ii 0,.bool (decide (n<i)),ii (i:Nat)]) (fun⟨i,L⟩=>fun H'=>i<=us.length/\PH.le H2 H'/\MKO (fun l:List UInt8=>l.length<=maxLen) st H2 H' v4 L/\L.map (·.1)=(us.take i).map (·.name)) (fun⟨i,L⟩=>us.length-i) ((0,[])) rfl (⟨Nat.zero_le _,l3,o3,rfl⟩) fun⟨i,L⟩ H' hQ=> ?_
 simp only[cA,nA]
 obtain⟨hi,l4,o4,hL⟩:=hQ
 refine a0a ⟨_,rfl⟩ ?_
 refine a0a ⟨_,rfl⟩ ?_
 refine a0f (b:=decide (((i:Nat):Int)<(ul.length:Nat))) rfl (fun hil=> ?_) (fun hil=> ?_)
 ·replace hil:=of_decide_eq_true hil
  have hi':i<us.length:=by omega
  obtain⟨x,hx,hdx⟩:=a0t hi'
  have hiu:i<ul.length:=by omega
  obtain⟨u,hu,_⟩:=a0t hiu
  have l04:=(l1.trans l2).trans l4
  have hUR:=(hun i u x hu hx).mono l04
  have hxm:=List.mem_of_getElem? hx
  have hUV:=hv.un x hxm
  have hwt:u.wat=decide (n<=i):=hUR.wat.trans (hv.wat i x hx)
  refine a0m a0U rfl rfl rfl rfl (fun _=>rfl) (hw.mono l04) hu rfl (fun _=>rfl) fun _=> ?_
  simp only[cA,nA]
  refine a0a (a1O u) ?_
  have hno:u.name∉L.map (·.1):=by
   rw[hL,hUR.name]
   intro hm
   obtain⟨y,hy,hye⟩:=List.mem_map.1 hm
   obtain⟨j,hj⟩:=List.getElem?_of_mem hy
   have hji:j<i:=by
    have:=(List.getElem?_eq_some_iff.1 hj).1
    rw[List.length_take]at this;omega
   rw[List.getElem?_take_of_lt hji]at hj
   have h1:(us.map (·.name))[j]? =some x.name:=by rw[List.getElem?_map,hj,<-hye];rfl
   have h2:(us.map (·.name))[i]? =some x.name:=by rw[List.getElem?_map,hx];rfl
   have:=(List.getElem?_inj (by simpa using(show j<us.length by omega)) hv.nd).1 (h1.trans h2.symm)
   omega
  have hnl:u.name.length<=maxLen:=by rw[hUR.name];exact Nat.le_trans hUV.n12 (by decide)
  refine⟨(fun l Hx=>l=[.bool false]/\PH.le H' Hx),?_,?_⟩
  ·skip
   refine a0l (a5x b9P (vs:=[v4,st u.name]) (ok2:=false) (k:=u.name) (u:= .bool false) (b:=false) rfl rfl rfl c0w hnl d1k o4.mk (.inl ⟨rfl,rfl,hno⟩)) rfl ?_
   simp only[cA,nA]
   refine a0a ⟨_,rfl⟩ ?_
   refine a0h (c0x hr.one hUR hUV) rfl fun H6 l6=> ?_
   simp only[cA,nA]
   refine a0a ⟨_,rfl⟩ ?_
   refine a0f (b:=u.wat) rfl (fun hb=> ?_) (fun hb=> ?_)
   ·skip
    have hni:n<=i:=by rw[hwt]at hb;exact of_decide_eq_true hb
    refine a0K (bT (p:=((i:Nat):Int)>0) (by omega)) ?_
    refine a2t a2B (N:=4) (l:=[true,true,true,true]) (vs:=[.bool true,.bool true,.bool true,.bool true]) rfl (by decide) (by decide) rfl rfl rfl fun v13 H7 l7 o7 _=> ?_
    simp only[cA,nA]
    refine a0h ((a5z o7.se (by simp)).give) rfl fun H8 l8=> ?_
    simp only[cA,nA]
    refine a0a ⟨_,rfl⟩ ?_
    exact⟨rfl,(l6.trans l7).trans l8⟩
   ·skip
    have hni:¬n<=i:=by rw[hwt]at hb;exact of_decide_eq_false hb
    refine a0a ⟨_,rfl⟩ ?_
    refine a0f (b:=decide (((i:Nat):Int)>0)) rfl (fun hi0=> ?_) (fun hi0=> ?_)
    ·replace hi0:=of_decide_eq_true hi0
     refine a2t a2B (N:=4) (l:=[true,true,!decide (n<i),true]) (vs:=[.bool true,.bool true,.bool (!decide (n<i)),.bool true]) rfl (by decide) (by decide) rfl rfl rfl fun v13 H7 l7 o7 _=> ?_
     simp only[cA,nA]
     refine a0h ((a5z o7.se (by simp)).give) rfl fun H8 l8=> ?_
     simp only[cA,nA]
     refine a0a ⟨_,rfl⟩ ?_
     exact⟨by rw[decide_eq_false (show ¬n<i by omega)];rfl,(l6.trans l7).trans l8⟩
    ·replace hi0:=of_decide_eq_false hi0
     refine a2t a2B (N:=4) (l:=[true,true,!decide (n<i),!u.wat]) (vs:=[.bool true,.bool true,.bool (!decide (n<i)),.bool (!u.wat)]) rfl (by decide) (by decide) rfl rfl rfl fun v13 H7 l7 o7 _=> ?_
     simp only[cA,nA]
     refine a0h ((a5z o7.se (by simp)).give) rfl fun H8 l8=> ?_
     simp only[cA,nA]
     refine a0a ⟨_,rfl⟩ ?_
     exact⟨by rw[decide_eq_false (show ¬n<i by omega),hb];rfl,(l6.trans l7).trans l8⟩
  rintro vals H5 _ ⟨rfl,l5⟩
  simp only[cA,nA]
  refine a0a ⟨_,rfl⟩ ?_
  refine a0e rfl ?_
  refine a0n (a3z b9P (k:=u.name) (vs:=[v4,st u.name,.bool true]) rfl rfl rfl rfl c0w hnl (l4.trans l5) (o4.mono l5)) rfl ?_
  rintro _ H9 ⟨rfl,l9,o9,-⟩
  refine⟨fun h=>(nomatch h),?_⟩
  simp only[cA,nA]
  have hk9:(a8w L u.name (Value.bool true)).map (·.1)=(us.take (i+1)).map (·.name):=by
   unfold a8w
   rw[if_neg hno,List.map_append,hL,take_snoc hx,List.map_append,hUR.name];rfl
  exact⟨(i+1,a8w L u.name (.bool true)),by show us.length-(i+1)<us.length-i;omega,(b2K rfl (by show Value.bool u.wat=Value.bool (decide (n<i+1));rw[hwt];congr 1;apply decide_eq_decide.2;omega) (a0J rfl (by omega))),⟨by show i+1<=_;omega,l9,o9,hk9⟩⟩
 ·replace hil:=of_decide_eq_false hil
  exact a0c rfl ⟨(l1.trans l2).trans l4,rfl⟩
theorem c0y:a1q prog 78=true:=by kernel_rfl
theorem c0z (u:UC):Asks prog 78 [veU u] H (.bool u.wat):=by
 refine a0b mixed c5r (by kernel_rfl) rfl ?_
 refine a0a (a1O u) ?_
 exact a0c rfl ⟨rfl,rfl⟩
theorem c6b {l:List UC} {f:FuncId} {caps:List Value} {q:UC->Bool} (hu:SE H 6 ceU u l) (hl:l.length<=1000000) (hent:a1q prog f=true) (hf:∀H' x,PH.le H H'->x∈l->a1g prog f (veU x::caps) H' (.bool (q x))):Con prog 77 [u,.func (.func f) #[] caps.toArray] H fun r H'=>PH.le H H'/\((∃i x,r=ii ((i:Nat):Int)/\l[i]? =some x/\q x=true/\∀j y,j<i->l[j]? =some y->q y=false)\/(r=ii (-1)/\∀x∈l,q x=false)):=by
 refine a0b mixed d0B (by kernel_rfl) rfl ?_
 refine a0j a0U rfl rfl hu rfl ?_
 refine a0o (α:=Nat×Int) (fun⟨i,p⟩=>[ii p,ii (i:Nat)]) (fun⟨i,p⟩=>fun H'=>i<=l.length/\PH.le H H'/\∀j y,j<i->l[j]? =some y->q y=false) (fun⟨i,p⟩=>l.length-i) ((0,0)) rfl (⟨Nat.zero_le _,PH.le.refl _,fun j y h=>(by omega)⟩) fun⟨i,p⟩ H' hQ=> ?_
 simp only[cA,nA]
 obtain⟨hi,l1,hq⟩:=hQ
 refine a0a ⟨_,rfl⟩ ?_
 refine a0a ⟨_,rfl⟩ ?_
 refine a0f (b:=decide (((i:Nat):Int)<(l.length:Nat))) rfl (fun h=> ?_) (fun h=> ?_)
 ·replace h:=of_decide_eq_true h
  have hi':i<l.length:=by omega
  obtain⟨x,hx,hdx⟩:=a0t hi'
  refine a0m a0U rfl rfl rfl rfl (fun _=>rfl) (hu.mono l1) hx rfl (fun _=>rfl) fun _=> ?_
  simp only[cA,nA]
  refine a0n (a0D (f:=f) (caps:=caps.toArray) (vs:=[veU x]) rfl rfl rfl hent (hf _ x l1 (List.mem_of_getElem? hx))) rfl ?_
  rintro _ H2 ⟨l2,rfl⟩
  refine⟨fun h=>(nomatch h),?_⟩
  simp only[cA,nA]
  refine a0a ⟨_,rfl⟩ ?_
  refine a0f (b:=q x) rfl (fun hqx=> ?_) (fun hqx=> ?_)
  ·skip
   exact a0c rfl ⟨l1.trans l2,.inl ⟨i,x,rfl,hx,hqx,hq⟩⟩
  ·skip
   have hq':∀j y,j<i+1->l[j]? =some y->q y=false:=fun j y hj hy=>by
    by_cases e:j=i
    ·subst e;rw[hx]at hy;injection hy with hy;subst hy;exact hqx
    ·exact hq j y (by omega) hy
   exact⟨(i+1,p),by show l.length-(i+1)<l.length-i;omega,(a0R rfl (a0J rfl (by omega))),⟨hi',l1.trans l2,hq'⟩⟩
 ·replace h:=of_decide_eq_false h
  have hal:∀x∈l,q x=false:=fun x hx=>by
   obtain⟨j,hj⟩:=List.getElem?_of_mem hx
   exact hq j x (by have:=(List.getElem?_eq_some_iff.1 hj).1;omega) hj
  exact a0c rfl ⟨l1,.inr ⟨rfl,hal⟩⟩
theorem c0A (hr:RoR H w us) (hv:RoV n us):a1g prog 6 [rov w] H (.tuple #[ii (n:Nat),ii 0]):=by
 have hlan:∀H0,PH.le H H0->Con prog 27 [rov w] H0 fun r H'=>PH.le H0 H'/\∃l:List UC,SE H' 6 ceU r l/\l.length=n:=fun H0 hle=>by
  refine a0b mixed d0z (by kernel_rfl) rfl ?_
  obtain⟨ul,hw,hlen,hun⟩:=hr.mono hle
  have hle:=hv.le
  have h64:=hv.l64
  have hwat:∀(i:Nat) u,ul[i]? =some u->u.wat=decide (n<=i):=fun i u hu=>by
   have hi:=(List.getElem?_eq_some_iff.1 hu).1
   obtain⟨x,hx,_⟩:=a0t (l:=us) (i:=i) (by omega)
   exact(hun i u x hu hx).wat.trans (hv.wat i x hx)
  refine a0a (a1A hr.one) ?_
  refine a0d (c6b (caps:=[]) (q:=fun u=>u.wat) hw (by omega) c0y (fun H' x _ _=>(c0z x).give)) rfl ?_
  rintro v1 H1 ⟨l1,hres⟩
  refine⟨fun h=>(nomatch h),?_⟩
  simp only[cA,nA]
  obtain⟨z,rfl,hz⟩:∃z:Int,v1=ii z/\((z=(n:Nat)/\n<=ul.length)\/(z= -1/\ul.length=n)):=by
   rcases hres with⟨i,x,rfl,hx,hq,hall⟩|⟨rfl,hall⟩
   ·refine⟨_,rfl,.inl ⟨?_,by omega⟩⟩
    have h1:=hwat i x hx
    rw[hq]at h1
    have h1:=of_decide_eq_true h1.symm
    have hni:¬n<i:=fun hlt=>by
     obtain⟨y,hy,_⟩:=a0t (l:=ul) (i:=n) (by have:=(List.getElem?_eq_some_iff.1 hx).1;omega)
     have h2:=hall n y hlt hy
     rw[hwat n y hy]at h2
     exact absurd (Nat.le_refl n) (of_decide_eq_false h2)
    omega
   ·refine⟨_,rfl,.inr ⟨rfl,?_⟩⟩
    rcases Nat.lt_or_ge n ul.length with h|h
    ·obtain⟨y,hy,_⟩:=a0t (l:=ul) (i:=n) h
     have h2:=hall y (List.mem_of_getElem? hy)
     rw[hwat n y hy]at h2
     exact absurd (Nat.le_refl n) (of_decide_eq_false h2)
    ·omega
  refine a0a ⟨_,rfl⟩ ?_
  refine a0f (b:=decide (z≥0)) rfl (fun hz0=> ?_) (fun hz0=> ?_)
  ·replace hz0:=of_decide_eq_true hz0
   obtain⟨rfl,hnl⟩:z=((n:Nat):Int)/\n<=ul.length:=by omega
   obtain⟨v2,hy,hs⟩:=b1B a0U (vs:=[w,ii ((n:Nat):Int)]) (k:= .i64) (j:=n) b3D rfl rfl (hw.mono l1) hnl
   refine a0l (hy.rds _) rfl ?_
   simp only[cA,nA]
   exact a0c rfl ⟨l1,ul.take n,hs,by rw[List.length_take];omega⟩
  ·replace hz0:=of_decide_eq_false hz0
   exact a0c rfl ⟨l1,ul,hw.mono l1,by omega⟩
 refine a0b mixed d0A (by kernel_rfl) rfl ?_
 refine a0a (a1A hr.one) ?_
 refine a0h (a3k hr hv) rfl fun H1 l1=> ?_
 simp only[cA,nA]
 refine a0a ⟨_,rfl⟩ ?_
 refine a0e (bF (p:=(0:Int)≠0) (by simp)) ?_
 refine a0d (hlan H1 l1) rfl ?_
 rintro v2 H2 ⟨l2,l,hl,hln⟩
 refine⟨fun h=>(nomatch h),?_⟩
 simp only[cA,nA]
 refine a0j a0U rfl rfl hl rfl ?_
 exact a0c rfl ⟨l1.trans l2,by rw[hln];rfl⟩
end
end Go.Proofs.YtlmgkkjgdapnpaaGreatDoor

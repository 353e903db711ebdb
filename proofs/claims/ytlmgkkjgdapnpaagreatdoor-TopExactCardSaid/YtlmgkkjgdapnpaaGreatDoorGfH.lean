/- Splits: what is known of parents. -/
import Derived.Test.YtlmgkkjgdapnpaaGreatDoorGfF
namespace Go.RX
open Go.RowKit
theorem b2j {κ:Type} {ok:κ->Prop} {ke:κ->Value} {P:Program} {H:PH} {o:Oper} {x y:Operand} {T kt et:TypeId} (hK:d0V P kt ok ke) {vs:List Value} {m zr u:Value} {L:List (κ×Value)} {k:κ} (ho:o.op= .lookup T x y false) (hx:a0k [x,y] vs x=m) (hy:a0k [x,y] vs y=ke k) (hu:P.underlying T=some (.map kt et)) (hk:ok k) (hz:∀w,(zeroValue et).run P w= .ok zr w) (h:MK ok ke H m L)
  (hub:(u=zr/\k∉L.map (·.1))\/(k,u)∈L):Rds P o vs H u:=by
 rcases hub with⟨h1,h2⟩|h1
 ·exact a5x hK (ok2:=false) (b:=false) ho hx hy hu hk hz h (.inl ⟨rfl,h1,h2⟩)
 ·exact a5x hK (ok2:=false) (b:=true) ho hx hy hu hk hz h (.inr ⟨rfl,h1⟩)
end Go.RX
namespace Go.Proofs.YtlmgkkjgdapnpaaGreatDoor
open Go.Proofs.Tryz
open Go.RowKit Go.RX Go.GS Go.RZ Go.WD
set_option maxRecDepth 100000
section
variable {H B:PH} {n k lv:Nat} {us:List Un} {w:Value} {u v:Value} {p:List Int}
def PaT:Type:={q:Int×Int×Nat//0<=q.1/\q.1<64}
instance:Inhabited PaT:=⟨⟨(0,0,0),by decide⟩⟩
def ceP (q:PaT):List Value:=[ii q.1.1,ii q.1.2.1,.int .u8 (q.1.2.2:Nat)]
def veP (q:PaT):Value:= .agg (ceP q).toArray
theorem a3B (q:PaT):(veP q).cells.size=3/\a0p (veP q).cells:=⟨rfl,fun c hc=>by
 simp[veP,ceP,Value.cells]at hc
 rcases hc with rfl|rfl|rfl<;>rfl⟩
theorem c1h:El prog 328 332 3 true ceP veP where
 und:=by kernel_rfl
 has:=by kernel_rfl
 cel:=by kernel_rfl
 agg:=by kernel_rfl
 pos:=by decide
 one1:=fun h=>by cases h
 small:=by decide
 inf:=⟨(prog.info? 332).getD default,veP ⟨(0,0,0),by decide⟩,by kernel_rfl,by kernel_rfl,by kernel_rfl,rfl,of_decide_eq_true (by kernel_rfl)⟩
 len:=fun p=>rfl
 val:=fun p=>rfl
 cells:=fun p=>rfl
 one:=fun p c hc=>(a3B p).2 c (by simpa[veP,Value.cells]using hc)
def ParK (B X:PH) (m:Value) (us:List Un) (p:List Int) (lv i:Nat) (S:Int->Prop) (L:List (Int×Value)):Prop:=
 MKO (fun _:Int=>True) ii B X m L/\(∀nm,nm∈L.map (·.1)↔S nm)/\∀q∈L,∃b z,q.2= .pointer (some ⟨b,0,none⟩)/\B b=none/\X b=some (.cells (paC q.1 z (a8x us p lv q.1 i)) 332 (0,0))
theorem ParK.mono {B X X':PH} {m:Value} {i:Nat} {S:Int->Prop} {L:List (Int×Value)} (h:ParK B X m us p lv i S L) (hl:PH.le X X'):ParK B X' m us p lv i S L:=
 ⟨h.1.mono hl,h.2.1,fun q hq=>by obtain⟨b,z,h1,h2,h3⟩:=h.2.2 q hq;exact⟨b,z,h1,h2,hl _ _ h3⟩⟩
theorem d2j {κ β:Type} {L:List (κ×β)} (h:(L.map (·.1)).Nodup) {a:κ} {x y:β} (hx:(a,x)∈L) (hy:(a,y)∈L):x=y:=by
 induction L with
 |nil=>cases hx
 |cons q L ih=>
  rw[List.map_cons,List.nodup_cons]at h
  rcases List.mem_cons.1 hx with h1|h1<;>rcases List.mem_cons.1 hy with h2|h2
  ·rw[<-h2]at h1;exact congrArg Prod.snd h1
  ·exact absurd (List.mem_map.2 ⟨_,h2,by rw[<-h1]⟩) h.1
  ·exact absurd (List.mem_map.2 ⟨_,h1,by rw[<-h2]⟩) h.1
  ·exact ih h.2 h1 h2
theorem ParK.add {X:PH} {m:Value} {i d b:Nat} {S:Int->Prop} {L:List (Int×Value)} {x:Un} {z z':Int} (h:ParK B X m us p lv i S L) (hx:us[i]? =some x) (hp:p[i]? =some ((d:Nat):Int)) (hm:(a3l lv x,.pointer (some ⟨b,0,none⟩))∈L) (hb:X b=some (.cells (paC (a3l lv x) z (a8x us p lv (a3l lv x) i)) 332 (0,0))):
  ParK B (X.put b (.cells (paC (a3l lv x) z' (a8x us p lv (a3l lv x) i|||2^d)) 332 (0,0))) m us p lv (i+1) S L:=by
 obtain⟨⟨r,es,c,h1,h2,h3,h4,h5⟩,h6,h7⟩:=h
 have hrb:r≠b:=fun e=>by subst e;rw[hb]at h3;cases h3
 refine⟨⟨r,es,c,h1,h2,by rw[PH.put_ne _ _ hrb];exact h3,h4,h5⟩,h6,fun q hq=> ?_⟩
 have hnd:=(MKO.mk ⟨r,es,c,h1,h2,h3,h4,h5⟩:MK (fun _:Int=>True) ii X m L).keys.1
 obtain⟨b',z2,g1,g2,g3⟩:=h7 q hq
 by_cases e:q.1=a3l lv x
 ·have:q.2= .pointer (some ⟨b,0,none⟩):=d2j hnd (a:=a3l lv x) (by rw[<-e];exact hq) hm
  refine⟨b,z',this,?_,?_⟩
  ·rw[g1]at this
   injection this with this
   injection this with this
   injection this with this
   exact this ▸ g2
  ·rw[PH.put_self,e,c1b hx hp,if_pos rfl]
 ·refine⟨b',z2,g1,g2,?_⟩
  have hne:b'≠b:=fun e2=>by
   subst e2
   rw[hb]at g3
   simp only[Option.some.injEq,Obj.cells.injEq,paC,and_true]at g3
   injection g3 with g3
   simp only[List.cons.injEq,Value.int.injEq,true_and]at g3
   have g4:=g3.1.symm
   injection g4 with _ g4
   exact e g4
  rw[PH.put_ne _ _ hne,g3,c1b hx hp,if_neg (fun e2=>e e2.symm),Nat.or_zero]
theorem ParK.new {X X' X'':PH} {m:Value} {i b:Nat} {S:Int->Prop} {L:List (Int×Value)} {nm:Int} (h:ParK B X m us p lv i S L) (hl:PH.le X X') (hn:¬S nm) (hBb:B b=none) (hd:a8x us p lv nm i=0) (hb:X' b=some (.cells (paC nm 0 0) 332 (0,0))) (hm:MKO (fun _:Int=>True) ii B X'' m (a8w L nm (.pointer (some ⟨b,0,none⟩)))) (hg:∃g ob,m= .map (some g)/\X''=X'.put g ob):
  ParK B X'' m us p lv i (fun y=>S y\/y=nm) (a8w L nm (.pointer (some ⟨b,0,none⟩)))/\(nm,.pointer (some ⟨b,0,none⟩))∈a8w L nm (Value.pointer (some ⟨b,0,none⟩))/\X'' b=some (.cells (paC nm 0 (a8x us p lv nm i)) 332 (0,0)):=by
 obtain⟨g,ob,hmg,rfl⟩:=hg
 have hgo:∃E c,X' g=some (.map E c):=by
  obtain⟨⟨r,es,c,h1,_,h3,_⟩,_⟩:=h
  rw[hmg]at h1
  injection h1 with h1
  injection h1 with h1
  subst h1
  exact⟨_,_,hl _ _ h3⟩
 obtain⟨E,c,hgo⟩:=hgo
 have hne:∀b':Nat,(∃cs T fz,X' b'=some (.cells cs T fz))->b'≠g:=fun b' ⟨cs,T,fz,h⟩ e=>by subst e;rw[hgo]at h;cases h
 have hbb:(X'.put g ob) b=some (.cells (paC nm 0 (a8x us p lv nm i)) 332 (0,0)):=by rw[PH.put_ne _ _ (hne b ⟨_,_,_,hb⟩),hd];exact hb
 refine⟨⟨hm,fun y=> ?_,fun q hq=> ?_⟩,a2O,hbb⟩
 ·constructor
  ·intro hy
   obtain⟨q,hq,rfl⟩:=List.mem_map.1 hy
   rcases a2N (x:=q.1) (y:=q.2) hq with⟨h1,_⟩|⟨_,h1⟩
   ·exact .inr h1
   ·exact .inl ((h.2.1 _).1 (List.mem_map.2 ⟨_,h1,rfl⟩))
  ·rintro(hy|rfl)
   ·obtain⟨q,hq,rfl⟩:=List.mem_map.1 ((h.2.1 _).2 hy)
    exact List.mem_map.2 ⟨_,a5w (x:=q.1) (y:=q.2) hq (fun e=>hn (e ▸ hy)),rfl⟩
   ·exact List.mem_map.2 ⟨_,a2O,rfl⟩
 ·rcases a2N (x:=q.1) (y:=q.2) hq with⟨h1,h2⟩|⟨_,h1⟩
  ·exact⟨b,0,h2,hBb,by rw[h1];exact hbb⟩
  ·obtain⟨b',z2,g1,g2,g3⟩:=h.2.2 _ h1
   exact⟨b',z2,g1,g2,by rw[PH.put_ne _ _ (hne b' ⟨_,_,_,hl _ _ g3⟩)];exact hl _ _ g3⟩
theorem d5i {P:Program} {t:TypeId} (hT:a2h P t=true) (h:a0F P t=true):∀w,(isAgg t).run P w= .ok true w:=fun w=>by
 obtain⟨_,⟨d,hd⟩⟩:=a1b hT
 rw[a5I hd,h]
theorem d5j {P:Program} {t:TypeId} {n:Nat} (hT:a2h P t=true) (h:P.cellsOf t=n):∀w,(Go.sizeOf t).run P w= .ok n w:=fun w=>by
 obtain⟨⟨i,hi⟩,_⟩:=a1b hT
 rw[a1j hi,h]
theorem b5b {l:List Int} (hn:l.Nodup) (h:∀x∈l,0<=x/\x<64):l.length<=64:=by
 have h2:(l.map Int.toNat).Nodup:=by
  refine List.pairwise_map.2 (hn.imp_of_mem fun ha hb hab e=>hab ?_)
  have:=h _ ha
  have:=h _ hb
  omega
 have:=List.Nodup.length_le_of_subset h2 (l₂:=List.range 64) fun x hx=>by
  obtain⟨y,hy,rfl⟩:=List.mem_map.1 hx
  have:=h y hy
  exact List.mem_range.2 (by omega)
 simpa using this
theorem b0w (r:Nat):(Value.map (some r)).cells.size=1/\a0p (Value.map (some r)).cells:=⟨rfl,fun c hc=>by simp[Value.cells]at hc;subst hc;rfl⟩
theorem b3L:prog.underlying 373=some (.map 3 376):=by kernel_rfl
theorem d2k:prog.underlying 376=some (.pointer 332):=by kernel_rfl
theorem d5k:∀w,(zeroValue 376).run prog w= .ok (.pointer none) w:=fun w=>by rfl
theorem d5l:Ag prog 332 3:=⟨by kernel_rfl,by kernel_rfl,by kernel_rfl⟩
theorem b5c:FA prog 52 1 1:=⟨by kernel_rfl,of_decide_eq_true (by kernel_rfl),by kernel_rfl,by kernel_rfl,of_decide_eq_true (by kernel_rfl)⟩
theorem c1i:a1q prog 278=true:=by kernel_rfl
theorem d2l:Go.Sort.SWO (Go.Proofs.ltOf fun x y:PaT=>x.1.1-y.1.1) where
 irrefl:=fun x=>by unfold Go.Proofs.ltOf;simp
 trans:=fun x y z h1 h2=>by unfold Go.Proofs.ltOf at*;simp at*;omega
 ntrans:=fun x y z h1 h2=>by unfold Go.Proofs.ltOf at*;simp at*;omega
theorem c1j (x y:PaT):Asks prog 278 [veP x,veP y] H (ii (x.1.1-y.1.1)):=by
 refine a0b mixed c6n (by kernel_rfl) rfl ?_
 have hx:=x.2
 have hy:=y.2
 refine a0a (a3B x) ?_
 refine a0a (a3B y) ?_
 refine a0a ⟨_,rfl⟩ ?_
 refine a0a ⟨_,rfl⟩ ?_
 exact a0c rfl ⟨rfl,a7R (x:=x.1.1) (y:=y.1.1) rfl rfl (by omega) (by omega)⟩
theorem c6w (hr:RoR H w us) (hv:RoV n us) (hl:lv<2) (hk:1<=k/\k<=8) (hp:SI H v p) (ho:PlOk n k p):Con prog 264 [viV w lv,v] H fun r H'=>PH.le H H'/\∃l:List PaT,SE H' 3 ceP r l/\(l.map fun q=>q.1.1).Nodup/\(∀nm,nm∈(l.map fun q=>q.1.1)↔nm∈a8o us lv n)/\∀q∈l,q.1.2.2=a8x us p lv q.1.1 n:=by
 refine a0b mixed d1W (by kernel_rfl) rfl ?_
 have hle:=hv.le
 have h64:=hv.l64
 have hn1:=hv.n1
 have hpl:=ho.len
 have hp8:∀x∈p,0<=x/\x<8:=fun x hx=>by have:=ho.lab x hx;omega
 obtain⟨ul,hwu,hlen,hun⟩:=id hr
 refine a0a (b3K hr.one) ?_
 refine a0a (hp.one) ?_
 refine a0n (a2A (ok:=fun _:Int=>True) (ke:=ii) b1L rfl) rfl ?_
 rintro v2 H1 ⟨l1,o1⟩
 refine⟨fun h=>(nomatch h),?_⟩
 simp only[cA,nA]
 obtain⟨r,es0,c0,rfl,hrB,o1'⟩:=id o1
 refine a0a (b0w r) ?_
 refine a0d (c6u hr.one) rfl ?_
 rintro _ _ ⟨bv,hbv,rfl,rfl⟩
 refine⟨fun h=>(nomatch h),?_⟩
 simp only[cA,nA]
 have hP0:ParK H H1 (.map (some r)) us p lv 0 (fun y=>y∈a8o us lv 0) []:=⟨o1,fun nm=>by simp[a8o],(fun q hq=>nomatch hq)⟩
 refine a5q (X:=H1) (K:=c1d bv w lv) (Ro:=H) (fun pre vals X'=>PH.le H X'/\vals=[]/\∃L,ParK H X' (.map (some r)) us p lv pre.length (fun y=>y∈a8o us lv pre.length) L) (fun _ _ _=>False) (c6v hr hv hl) c1f (c1e hbv) rfl (fun _ _ _ h=>h.1) ⟨l1,rfl,[],hP0⟩ ?_ ?_ ?_
 ·rintro pre xs vals X' ⟨x,hx,hpn,rfl⟩ _ ⟨lX,rfl,L,hL⟩
  refine⟨rfl,?_⟩
  simp only[cA,nA]
  obtain⟨y,hy,_⟩:=a0t (show pre.length<p.length by omega)
  have hy8:=hp8 y (List.mem_of_getElem? hy)
  obtain⟨d,rfl⟩:∃d:Nat,y=((d:Nat):Int):=⟨y.toNat,by omega⟩
  obtain⟨u,hu,_⟩:=a0t (show pre.length<ul.length by omega)
  have hUR:=hun _ u x hu hx
  have hS1:∀nm,nm∈a8o us lv (pre.length+1)↔nm∈a8o us lv pre.length\/nm=a3l lv x:=fun nm=>by rw[b2h hx,List.mem_append,List.mem_singleton]
  have hm:=c1a (us:=us) (lv:=lv) (nm:=a3l lv x) hp8 pre.length
  have hlk:∃z:Option Addr,((z=none/\a3l lv x∉L.map (·.1))\/∃b zz,z=some ⟨b,0,none⟩/\(a3l lv x,.pointer (some ⟨b,0,none⟩))∈L/\X' b=some (.cells (paC (a3l lv x) zz (a8x us p lv (a3l lv x) pre.length)) 332 (0,0)))/\((Value.pointer z= .pointer none/\a3l lv x∉L.map (·.1))\/(a3l lv x,Value.pointer z)∈L):=by
   by_cases hmem:a3l lv x∈L.map (·.1)
   ·obtain⟨q,hq,hq1⟩:=List.mem_map.1 hmem
    obtain⟨b,zz,g1,g2,g3⟩:=hL.2.2 q hq
    have hq2:(a3l lv x,Value.pointer (some ⟨b,0,none⟩))∈L:=by rw[<-hq1,<-g1];exact hq
    exact⟨some ⟨b,0,none⟩,.inr ⟨b,zz,rfl,hq2,by rw[<-hq1];exact g3⟩,.inr hq2⟩
   ·exact⟨none,.inl ⟨rfl,hmem⟩,.inl ⟨rfl,hmem⟩⟩
  obtain⟨z,hz1,hz2⟩:=hlk
  refine a0l (b2j b1L (k:=a3l lv x) (u:= .pointer z) (vs:=[.map (some r),ii (a3l lv x)]) rfl rfl rfl b3L trivial d5k hL.1.mk hz2) (a0R (a1a rfl rfl) rfl) ?_
  simp only[cA,nA]
  refine a0l ((b8c (p:=z) (vs:=[.pointer z,.pointer none]) rfl rfl rfl d2k).rds _) rfl ?_
  simp only[cA,nA]
  refine a0a ⟨_,rfl⟩ ?_
  refine a0f (b:=z.isNone) rfl (fun hzn=> ?_) (fun hzn=> ?_)
  ·skip
   obtain⟨rfl,hno⟩:z=none/\a3l lv x∉L.map (·.1):=by
    rcases hz1 with h|⟨b,zz,rfl,_⟩
    ·exact h
    ·cases hzn
   refine a0a (el_int.vcells _) ?_
   refine a0A (cs:=paC (a3l lv x) 0 0) rfl fun b hb=> ?_
   simp only[cA,nA]
   have hHb:H b=none:=by
    cases e:H b with
    |none=>rfl
    |some o=>rw[lX _ _ e]at hb;cases hb
   have lb:=PH.le_put hb (.cells (paC (a3l lv x) 0 0) 332 (0,0))
   refine a0n (a3z b1L (k:=a3l lv x) (v:= .pointer (some ⟨b,0,none⟩)) (vs:=[.map (some r),ii (a3l lv x),.pointer (some ⟨b,0,none⟩)]) rfl rfl rfl rfl b3L trivial (lX.trans lb) (hL.1.mono lb)) (b2K (a1a rfl rfl) rfl rfl) ?_
   rintro _ H5 ⟨rfl,l5,o5,g,ob,_,_,hmg,_,_,hH5⟩
   refine⟨fun h=>(nomatch h),?_⟩
   simp only[cA,nA]
   obtain⟨hP5,hin5,hb5⟩:=ParK.new (X'':=H5) hL lb (fun hh=>hno ((hL.2.1 _).2 hh)) hHb (d2h _ (fun hh=>hno ((hL.2.1 _).2 hh))) (PH.put_self _ _ _) o5 ⟨g,ob,hmg,hH5⟩
   refine a0j a0S rfl rfl (hp.mono l5) (a1R (a1a rfl hp.cells)) ?_
   simp only[cA,nA]
   refine a0a ⟨_,rfl⟩ ?_
   refine a0K (bT (p:=((p.length:Nat):Int)>0) (by omega)) ?_
   refine a0m a0S rfl rfl rfl rfl (fun _=>rfl) (hp.mono l5) hy (a0R (a1a rfl hp.cells) rfl) (fun _=>rfl) fun _=> ?_
   simp only[cA,nA]
   refine c0Y a0U b5c sc_int rfl rfl rfl rfl rfl rfl (fun _=>rfl) (fun _=>rfl) (hwu.mono l5) hu rfl (fun _=>rfl) (fun _ _=>rfl) fun _ _=> ?_
   simp only[cA,nA]
   refine a0d (b5a hb5 hm (by omega)) rfl ?_
   rintro _ _ ⟨z',rfl⟩
   refine⟨fun h=>(nomatch h),?_⟩
   simp only[cA,nA]
   have hP6:=hP5.add (z':=z') hx hy hin5 hb5
   exact⟨fun b' ob' hbb=>by rw[PH.put_ne _ _ (fun e=>by subst e;rw[hHb]at hbb;cases hbb)];exact l5 _ _ hbb,rfl,_,by rw[List.length_append];exact⟨hP6.1,fun nm=>(hP6.2.1 nm).trans (hS1 nm).symm,hP6.2.2⟩⟩
  ·skip
   obtain⟨b,zz,rfl,hin,hXb⟩:∃b zz,z=some ⟨b,0,none⟩/\(a3l lv x,.pointer (some ⟨b,0,none⟩))∈L/\X' b=some (.cells (paC (a3l lv x) zz (a8x us p lv (a3l lv x) pre.length)) 332 (0,0)):=by
    rcases hz1 with⟨rfl,_⟩|h
    ·cases hzn
    ·exact h
   have hHb:H b=none:=by
    obtain⟨b',z2,g1,g2,g3⟩:=hL.2.2 _ hin
    injection g1 with g1
    injection g1 with g1
    injection g1 with g1
    exact g1 ▸ g2
   refine a0j a0S rfl rfl (hp.mono lX) (a1R (a1a rfl hp.cells)) ?_
   simp only[cA,nA]
   refine a0a ⟨_,rfl⟩ ?_
   refine a0K (bT (p:=((p.length:Nat):Int)>0) (by omega)) ?_
   refine a0m a0S rfl rfl rfl rfl (fun _=>rfl) (hp.mono lX) hy (a0R (a1a rfl hp.cells) rfl) (fun _=>rfl) fun _=> ?_
   simp only[cA,nA]
   refine c0Y a0U b5c sc_int rfl rfl rfl rfl rfl rfl (fun _=>rfl) (fun _=>rfl) (hwu.mono lX) hu rfl (fun _=>rfl) (fun _ _=>rfl) fun _ _=> ?_
   simp only[cA,nA]
   refine a0d (b5a hXb hm (by omega)) rfl ?_
   rintro _ _ ⟨z',rfl⟩
   refine⟨fun h=>(nomatch h),?_⟩
   simp only[cA,nA]
   have hP6:=hL.add (z':=z') hx hy hin hXb
   have hmemx:a3l lv x∈a8o us lv pre.length:=(hL.2.1 _).1 (List.mem_map.2 ⟨_,hin,rfl⟩)
   exact⟨fun b' ob' hbb=>by rw[PH.put_ne _ _ (fun e=>by subst e;rw[hHb]at hbb;cases hbb)];exact lX _ _ hbb,rfl,_,by rw[List.length_append];exact⟨hP6.1,fun nm=>(hP6.2.1 nm).trans ((hS1 nm).trans ⟨fun h=>h.elim id (fun e=>e ▸ hmemx),.inl⟩).symm,hP6.2.2⟩⟩
 ·rintro xs vals X' K' hxn hd _ ⟨lX,rfl,L,hL⟩
  simp only[cA,nA]
  have hG:=hL.mono (PH.le_or X' K')
  obtain⟨⟨r',es,clock,hrr,hHr,hH2r,hE,hkv⟩,hG2,hG3⟩:=id hG
  obtain rfl:r=r':=by injection hrr with hrr;injection hrr
  have lG:PH.le H (X'.or K'):=lX.trans (PH.le_or _ _)
  rw[hxn]at hG2 hG3
  have hkeys:es.map (·.1)=L.map (·.1):=by rw[<-hkv];unfold kvN;rw[List.map_map];rfl
  have hnm64:∀nm,nm∈a8o us lv n->0<=nm/\nm<64:=fun nm h=>by
   unfold a8o at h
   obtain⟨x,hx,rfl⟩:=List.mem_map.1 h
   have hxu:=hv.un x (List.mem_of_mem_take hx)
   have:=hxu.pz _ (List.mem_of_getElem? (c1g hxu hl))
   split at this<;>omega
  have hlen64:es.length<=64:=by
   have h1:(es.map (·.1)).Nodup:=hE.keys
   have:=b5b h1 (fun x hx=>hnm64 x ((hG2 x).1 (by rw[<-hkeys];exact hx)))
   simpa using this
  refine a0n (a4q (κ:=Int) (ke:=ii) (vs:=[.map (some r)]) rfl rfl b3L hH2r) (a1R (a1a rfl rfl)) ?_
  rintro _ _ ⟨q,hq,rfl,rfl⟩
  refine⟨fun h=>(nomatch h),?_⟩
  simp only[cA,nA]
  have hrq:r≠q:=fun e=>by subst e;rw[hH2r]at hq;cases hq
  have hI0:IT ii ((X'.or K').put q (.mapIter (some r) clock #[] clock)) q r es clock []:=⟨PH.put_self _ _ _,by rw[PH.put_ne _ _ hrq];exact hH2r⟩
  refine a0o (α:=List Nat×Value×List PaT) (fun⟨seen,out,l⟩=>[out]) (fun⟨seen,out,l⟩=>fun H'=>PH.le (X'.or K') H'/\IT ii H' q r es clock seen/\SO (X'.or K') H' 332 3 ceP out l/\((l.map fun q=>q.1.1)++(left es seen).map (·.1)).Perm (es.map (·.1))/\(∀q∈l,q.1.2.2=a8x us p lv q.1.1 n)) (fun⟨seen,out,l⟩=>(left es seen).length) (([],.slice none 0 0,[])) rfl (⟨PH.le_put hq _,hI0,SO.nil _ _ _ _ _,by rw[a6R];exact List.Perm.refl _,(fun q hq=>nomatch hq)⟩) fun⟨seen,out,l⟩ H4 ⟨l4,it4,o4,hpm,hds⟩=> ?_
  simp only[cA,nA]
  refine a0n (a5y (ok:=fun _:Int=>True) (ke:=ii) (vs:=[.pointer (some ⟨q,0,none⟩)]) rfl rfl hE it4) rfl ?_
  rintro v6 H5 hnx
  refine⟨fun h=>(nomatch h),?_⟩
  simp only[cA,nA]
  obtain⟨b,x,y,rfl,hb⟩:=a6Q hnx
  refine a0a (b0v b x y) ?_
  refine a0a ⟨b,a2Q b x y⟩ ?_
  refine a0f (b:=b) (a2Q b x y) (fun hb1=> ?_) (fun hb1=> ?_)
  ·skip
   obtain⟨e,he,rfl,rfl,rfl⟩:∃p∈left es seen,x=ii p.1/\y=p.2.1/\H5=H4.put q (.mapIter (some r) clock (seen++[p.2.2]).toArray clock):=by
    rcases hb with⟨h,_⟩|⟨_,h⟩
    ·rw[hb1]at h;cases h
    ·exact h
   subst hb1
   have heE:e∈es:=(List.mem_filter.1 he).1
   have heL:(e.1,e.2.1)∈L:=by rw[<-hkv];exact List.mem_map.2 ⟨e,heE,rfl⟩
   obtain⟨b',z2,g1,g2,g3⟩:=hG3 _ heL
   have hen:e.1∈a8o us lv n:=(hG2 _).1 (List.mem_map.2 ⟨_,heL,rfl⟩)
   have it5:IT ii (H4.put q (.mapIter (some r) clock (seen++[e.2.2]).toArray clock)) q r es clock (seen++[e.2.2]):=⟨PH.put_self _ _ _,by rw[PH.put_ne _ _ hrq];exact it4.2⟩
   have l5:PH.le (X'.or K') (H4.put q (.mapIter (some r) clock (seen++[e.2.2]).toArray clock)):=fun b' ob' hbb=>by rw[PH.put_ne _ _ (fun e=>by subst e;rw[hq]at hbb;cases hbb)];exact l4 _ _ hbb
   have o5:SO (X'.or K') (H4.put q (.mapIter (some r) clock (seen++[e.2.2]).toArray clock)) 332 3 ceP out l:=(a3A o4 (g:=q) (fun cs T fz=>by rw[it4.1];exact fun h=>nomatch h)).mono (PH.cut_put _ _ _)
   generalize H4.put q (.mapIter (some r) clock (seen++[e.2.2]).toArray clock)=H6 at it5 l5 o5⊢
   refine a0n (Rds.opn' (a4r (ok:=fun _:Int=>True) (ke:=ii) (vs:=[.pointer (some ⟨q,0,none⟩)]) rfl rfl hE heE it5)) rfl ?_
   rintro _ _ ⟨rfl,rfl⟩
   refine⟨fun h=>(nomatch h),?_⟩
   simp only[cA,nA]
   obtain⟨la,lb,hla,hlb⟩:=a5C (hE.asc.imp fun h=>Nat.ne_of_lt h) he
   have hll:l.length+1<=64:=by
    have:=hpm.length_eq
    rw[hla]at this
    simp at this;omega
   refine a0a ⟨_,rfl,by simp⟩ ?_
   refine a0u (ad:=⟨b',0,none⟩) rfl rfl (a1R (show e.2.1=_ from g1)) ?_
   simp only[cA,nA]
   refine a0N (vs:=(ceP ⟨(e.1,z2,a8x us p lv e.1 n),hnm64 _ hen⟩)) d5l rfl rfl (l5 _ _ g3) rfl (Nat.le_refl 3) rfl ?_
   simp only[cA,nA]
   obtain⟨XB,xb1,xb2,xb3,xb4⟩:=a2C o5 l5
   refine a0P c1h rfl rfl rfl (fun _=>rfl) (fun _=>rfl) xb2 xb3 (by omega) rfl (fun _=>rfl) rfl fun pv v11 H7 l7 o7=> ?_
   simp only[cA,nA]
   exact⟨(seen++[e.2.2],v11,l++[⟨(e.1,z2,a8x us p lv e.1 n),hnm64 _ hen⟩]),by show(left es (seen++[e.2.2])).length<(left es seen).length;rw[hla,hlb];simp,rfl,⟨xb1.trans l7,⟨l7 _ _ ((xb4 q (fun cs=>by rw[it5.1];exact fun h=>nomatch h)).trans it5.1),l7 _ _ ((xb4 r (fun cs=>by rw[it5.2];exact fun h=>nomatch h)).trans it5.2)⟩,o7.less xb1,by show((List.map _ (l++[_]))++List.map _ (left es (seen++[e.2.2]))).Perm _;refine List.Perm.trans ?_ hpm;rw[hla,hlb,List.map_append,List.append_assoc,List.map_append,List.map_append];exact List.Perm.append_left _ (by simp only[List.map_cons,List.map_nil,List.singleton_append];exact(List.perm_middle (a:=e.1) (l₁:=la.map (·.1)) (l₂:=lb.map (·.1))).symm),fun q hq=>(List.mem_append.1 hq).elim (hds q) (fun hq=>by rw[List.mem_singleton.1 hq])⟩⟩
  ·skip
   obtain⟨hle0,h54⟩:left es seen=[]/\H5=H4:=by
    rcases hb with⟨_,h⟩|⟨h,_⟩
    ·exact h
    ·rw[hb1]at h;cases h
   rw[h54]
   rw[hle0,List.map_nil,List.append_nil]at hpm
   have hl0:l≠[]:=fun e=>by
    subst e
    obtain⟨x0,hx0,_⟩:=a0t (l:=us) (i:=0) (by omega)
    have hin:a3l lv x0∈es.map (·.1):=by rw[hkeys];exact(hG2 _).2 (List.mem_map.2 ⟨x0,List.mem_of_getElem? (i:=0) (by rw[List.getElem?_take_of_lt (by omega)];exact hx0),rfl⟩)
    exact absurd (hpm.mem_iff.2 hin) (by simp)
   have hlc:l.length<4611686018427387904:=by have:=hpm.length_eq;simp at this;omega
   refine a0d (c0W (P:=prog) (ρ:=Tryz.srtP_ren) (k:=3) Tryz.srtP (d5i (by kernel_rfl) (by kernel_rfl)) (d5j (n:=3) (by kernel_rfl) (by kernel_rfl)) (fun x=>rfl) (fun x=>(a3B x).2) d2l (g:=278) (cb:= #[]) c1i l4 o4 hl0 hlc (fun x y=>(c1j x y).give)) rfl ?_
   rintro _ H8 ⟨l8,m,hm1,_,o8⟩
   refine⟨fun h=>(nomatch h),?_⟩
   simp only[cA,nA]
   have hmp:(m.map fun q=>q.1.1).Perm (es.map (·.1)):=(hm1.map _).trans hpm
   exact a0c rfl ⟨lG.trans l8,m,o8.se,hmp.nodup_iff.2 hE.keys,fun nm=>by rw[hmp.mem_iff,hkeys];exact hG2 nm,fun q hq=>hds q (hm1.mem_iff.1 hq)⟩
 ·exact fun _ _ _ _ _ _ _ h=>h.elim
end
end Go.Proofs.YtlmgkkjgdapnpaaGreatDoor
/- Splits: how many parents are split, and the pieces. -/
namespace Go.GS
def nmD (us:List Un) (lv n:Nat):List Int:=((List.range 64).filter fun d:Nat=>decide (((d:Nat):Int)∈a8o us lv n)).map fun d:Nat=>(d:Int)
theorem c1k {l m:List Int} (h:l.Perm m):l.sum=m.sum:=by
 induction h with
 |nil=>rfl
 |cons x _ ih=>rw[List.sum_cons,List.sum_cons,ih]
 |swap x y l=>rw[List.sum_cons,List.sum_cons,List.sum_cons,List.sum_cons];omega
 |trans _ _ ih1 ih2=>exact ih1.trans ih2
end Go.GS
namespace Go.Proofs.YtlmgkkjgdapnpaaGreatDoor
open Go.Proofs.Tryz
open Go.RowKit Go.RX Go.GS Go.RZ Go.WD
set_option maxRecDepth 100000
section
variable {H B:PH} {n k lv:Nat} {us:List Un} {w:Value} {u v:Value} {p:List Int}
noncomputable def ocS:ByteArray:=match(opr f265 1 1).op with| .index _ (.const (.string s)) _=>s|_=>default
noncomputable def ocN (m:Nat):Nat:=(ocS.data.getD m 0).toNat
theorem c1l (m:Nat):ocN m<256:=(ocS.data.getD m 0).toNat_lt
theorem d2m:ocS.size=256:=by kernel_rfl
theorem d7g:(opr f265 1 1).op= .index 9 (.const (.string ocS)) (.tmp 3):=by kernel_rfl
theorem d7h {ρ:List Value} {a:SV} {m:Nat} (ha:D prog ρ a= .int .u8 (m:Nat)) (hm:m<256):D prog ρ (.cv .i64 a)=ii (m:Nat):=by
 show Value.int .i64 (IntKind.i64.wrap (intOf (D prog ρ a)))=_
 rw[ha]
 show Value.int .i64 (IntKind.i64.wrap ((m:Nat):Int))=_
 congr 1
 simp[IntKind.wrap,IntKind.bits,IntKind.signed,Int.bmod]
 omega
theorem d2n {m:Nat} (hm:m<256):Asks prog 265 [.int .u8 (m:Nat)] H (ii (ocN m:Nat)):=by
 refine a0b mixed d5a (by kernel_rfl) rfl ?_
 refine a0l ((a6o (s:=ocS) (k:= .u8) (m:=m) (vs:=[.string ocS,.int .u8 (m:Nat)]) d7g rfl rfl a8g (by rw[d2m];exact hm)).rds _) rfl ?_
 simp only[cA,nA]
 refine a0a ⟨_,rfl⟩ ?_
 exact a0c rfl ⟨rfl,d7h (m:=ocN m) rfl (c1l m)⟩
theorem b5d {q:PaT} (hm:q.1.2.2<256):Asks prog 243 [veP q] H (ii (ocN q.1.2.2:Nat)):=by
 refine a0b mixed d1Y (by kernel_rfl) rfl ?_
 refine a0a (a3B q) ?_
 refine a0q (d2n hm) rfl ?_
 simp only[cA,nA]
 exact a0c rfl ⟨rfl,rfl⟩
theorem c6x (q:PaT):Asks prog 247 [veP q] H (.bool true):=by
 refine a0b mixed d2a (by kernel_rfl) rfl ?_
 refine a0a (a3B q) ?_
 exact a0c rfl ⟨rfl,rfl⟩
theorem c6y (q:PaT):Asks prog 245 [veP q] H (ii q.1.1):=by
 refine a0b mixed d2b (by kernel_rfl) rfl ?_
 refine a0a (a3B q) ?_
 exact a0c rfl ⟨rfl,rfl⟩
theorem c1m {q:PaT} (hm:q.1.2.2<256):Asks prog 242 [veP q] H (.bool (decide (1<ocN q.1.2.2))):=by
 refine a0b mixed c6o (by kernel_rfl) rfl ?_
 refine a0a (a3B q) ?_
 refine a0q (b5d hm) rfl ?_
 simp only[cA,nA]
 refine a0a ⟨_,rfl⟩ ?_
 exact a0c rfl ⟨rfl,by show Value.bool (decide (((ocN q.1.2.2:Nat):Int)>1))=_;congr 1;apply decide_eq_decide.2;omega⟩
theorem b5e {l:List PaT} {f g:FuncId} {wf:PaT->Bool} {tf:PaT->Int} (hu:SE H 3 ceP u l) (hl:l.length<=1000) (ef:a1q prog f=true) (eg:a1q prog g=true) (hf:∀H q,q∈l->Asks prog f [veP q] H (.bool (wf q))) (hg:∀H q,q∈l->Asks prog g [veP q] H (ii (tf q))):
  Con prog 244 [u,.func (.func f) #[] #[],.func (.func g) #[] #[]] H fun r H'=>PH.le H H'/\SI H' r ((l.filter wf).map tf):=by
 refine a0b mixed d1Z (by kernel_rfl) rfl ?_
 refine a0j c1h rfl rfl hu rfl ?_
 refine a0o (α:=Nat×Value) (fun⟨i,out⟩=>[out,ii (i:Nat)]) (fun⟨i,out⟩=>fun H'=>i<=l.length/\PH.le H H'/\SO H H' 3 1 (fun z:Int=>[ii z]) out (((l.take i).filter wf).map tf)) (fun⟨i,out⟩=>l.length-i) ((0,.slice none 0 0)) rfl (⟨Nat.zero_le _,PH.le.refl _,SO.nil _ _ _ _ _⟩) fun⟨i,out⟩ H' hQ=> ?_
 simp only[cA,nA]
 obtain⟨hi,l1,o1⟩:=hQ
 refine a0a ⟨_,rfl⟩ ?_
 refine a0a ⟨_,rfl⟩ ?_
 refine a0f (b:=decide (((i:Nat):Int)<(l.length:Nat))) rfl (fun h=> ?_) (fun h=> ?_)
 ·replace h:=of_decide_eq_true h
  have hi':i<l.length:=by omega
  obtain⟨x,hx,_⟩:=a0t hi'
  have hxm:=List.mem_of_getElem? hx
  refine a0m c1h rfl rfl rfl rfl (fun _=>rfl) (hu.mono l1) hx rfl (fun _=>rfl) fun _=> ?_
  simp only[cA,nA]
  refine a0a (a3B x) ?_
  refine a0n (a0D (f:=f) (caps:= #[]) (vs:=[veP x]) rfl rfl rfl ef (hf _ x hxm)) rfl ?_
  rintro _ _ ⟨rfl,rfl⟩
  refine⟨fun h=>(nomatch h),?_⟩
  simp only[cA,nA]
  refine a0a ⟨_,rfl⟩ ?_
  refine a0f (b:=wf x) rfl (fun hw=> ?_) (fun hw=> ?_)
  ·skip
   refine a0n (a0D (f:=g) (caps:= #[]) (vs:=[veP x]) rfl rfl rfl eg (hg _ x hxm)) rfl ?_
   rintro _ _ ⟨rfl,rfl⟩
   refine⟨fun h=>(nomatch h),?_⟩
   simp only[cA,nA]
   have hfl:=List.length_filter_le wf (l.take i)
   rw[List.length_take]at hfl
   refine a0P el_int rfl rfl rfl (fun _=>rfl) (fun _=>rfl) l1 o1 (by rw[List.length_map];omega) rfl (fun _=>rfl) rfl fun pv v11 H7 l7 o7=> ?_
   simp only[cA,nA]
   exact⟨(i+1,v11),by show l.length-(i+1)<l.length-i;omega,(a0R rfl (a0J rfl (by omega))),⟨hi',l7,by rw[take_snoc hx,List.filter_append,List.map_append,List.filter_cons_of_pos hw];exact o7⟩⟩
  ·skip
   exact⟨(i+1,out),by show l.length-(i+1)<l.length-i;omega,(a0R rfl (a0J rfl (by omega))),⟨hi',l1,by rw[take_snoc hx,List.filter_append,List.map_append,List.filter_cons_of_neg (by rw[hw];decide)];simp only[List.filter_nil,List.map_nil,List.append_nil];exact o1⟩⟩
 ·replace h:=of_decide_eq_false h
  rw[List.take_of_length_le (by omega)]at o1
  exact a0c rfl ⟨l1,o1.se⟩
theorem c1n {l:List Int} (hu:SI H u l) (hl:l.length<=1000) (hb:∀x∈l,0<=x/\x<=1000):a1g prog 246 [u] H (ii l.sum):=by
 refine a0b mixed d2e (by kernel_rfl) rfl ?_
 have hs:∀i:Nat,i<=l.length->0<=(l.take i).sum/\(l.take i).sum<=(i:Nat)*1000:=by
  intro i
  induction i with
  |zero=>intro _;simp
  |succ i ih=>
   intro hi
   obtain⟨x,hx,_⟩:=a0t (show i<l.length by omega)
   have:=hb x (List.mem_of_getElem? hx)
   have:=ih (by omega)
   rw[take_snoc hx,List.sum_append]
   simp only[List.sum_cons,List.sum_nil]
   omega
 refine a0j el_int rfl rfl hu rfl ?_
 refine a0W (α:=Nat) (fun i=>[ii (l.take i).sum,ii (i:Nat)]) (fun i=>i<=l.length) (fun i=>l.length-i) (0) rfl ((Nat.zero_le _)) fun i hQ=> ?_
 simp only[cA,nA]
 refine a0a ⟨_,rfl⟩ ?_
 refine a0a ⟨_,rfl⟩ ?_
 refine a0f (b:=decide (((i:Nat):Int)<(l.length:Nat))) rfl (fun h=> ?_) (fun h=> ?_)
 ·replace h:=of_decide_eq_true h
  have hi':i<l.length:=by omega
  obtain⟨x,hx,_⟩:=a0t hi'
  have h1:=hs i (by omega)
  have h2:=hb x (List.mem_of_getElem? hx)
  refine a0m el_int rfl rfl rfl rfl (fun _=>rfl) hu hx rfl (fun _=>rfl) fun _=> ?_
  simp only[cA,nA]
  refine a0a ⟨_,rfl⟩ ?_
  refine a0a ⟨_,rfl⟩ ?_
  exact⟨(i+1),by show l.length-(i+1)<l.length-i;omega,(a0R (by rw[take_snoc hx,List.sum_append];simp only[List.sum_cons,List.sum_nil,Int.add_zero];exact a3I rfl rfl (by omega) (by omega)) (a0J rfl (by omega))),⟨hi',rfl⟩⟩
 ·replace h:=of_decide_eq_false h
  rw[List.take_of_length_le (by omega)]
  exact a0c rfl ⟨PH.le.refl _,rfl⟩
theorem c6z (hr:RoR H w us) (hv:RoV n us) (hl:lv<2) (hk:1<=k/\k<=8) (hp:SI H v p) (ho:PlOk n k p):Con prog 241 [rov w,v,ii (k:Nat),ii (lv:Nat)] H fun r H'=>PH.le H H'/\∃t,r= .tuple #[t,ii 0]/\∃l:List PaT,SE H' 3 ceP t l/\(l.map fun q=>q.1.1).Nodup/\(∀nm,nm∈(l.map fun q=>q.1.1)↔nm∈a8o us lv n)/\∀q∈l,q.1.2.2=a8x us p lv q.1.1 n:=by
 refine a0b mixed d2c (by kernel_rfl) rfl ?_
 refine a0a (a1A hr.one) ?_
 refine a0h (c0N hr hv hk hp ho) rfl fun H1 l1=> ?_
 simp only[cA,nA]
 refine a0a ⟨_,rfl⟩ ?_
 refine a0e (bF (p:=(0:Int)≠0) (by simp)) ?_
 refine a0h (c1c (hr.mono l1) hv hl) rfl fun H2 l2=> ?_
 simp only[cA,nA]
 refine a0a ⟨_,rfl,by simp⟩ ?_
 refine a0a ⟨_,rfl,by simp⟩ ?_
 refine a0a (b3K hr.one) ?_
 refine a0a ⟨_,rfl⟩ ?_
 refine a0e (bF (p:=(0:Int)≠0) (by simp)) ?_
 refine a0d (c6w (hr.mono (l1.trans l2)) hv hl hk (hp.mono (l1.trans l2)) ho) rfl ?_
 rintro t H3 ⟨l3,h3⟩
 refine⟨fun h=>(nomatch h),?_⟩
 simp only[cA,nA]
 exact a0c rfl ⟨l1.trans (l2.trans l3),t,rfl,h3⟩
noncomputable def d2o (us:List Un) (p:List Int) (lv n:Nat):Nat:=(nmD us lv n).countP fun nm=>decide (1<ocN (a8x us p lv nm n))
noncomputable def c8k (us:List Un) (p:List Int) (lv n:Nat):Int:=((nmD us lv n).map fun nm=>((ocN (a8x us p lv nm n):Nat):Int)).sum
theorem c6A {l:List Int} (hn:l.Nodup) (hm:∀nm,nm∈l↔nm∈a8o us lv n) (h:∀nm∈a8o us lv n,0<=nm/\nm<64):l.Perm (nmD us lv n):=by
 unfold nmD
 rw[List.perm_ext_iff_of_nodup hn]
 ·intro x
  rw[hm]
  constructor
  ·intro hx
   obtain⟨h1,h2⟩:=h x hx
   refine List.mem_map.2 ⟨x.toNat,List.mem_filter.2 ⟨List.mem_range.2 (by omega),decide_eq_true ?_⟩,by omega⟩
   rw[show((x.toNat:Nat):Int)=x by omega];exact hx
  ·intro hx
   obtain⟨d,hd,rfl⟩:=List.mem_map.1 hx
   exact of_decide_eq_true (List.mem_filter.1 hd).2
 ·exact List.pairwise_map.2 ((List.nodup_range.filter _).imp fun h e=>h (by omega))
theorem c1o:a1q prog 242=true:=by kernel_rfl
theorem c6B:a1q prog 245=true:=by kernel_rfl
theorem c6C:a1q prog 247=true:=by kernel_rfl
theorem c6D:a1q prog 243=true:=by kernel_rfl
theorem b2k (hr:RoR H w us) (hv:RoV n us) (hl:lv<2) (hk:1<=k/\k<=8) (hp:SI H v p) (ho:PlOk n k p):a1g prog 200 [rov w,v,ii (k:Nat),ii (lv:Nat)] H (.tuple #[.agg #[ii (d2o us p lv n:Nat),ii (c8k us p lv n)],ii 0]):=by
 refine a0b mixed d2d (by kernel_rfl) rfl ?_
 have hp8:∀x∈p,0<=x/\x<8:=fun x hx=>by have:=ho.lab x hx;omega
 have hnm64:∀nm,nm∈a8o us lv n->0<=nm/\nm<64:=fun nm h=>by
  unfold a8o at h
  obtain⟨x,hx,rfl⟩:=List.mem_map.1 h
  have hxu:=hv.un x (List.mem_of_mem_take hx)
  have:=hxu.pz _ (List.mem_of_getElem? (c1g hxu hl))
  split at this<;>omega
 refine a0a (a1A hr.one) ?_
 refine a0d (c6z hr hv hl hk hp ho) rfl ?_
 rintro _ H1 ⟨l1,t,rfl,l,hL,hnd,hmm,hds⟩
 refine⟨fun h=>(nomatch h),?_⟩
 simp only[cA,nA]
 refine a0a ⟨_,rfl,by simp⟩ ?_
 refine a0a ⟨_,rfl,by simp⟩ ?_
 refine a0a ⟨_,rfl⟩ ?_
 refine a0e (bF (p:=(0:Int)≠0) (by simp)) ?_
 have hpm:=c6A hnd hmm hnm64
 have hl64:l.length<=64:=by
  have:=b5b hnd (fun x hx=>hnm64 x ((hmm x).1 hx))
  simpa using this
 have hm:∀q∈l,q.1.2.2<256:=fun q hq=>by rw[hds q hq];exact c1a hp8 n
 refine a0d (b5e (f:=242) (g:=245) (wf:=fun q=>decide (1<ocN q.1.2.2)) (tf:=fun q=>q.1.1) hL (by omega) c1o c6B (fun H q hq=>c1m (hm q hq)) (fun H q hq=>c6y q)) rfl ?_
 rintro v5 H2 ⟨l2,h2⟩
 refine⟨fun h=>(nomatch h),?_⟩
 simp only[cA,nA]
 refine a0j el_int rfl rfl h2 rfl ?_
 simp only[cA,nA]
 refine a0d (b5e (f:=247) (g:=243) (wf:=fun _=>true) (tf:=fun q=>((ocN q.1.2.2:Nat):Int)) (hL.mono l2) (by omega) c6C c6D (fun H q hq=>c6x q) (fun H q hq=>b5d (hm q hq))) rfl ?_
 rintro v7 H3 ⟨l3,h3⟩
 refine⟨fun h=>(nomatch h),?_⟩
 simp only[cA,nA]
 rw[show l.filter (fun _=>true)=l from List.filter_eq_self.2 fun _ _=>rfl]at h3
 refine a0h (c1n h3 (by rw[List.length_map];omega) (fun x hx=>by obtain⟨q,_,rfl⟩:=List.mem_map.1 hx;have:=c1l q.1.2.2;omega)) rfl fun H4 l4=> ?_
 simp only[cA,nA]
 refine a0a (el_int.vcells _) ?_
 refine a0a (el_int.vcells _) ?_
 have e1:((l.filter fun q=>decide (1<ocN q.1.2.2)).map fun q=>q.1.1).length=d2o us p lv n:=by
  rw[List.length_map,<-List.countP_eq_length_filter]
  unfold d2o
  rw[<-hpm.countP_eq,List.countP_map]
  exact List.countP_congr fun q hq=>by simp only[Function.comp];rw[hds q hq]
 have e2:(l.map fun q=>((ocN q.1.2.2:Nat):Int)).sum=c8k us p lv n:=by
  unfold c8k
  rw[<-c1k (hpm.map _),List.map_map]
  congr 1
  exact List.map_congr_left fun q hq=>by simp only[Function.comp];rw[hds q hq]
 rw[e1,e2]
 exact a0c rfl ⟨l1.trans (l2.trans (l3.trans l4)),rfl⟩
end
end Go.Proofs.YtlmgkkjgdapnpaaGreatDoor

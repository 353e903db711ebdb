/- Lemmas of the proof. -/
import Derived.Test.YtlmbepjdokomkaaGreatDoorGiJ
open Array renaming replicate->eZ
open Go.Result renaming andThen_ok->eL
open Go.Sem renaming run_bind->eM,run_pure->eO
open List renaming map_toArray->gA,range->eT,replicate->eS
open Nat renaming le_total->oH
open Prod.mk renaming injEq->jK
set_option linter.all false
set_option maxRecDepth 100000
open Go.IntKind renaming wrap->wQ
namespace Go.Z
open Proofs.Tryz RowKit RX GS RZ WD
def d8E:Gz ((prog.funcs[65]?).getD default).body=Rk ((prog.funcs[65]?).getD default) 20 120 4 83 36 (.alloc 83) (.load 83 (.tmp 5)) (.region 4 #[mkO (opr f65 4 0) (some 16) (.move (.tmp 2)),mkO (opr f65 4 1) none (.panic (.tmp 16))] false):=aB
def ky (n:Nat):i8 (Value.agg (eZ n (.int .u64 0))).cells:=fun c hc=>by
 simp[Value.cells]at hc;rw[hc.2];rfl
def d8F {e:Int}:Vp prog 83 36 120 4 ((prog.funcs[65]?).getD default) (.agg (eZ 32 (.int .u64 0))) e (Am e) 20 (.alloc 83) (.load 83 (.tmp 5)) where
 ifc:=⟨_,_,rfl⟩
 asr:=fun w=>by kernel_rfl
 zB:=aB
 hB:=aB
 cB:=aB
 fB:=fun w k=>by kernel_rfl
 zs:=aB
 zo:=ky 32
 hT:=aB
 E1:=aB
 aE:=aB
 hE:=aB
 nb:=fun w=>by kernel_rfl
 z5:=AH aB aB aB aB
 d5:=fun c h=>by cases h
 ord:=aB
def d8G {e:Int}:Qw prog 65 83 36 (.agg (eZ 32 (.int .u64 0))) (Am e) e:=by
 have h:=zj;rw[d8E]at h;exact Zt mixed h d8F
def zSh:Value:= .agg (eZ 16 (.int .u64 0))
def Zv:zSh.cells.size=16/\i8 zSh.cells:=⟨rfl,ky 16⟩
def RV {ρ:List Value} {x:SV} {o:Nat} (hx:(D prog ρ x).cells=eZ 32 (.int .u64 0)) (ho:o+16<=32):D prog ρ (.sub x o 16 0 noI)=zSh:=by
 show Value.agg ((D prog ρ x).cells.extract (o+0*x4 (D prog ρ noI)) (o+0*x4 (D prog ρ noI)+16))=_;rw[hx,bY,cP,Array.extract_replicate,show min (o+16) 32-o=16 by omega];rfl
section
variable {dm:Dm} {H B:PH} {n k ms lv who:Nat} {es:List (Nat×Nat)} {us:List Un} {w rw wts:Value} {lo hi:Int} {b:Nat}
def AL {e:Int} (hW:Wo dm H b n k ms lv who w rw es us lo hi wts) (hS:StOk dm n k ms lv who es us lo hi) (hp:(j8 n k es us lo hi=0/\e=4)\/(400<j8 n k es us lo hi/\e=3)):ConX prog 23 [.pointer (some ⟨b,0,none⟩)] H (fun _ _=>False) fun x H'=>Pl H H'/\x=Am e:=
 (PG hW hS).mono (fun _ _ h=>aA) fun x H' h=>⟨h.1,by rcases h.2 with g|g<;>rcases hp with q|q<;>first|omega|rw[g.2,q.2]⟩
end
section
variable {dm:Dm} {H B:PH} {n k ms lv who:Nat} {es:List (Nat×Nat)} {us:List Un} {w rw u:Value} {lo hi:Int} {p:List Int}
def b8w {a c:Nat} (hs:H a=some (.cells (stC dm n k ms lv who w rw lo hi).toArray 30 (0,0))) (hc:H c=some (.cells #[u] 49 (0,0))) (hu:SI H u p) (ho:Bl n es (wlU us n) lo hi (k:Nat) p=false) (hM:StM H w rw es us) (hS:StOk dm n k ms lv who es us lo hi) (hz:ms=1->s8 us n=true):
  ConX prog 29 [.pointer (some ⟨a,0,none⟩),.pointer (some ⟨c,0,none⟩)] H (fun _ _=>False) fun x H'=>Pl H H'/\x=Am 8:=by
 refine Cj mixed yq aB rfl ?_;have sU:bdE n (wlU us n) lo hi (k:Nat)=0:=by
  unfold bdE;rw[if_pos ⟨hS.bd.len,hS.bd.b0,hS.bd.b1,hS.bd.d1,hS.bd.d8,hS.bd.ok⟩]
 refine s5 (vs:=(stC dm n k ms lv who w rw lo hi)) Ea rfl rfl hs rfl (show 0+12<=12 by decide) rfl ?_;simp only[cA,nA];refine g5 (Ij hM hS hz) rfl ?_;rintro _ H1 ⟨l1,b,wts,rfl,hW⟩;refine nmI ?_;simp only[cA,nA];refine j9 ?_;simp only[cA,nA];refine i0 Bv ?_;simp only[cA,nA];refine i0 Re ?_;simp only[cA,nA];refine s5 (vs:=[ii (n:Nat),w]) Lc rfl rfl hW.bk rfl (show 0+0+0+2<=17 by decide) rfl ?_;simp only[cA,nA];refine j9 ?_;simp only[cA,nA];refine i0 Lj ?_;simp only[cA,nA];refine s5 (vs:=[wts,ii lo,ii hi,ii (k:Nat)]) Vh rfl rfl hW.bk rfl (show 0+12+4<=17 by decide) rfl ?_;simp only[cA,nA];refine i7 Jj rfl rfl (l1 _ _ hc) rfl rfl ?_;simp only[cA,nA];refine i9 (MM hW.mm.tb hW.mm.gr hS.gv hW.wt (hu.mono l1)) rfl fun H2 l2=> ?_;simp only[cA,nA];rw[sU,ho];refine g7 (g7 ?_);refine s7 (OU _) rfl ?_;simp only[cA,nA];refine b9 ?_;exact Av (AE (e:=8) aC) rfl (fun _ _ h=>h.elim) ((fun x H' h=>⟨l1.trans (l2.trans h.1),h.2⟩))
def RY {n k ms lv who e:Int} (h1:n8 w=true) (h2:n8 rw=true) (h3:u.cells.size=1/\i8 u.cells) (hX:∀a c H',Pl H H'->H' a=some (.cells (stC dm n k ms lv who w rw lo hi).toArray 30 (0,0))->H' c=some (.cells u.cells 49 (0,0))->ConX prog 29 [.pointer (some ⟨a,0,none⟩),.pointer (some ⟨c,0,none⟩)] H' (fun _ _=>False) fun x H''=>Pl H' H''/\x=Am e):
  Con prog 9 [stV dm n k ms lv who w rw lo hi,u] H fun r H'=>Pl H H'/\r= .tuple #[zSh,zSh,ii e]:=by
 refine g9 mixed OD ?_;refine b4 (Ep h1 h2) ?_;refine o0 (cs:=(stC dm n k ms lv who w rw lo hi).toArray) rfl fun a ha=> ?_;simp only[cA,nA];have la:=PH.le_put ha (.cells (stC dm n k ms lv who w rw lo hi).toArray 30 (0,0));refine b4 h3 ?_;refine o0 (cs:=u.cells) rfl fun c hc=> ?_;simp only[cA,nA];have lc:=PH.le_put hc (.cells u.cells 49 (0,0));refine x5 (Ai (vs:=[.pointer (some ⟨a,0,none⟩),.pointer (some ⟨c,0,none⟩)]) rfl rfl) rfl ?_;simp only[cA,nA];refine g5 (Ol (caps:=[.pointer (some ⟨a,0,none⟩),.pointer (some ⟨c,0,none⟩)]) (V:=fun _ _=>False) (XE:=fun e' H'=>e'=e/\Pl H H') mixed zj PM PL (hX a c _ (la.trans lc) (lc _ _ (PH.put_self _ _ _)) (PH.put_self _ _ _)) (fun _ _ h=>h.elim) (fun x H' hx=>⟨e,hx.2 ▸ d8G,rfl,(la.trans lc).trans hx.1⟩)) rfl ?_;rintro _ H4 hX;refine nmI ?_;simp only[cA,nA];rcases hX with⟨_,h,_⟩|⟨_,⟨rfl,l4⟩,rfl⟩
 ·exact h.elim
 have uR:rdV prog 83 (Value.agg (eZ 32 (.int .u64 0))).cells= .agg (eZ 32 (.int .u64 0)):=by unfold rdV;rw[show p8 prog 83=true by kernel_rfl];rfl
 rw[uR];refine g7 (g7 ?_);refine b4 ⟨rfl,ky 32⟩ ?_;exact c9 (show Value.tuple #[D prog _ (.sub (.pj (.v 5) 0) 0 16 0 noI),D prog _ (.sub (.pj (.v 5) 0) 16 16 0 noI),D prog _ (.pj (.v 5) 1)]=Value.tuple #[zSh,zSh,ii _] by rw[RV rfl aC,RV rfl aC];rfl) ⟨l4,rfl⟩
def c3K (hu:SI H u p) (ho:Bl n es (wlU us n) lo hi (k:Nat) p=false) (hM:StM H w rw es us) (hS:StOk dm n k ms lv who es us lo hi) (hz:ms=1->s8 us n=true):
  Con prog 9 [stV dm n k ms lv who w rw lo hi,u] H fun r H'=>Pl H H'/\r= .tuple #[zSh,zSh,ii 8]:=
 RY (t7 hM.gr) hM.ro.one hu.one fun a c H' l h hc=>b8w h (by rw[hu.cells]at hc;exact hc) (hu.mono l) ho (hM.mono l) hS hz
def b8x {e:Int} {c0:Nat} (hs:H c0=some (.cells (stC dm n k ms lv who w rw lo hi).toArray 30 (0,0))) (hM:StM H w rw es us) (hS:StOk dm n k ms lv who es us lo hi) (hz:ms=1->s8 us n=true) (hp:(j8 n k es us lo hi=0/\e=4)\/(400<j8 n k es us lo hi/\e=3)):ConX prog 22 [.pointer (some ⟨c0,0,none⟩)] H (fun _ _=>False) fun x H'=>Pl H H'/\x=Am e:=by
 refine Cj mixed yp aB rfl ?_;refine j4 (Ji (ok:=Rg) (ke:=shR) Ha rfl) rfl ?_;rintro v1 H1 ⟨l1,o1⟩;refine nmI ?_;simp only[cA,nA];obtain⟨g0,es0,cl0,rfl,zM,sK,hE0,tN⟩:=id o1;refine b4 (Zb g0) ?_;refine s5 (vs:=(stC dm n k ms lv who w rw lo hi)) Ea rfl rfl (l1 _ _ hs) rfl (show 0+12<=12 by decide) rfl ?_;simp only[cA,nA];refine g5 (Ij (hM.mono l1) hS hz) rfl ?_;rintro _ H2 ⟨l2,b,wts,rfl,hW⟩;refine nmI ?_;simp only[cA,nA];exact Av (AL hW hS hp) rfl (fun _ _ h=>h.elim) ((fun x H' h=>⟨l1.trans (l2.trans h.1),h.2⟩))
def SA {n k ms lv who e:Int} (h1:n8 w=true) (h2:n8 rw=true) (hX:∀a H',Pl H H'->H' a=some (.cells (stC dm n k ms lv who w rw lo hi).toArray 30 (0,0))->ConX prog 22 [.pointer (some ⟨a,0,none⟩)] H' (fun _ _=>False) fun x H''=>Pl H' H''/\x=Am e):Con prog 8 [stV dm n k ms lv who w rw lo hi] H fun r H'=>Pl H H'/\r= .tuple #[.slice none 0 0,ii e]:=by
 refine g9 mixed OC ?_;refine b4 (Ep h1 h2) ?_;refine o0 (cs:=(stC dm n k ms lv who w rw lo hi).toArray) rfl fun a ha=> ?_;simp only[cA,nA];have la:=PH.le_put ha (.cells (stC dm n k ms lv who w rw lo hi).toArray 30 (0,0));refine x5 (Ai (vs:=[.pointer (some ⟨a,0,none⟩)]) rfl rfl) rfl ?_;simp only[cA,nA];refine g5 (Ol (caps:=[.pointer (some ⟨a,0,none⟩)]) (V:=fun _ _=>False) (XE:=fun e' H'=>e'=e/\Pl H H') mixed Zm jw PI (hX a _ la (PH.put_self _ _ _)) (fun _ _ h=>h.elim) (fun x H' hx=>⟨e,hx.2 ▸ RD,rfl,la.trans hx.1⟩)) rfl ?_;rintro _ H4 hX;refine nmI ?_;simp only[cA,nA];rcases hX with⟨_,h,_⟩|⟨_,⟨rfl,l4⟩,rfl⟩
 ·exact h.elim
 refine g7 (g7 ?_);exact c9 rfl ⟨l4,by show Value.tuple #[rdV prog 39 (Value.slice none 0 0).cells,ii _]=_;rw[RE]⟩
def SB {e:Int} (hM:StM H w rw es us) (hS:StOk dm n k ms lv who es us lo hi) (hz:ms=1->s8 us n=true) (hp:(j8 n k es us lo hi=0/\e=4)\/(400<j8 n k es us lo hi/\e=3)):Con prog 8 [stV dm n k ms lv who w rw lo hi] H fun r H'=>Pl H H'/\r= .tuple #[.slice none 0 0,ii e]:=
 SA (t7 hM.gr) hM.ro.one fun a H' l h=>b8x h (hM.mono l) hS hz hp
end
def d4N:g6 prog [] [] [⟨0,3,[],[]⟩] [] 194=some (.ef false f194 1 0 [(.ki 64),(.ki 64)]
(.pm f194 2 1 [V0]
(.loop [(.ki 0)]
(.ri V2
(.ri V1
(.br (.io .lss V2 V1)
(.pm f194 5 3 [V0,V2]
(.ef false f194 5 4 [V3,V2]
(.next 0 [(.io .add V2 (.ki 1))]))) (.rq (.cells 1 V0) (.ret [(.ag V0)])))))))):=aB
def d4O:g6 prog [] [] [⟨0,1,[],[]⟩] [] 197=some (.loop [V1]
(.pm f197 1 2 [V0,V2]
(.pm f197 1 3 [V3]
(.ri V4
(.ri V2
(.br (.io .neq V4 V2)
(.pm f197 2 2 [V0,V2]
(.pm f197 2 3 [V5]
(.next 0 [V6]))) (.ret [V2]))))))):=aB
def d4P:g6 prog [] [] [] [⟨1,[0,1,0,4,15,0,32,0,128,511,1023,2047],rDx 12 2505025050,rDx 12 100001000,rDx 9 487653210++rAx 9 3,[]⟩] 196=some (.rq (.cells 1 V0) (.rq (.cells 2 V1) (.call true 197 [(.cell V0 0 0 noI),(.cell V1 0 0 noI)]
(.call true 197 [(.cell V0 0 0 noI),(.cell V1 1 0 noI)]
(.pm f196 2 4 [V2,V3]
(.pm f196 2 7 [V2,V3]
(.pm f196 2 8 [(.cell V0 0 0 noI),V4]
(.ef false f196 2 9 [V6,V5]
(.ri V2
(.ri V3
(.ret [(.io .neq V2 V3)]))))))))))):=aB
def d4Q:g6 prog [] [] [] [] 249=some (.rq (.cells 2 V1)
(.ru V0
(.rq (.num (.cell V1 0 0 noI)) (.rq (.nn (.cell V1 0 0 noI)) (.br (.uo .eql (.uo .and (.uo .shr V0 (.cell V1 0 0 noI)) (kU 1)) (kU 1)) (.rq (.num (.cell V1 1 0 noI)) (.rq (.nn (.cell V1 1 0 noI)) (.ret [(.uo .eql (.uo .and (.uo .shr V0 (.cell V1 1 0 noI)) (kU 1)) (kU 1))]))) (.ret [(.k (.bool false))])))))):=aB
def d8H:g6 prog [] [] [] [⟨4,[0,1,3,7,15,7,39,127,255],rDx 9 5020000,rPx 9 0,rDx 9 874653210,[]⟩] 131=some (.rq (.cells 2 V0) (.call false 52 [(.ag V0)]
(.ri V2
(.br (.io .neq V2 (.ki 0)) (.ret [V2])
(.ru V1
(.br (.uo .eql V1 (kU 0)) (.ret [(.ki 2)]) (.call true 164 [V1]
(.ri V3
(.rq (.int .i64 (.cell V0 0 0 noI)) (.br (.io .gtr V3 (.cell V0 0 0 noI)) (.ret [(.ki 2)]) (.ret [(.ki 0)]))))))))))):=aB
def d4R:g6 prog [2,3] [] [] [] 195=some (.rq (.cells 2 V0) (.pub 25 V0
(.rq (.cells 1 V1) (.pub 42 V1
(.ef false f195 1 0 [V2,V3]
(.ret [V4])))))):=aB
def c8m:g6 prog [] [] [⟨0,1,[],[]⟩] [] 252=some (.pm f252 0 0 [V1]
(.pm f252 0 1 [V3]
(.pm f252 0 2 [V4]
(.loop [(.ki 0)]
(.ri V6
(.ri V5
(.br (.io .lss V6 V5)
(.pm f252 2 1 [V4,V6]
(.pm f252 2 2 [V7]
(.rq (.cells 2 V8)
(.pm f252 3 0 [V2]
(.call false 249 [V9,(.ag V8)]
(.rq (.bool V10) (.br V10
(.ef false f252 3 7 [V0,V6,(.ag V8)]
(.rq (.bool V11) (.br (.nt V11) (.ret []) (.next 0 [(.io .add V6 (.ki 1))])))) (.next 0 [(.io .add V6 (.ki 1))])))))))) (.ret [])))))))):=aB
def d4S:g6 prog [] [] [⟨0,3,[],[0,1]⟩,⟨0,8,[],[0,1]⟩,⟨0,12,[],[]⟩] [⟨14,[0,0,3,7,0,31,63,0,0,384,896,0,3968,8064,16383,0,0,0,196608,458752,0,2031616,4128768,8388607,16777215,0,67108863],rDx 27 432211011005211011001101100,rPx 15 0++rDx 12 2,rAx 0 14++rAx 15 8++[14,23,24,25],[26]⟩,⟨15,rDx 7 7300++[96,224,480,480,1023,3071],rDx 13 8100025501100,rDx 13 1300000,rAx 0 12,[12]⟩] 199=some (.call false 81 [(.ki 1)]
(.rq (.cells 2 V1)
(.pm f199 2 1 [V0]
(.loop [(.ki 0),(.z 142),V1]
(.ri V3
(.ri V2
(.br (.io .lss V3 V2)
(.pm f199 5 2 [V0,V3]
(.pm f199 5 3 [V6]
(.pm f199 5 5 [V7,V3]
(.pm f199 5 6 [V8]
(.call false 169 [V9]
(.ri V10
(.br (.io .eql V10 (.ki 0)) (.call false 81 [(.ki 0)]
(.rq (.cells 2 V11) (.ret [(.ag V11)]))) (.loop [(.io .add V3 (.ki 1)),V4,V5]
(.pm f199 8 2 [V0]
(.ri V11
(.ri V14
(.br (.io .lss V11 V14)
(.pm f199 10 2 [V0,V11]
(.pm f199 10 3 [V15]
(.pm f199 10 5 [V16,V3]
(.pm f199 10 6 [V17]
(.rq (.cells 2 V18) (.loop [V3]
(.pm f199 12 2 [V0]
(.ri V19
(.ri V20
(.br (.io .lss V19 V20)
(.pm f199 14 2 [V0,V11]
(.pm f199 14 3 [V21]
(.pm f199 14 5 [V22,V19]
(.pm f199 14 6 [V23]
(.pm f199 14 9 [V0,V3]
(.pm f199 14 10 [V25]
(.pm f199 14 12 [V26,V3]
(.pm f199 14 13 [V27]
(.pm f199 14 18 [V0,V3]
(.pm f199 14 19 [V29]
(.pm f199 14 21 [V30,V19]
(.pm f199 14 22 [V31]
(.call true 83 [V24,V28]
(.call true 83 [(.ag V18),V32]
(.call true 172 [V33,V34]
(.rq (.cells 2 V35)
(.pm f199 15 2 [V0,V11]
(.pm f199 15 3 [V36]
(.call true 153 [(.ag V35),(.ag V13)]
(.rq (.tup 0 V38) (.rq (.tup 1 V38)
(.pm f199 15 11 [V37,V19]
(.ef false f199 15 12 [V39,(.pj V38 0)]
(.next 2 [(.io .add V19 (.ki 1))])))))))))))))))))))))))) (.next 1 [(.io .add V11 (.ki 1)),V12,V13])))))))))))
(.pm f199 16 2 [V0,V3]
(.pm f199 16 3 [V15]
(.pm f199 16 5 [V16,V3]
(.pm f199 16 6 [V17]
(.rq (.cells 2 V18) (.next 0 [(.io .add V3 (.ki 1)),V12,V18])))))))))))))))))) (.ret [(.ag V5)])))))))):=aB
def d4T:g6 prog [12,16] [] [⟨4,5,[],[3]⟩,⟨0,11,[],[]⟩,⟨0,18,[],[]⟩,⟨4,26,[],[]⟩] [⟨9,[0,0,2,7,15],[5,0,2,2,0],[5,0,0,0,0],[0,1,2,3,4],[]⟩,⟨20,[0,0,0,4,12,31,63],rDx 7 8121101,rPx 7 0,[0,1,2,3,4,5],[6]⟩,⟨26,[0,0,2,7,0,0,32,127,255,511],rDx 10 25052505,rDx 10 7050705,rDx 10 9873654210,[]⟩] 132=some (.rq (.cells 2 V0) (.rq (.cells 1 V2) (.rq (.cells 1 V3) (.call false 194 []
(.rq (.cells 1 V4) (.call false 195 [(.ag V0),V1]
(.rf V5 2 [(.z 142)]
(.rq (.cells 2 V7)
(.pm f132 5 2 [(.cell V2 0 0 noI),V6]
(.rq (.bool V9) (.br V9
(.call false 196 [(.ag V4),(.ag V7)]
(.rq (.bool V10) (.br (.nt V10) (.call false 81 [(.ki 0)]
(.rq (.cells 2 V11) (.next 1 [V11]))) (.next 0 [V8])))) (.next 0 [V8])))))
(.ef false f132 7 0 []
(.pub 210 (.z 210)
(.ef false f132 7 2 [V8,V7]
(.ef false f132 8 2 [(.cell V4 0 0 noI)]
(.rq (.cells 1 V10) (.call true 142 [V1]
(.ef true f132 9 3 [(.cell V10 0 0 noI),V11]
(.loop [(.ki 0)]
(.ri V13
(.br (.io .lss V13 (.ki 64))
(.ru V1
(.rq (.num V13) (.rq (.nn V13) (.br (.uo .eql (.uo .and (.uo .shr V1 V13) (kU 1)) (kU 1))
(.ef false f132 13 8 [(.cell V10 0 0 noI),V13]
(.ri V14
(.br (.io .eql V14 V13)
(.ri V12
(.br (.io .neq V13 V12)
(.pm f132 14 0 [V8]
(.pm f132 14 2 [V8]
(.pm f132 14 3 [V16]
(.ef false f132 14 4 [V15,V13,V17]
(.next 0 [(.io .add V13 (.ki 1))]))))) (.next 0 [(.io .add V13 (.ki 1))]))) (.next 0 [(.io .add V13 (.ki 1))])))) (.next 0 [(.io .add V13 (.ki 1))])))))
(.pm f132 16 0 [V8]
(.pm f132 16 1 [V14]
(.ef false f132 16 2 [V15,V15]
(.pub 306 (.z 306)
(.ef false f132 16 4 [V17,V16]
(.pm f132 17 0 [V17]
(.pm f132 17 1 [V19]
(.loop [(.ki 0)]
(.ri V21
(.ri V20
(.br (.io .lss V21 V20)
(.pm f132 20 0 [V17]
(.pm f132 20 2 [V8]
(.pm f132 20 3 [V23]
(.ef true f132 20 4 [V24,V24]
(.pm f132 20 5 [V22,V21]
(.ef false f132 20 6 [V26,V25]
(.next 1 [(.io .add V21 (.ki 1))])))))))
(.ef false f132 22 0 [V8,V17]
(.rq (.cells 1 V22) (.call false 195 [(.ag V0),V1]
(.rf V23 2 []
(.rq (.cells 2 V25)
(.ef true f132 26 3 [(.cell V10 0 0 noI),(.cell V25 0 0 noI)]
(.ef true f132 26 7 [(.cell V10 0 0 noI),(.cell V25 1 0 noI)]
(.pm f132 27 2 [(.cell V3 0 0 noI),V24]
(.rq (.bool V28) (.br V28
(.next 2 [])
(.ri V26
(.ri V27
(.br (.io .eql V26 V27) (.next 2 [])
(.ef false f132 28 3 [(.cell V22 0 0 noI),V26,V26,(.ki 1)]
(.ef false f132 29 3 [(.cell V22 0 0 noI),V27,V27,(.ki 1)]
(.ef false f132 30 3 [(.cell V22 0 0 noI),V26,V27,(kI (-1))]
(.ef false f132 31 3 [(.cell V22 0 0 noI),V27,V26,(kI (-1))]
(.next 2 []))))))))))))))
(.pm f132 32 0 [V17]
(.call false 199 [V24]
(.rq (.cells 2 V25) (.ret [(.ag V25)])))) (.dead 818)))))))))))))))))))))))))) (.ret [(.ag V6)])))))))):=aB
def c8n:g6 prog [] [] [] [⟨3,rDx 7 7300++[96,224,0,992,2016,0,4096,16352,32767,65535],rDx 17 81220110110101101,rPx 17 0,rAx 0 16,[16]⟩] 198=some (.pm f198 0 0 [V3]
(.pm f198 0 2 [V5,V0]
(.rq (.tup 0 V6) (.rq (.tup 1 V6)
(.pm f198 1 0 [V3]
(.pm f198 1 2 [V7,V1]
(.rq (.tup 0 V8) (.rq (.tup 1 V8) (.rq (.bool (.pj V6 1)) (.br (.pj V6 1) (.rq (.bool (.pj V8 1)) (.br (.pj V8 1)
(.pm f198 3 0 [V4]
(.pm f198 3 2 [V9,(.pj V6 0)]
(.pm f198 3 3 [V10]
(.pm f198 3 5 [V4]
(.pm f198 3 7 [V12,(.pj V6 0)]
(.pm f198 3 8 [V13]
(.pm f198 3 10 [V14,(.pj V8 0)]
(.pm f198 3 11 [V15]
(.call true 81 [V2]
(.call true 115 [V16,V17]
(.pm f198 3 15 [V11,(.pj V8 0)]
(.ef false f198 3 16 [V19,V18]
(.ret []))))))))))))) (.ret []))) (.ret []))))))))))):=aB
def d4U:g6 prog [] [] [] [] 82=some (.rq (.cells 2 V0) (.call false 131 [(.ag V0),V1]
(.ri V2
(.br (.io .neq V2 (.ki 0)) (.ret [(.z 44),V2]) (.call false 132 [(.ag V0),V1,(.k (.map none)),(.k (.map none))]
(.call false 85 [V3]
(.rq (.tup 0 V4) (.rq (.tup 1 V4) (.rq (.cells 8 (.pj V4 0)) (.ret [(.ag (.pj V4 0)),(.pj V4 1)])))))))))):=aB
def d4V:g6 prog [] [] [] [] 121=some (.pm f121 1 1 [V0]
(.pm f121 1 2 [V2]
(.pm f121 1 3 [V3]
(.ri V4
(.br (.io .neq V4 (.ki 0)) (.ret [(.ki 0)])
(.pm f121 3 1 [V0]
(.pm f121 3 2 [V5]
(.pm f121 3 3 [V6]
(.call false 182 [V7,V1]
(.rq (.tup 0 V8) (.rq (.tup 1 V8) (.rq (.tup 2 V8) (.rq (.cells 1 (.pj V8 1))
(.pm f121 4 4 [V0]
(.pm f121 4 5 [V9]
(.ef false f121 4 6 [V10,(.ag (.pj V8 1))]
(.pm f121 4 7 [V0]
(.pm f121 4 8 [V12]
(.ef false f121 4 9 [V13,(.pj V8 2)]
(.ret [(.pj V8 0)])))))))))))))))))))):=aB
def d4W:g6 prog [] [] [] [⟨7,[0,1,0,4,12,28,60,3,255,511],rDx 10 601111000,rPx 8 0++[1,0],rAx 0 8,[8,9]⟩] 182=some (.rq (.cells 1 V0)
(.ri V1
(.br (.io .lss V1 (.ki 1)) (.ret [(.ki 0),(.z 51),(.ki 2)]) (.call false 240 [(.ag V0)]
(.call false 241 [V2,(.cv .u64 V1)]
(.rq (.tup 0 V3) (.rq (.tup 1 V3) (.rq (.int .i64 (.pj V3 1)) (.br (.io .neq (.pj V3 1) (.ki 0)) (.ret [(.ki 0),(.z 51),(.pj V3 1)]) (.rq (.int .u64 (.pj V3 0))
(.pm f182 7 3 [V2]
(.pm f182 7 4 [V4]
(.pm f182 7 5 [V5]
(.pm f182 7 6 [V6]
(.rq (.cells 1 V7) (.ret [(.cv .i64 (.pj V3 0)),(.ag V7),(.ki 0)])))))))))))))))):=aB
def d4X:g6 prog [6] [] [] [] 240=some (.rq (.cells 1 V0) (.pub 347 (.ag V0) (.ret [V1]))):=aB
@[reducible] def z3_:SV:= .uo .rem (.op1 .neg .u64 (.cn V1 0)) (.cn V1 0)
def d4Y:g6 prog [] [] [⟨4,5,[],[1,2]⟩] [] 241=some (.rq (.cells 1 V1)
(.pm f241 1 1 [V0]
(.pm f241 1 2 [V2]
(.ef false f241 1 3 [V3]
(.rq (.int .u64 (.cell V1 0 0 noI)) (.rq (.nz (.cell V1 0 0 noI)) (.call false 282 [V4]
(.rf V5 1 [(.z 42),(.z 36)]
(.ru V6
(.br (.uo .leq V6 (.uo .sub (.op1 .neg .u64 z3_) (kU 1))) (.next 1 [(.uo .rem V6 (.cell V1 0 0 noI)),(.ki 0)]) (.br (.uo .eql z3_ (kU 0)) (.next 1 [(.uo .rem V6 (.cell V1 0 0 noI)),(.ki 0)]) (.next 0 [V7,V8])))) (.ret [(kU 0),(.ki 9)]) (.ret [(.cell V6 0 0 noI),(.cell V7 0 0 noI)]))))))))):=aB
def SC:(opr f241 1 3).op= .makeFunc (.func 281) #[(.tmp 11)] #[]:=aB
@[reducible] def z4_:SV:= .uo .mul (.uo .xor (.uo .mul (.uo .xor V12 (.uo .shr V12 (kU 30))) (kU 13787848793156543929)) (.uo .shr (.uo .mul (.uo .xor V12 (.uo .shr V12 (kU 30))) (kU 13787848793156543929)) (kU 27))) (kU 10723151780598845931)
def d4Z:g6 prog [] [] [] [] 281=some (.pm f281 1 1 [V0]
(.pm f281 1 2 [V1]
(.pm f281 1 3 [V2]
(.pm f281 1 4 [V3]
(.ru V4
(.pm f281 1 6 [V0]
(.pm f281 1 7 [V5]
(.pm f281 1 8 [V6]
(.ef false f281 1 9 [V7,(.uo .add V4 (kU 11400714819323198485))]
(.pm f281 2 1 [V0]
(.pm f281 2 2 [V9]
(.pm f281 2 3 [V10]
(.pm f281 2 4 [V11]
(.ru V12
(.ret [(.uo .xor z4_ (.uo .shr z4_ (kU 31)))]))))))))))))))):=aB
def d5a:g6 prog [1] [] [] [] 282=some (.rq (.cells 1 V0) (.pub 330 V0
(.ef false f282 1 0 [V1]
(.ret [V2])))):=aB
def c8o:g6 prog [] [] [⟨0,1,[],[]⟩] [] 315=some (.loop [(.ki 0)]
(.ri V2
(.br (.io .lss V2 (.ki 200))
(.pm f315 2 1 [V1]
(.ef false f315 2 2 [V3]
(.ef false f315 2 3 [V0,V4]
(.rq (.bool V5) (.br (.nt V5) (.ret []) (.next 0 [(.io .add V2 (.ki 1))])))))) (.ret [])))):=aB
def d5b:g6 prog [] [] [⟨0,4,[],[]⟩] [⟨7,[0,0,2,7,15,0,0,64,224,480,1023,2047],rDx 12 1150011500,rPx 12 0,rAx 0 12,[]⟩,⟨10,[0,1,3,7,15,0,0,64,192,448,1023,2047,4095,4095,4095,0,40959,114687,262143],rDx 19 403000021110011110,rPx 19 0,rAx 0 17,[17,18]⟩,⟨15,[0,1,3,7,15,0,0,0,0,384,896,2047,4095,8191,8191,8191,16383,98303,262143],rDx 19 211000011110,rPx 19 0,rAx 0 19,[]⟩] 78=some (.ef false f78 1 1 [V0]
(.pm f78 2 1 [V0]
(.pm f78 2 2 [V3]
(.pm f78 2 3 [V4]
(.pm f78 2 4 [V5]
(.pm f78 2 5 [V6]
(.call false 122 [V7]
(.pm f78 2 7 [V8]
(.pm f78 3 1 [V9,(.ki 1)]
(.loop [(.k (.slice none 0 0)),(.ki 0)]
(.ri V12
(.ri V10
(.br (.io .lss V12 V10)
(.pm f78 5 1 [V0]
(.pm f78 5 2 [V13]
(.pm f78 5 3 [V14]
(.pm f78 5 4 [V15]
(.pm f78 5 5 [V16]
(.call false 122 [V17]
(.ef false f78 5 9 [V2,V9]
(.pm f78 5 10 [V18,V19]
(.pm f78 5 11 [V20]
(.rq (.cells 2 V21)
(.pm f78 6 2 [V0]
(.pm f78 6 3 [V22]
(.pm f78 6 4 [V23]
(.pm f78 6 5 [V24]
(.pm f78 6 6 [V25]
(.call false 80 [V1,V26]
(.rq (.tup 0 V27) (.rq (.tup 1 V27)
(.pm f78 7 3 [(.pj V27 0),(.cell V21 0 0 noI)]
(.pm f78 7 4 [V28]
(.pm f78 7 8 [(.pj V27 0),(.cell V21 1 0 noI)]
(.pm f78 7 9 [V30]
(.ru V29
(.ru V31
(.pm f78 8 1 [V0]
(.pm f78 8 2 [V32]
(.pm f78 8 3 [V33]
(.pm f78 8 4 [V34]
(.call false 123 [V35,(.uo .or V29 V31)]
(.rq (.tup 0 V36) (.rq (.tup 1 V36) (.rq (.bool (.pj V36 0)) (.br (.nt (.pj V36 0)) (.ret [V1])
(.pm f78 9 4 [V0]
(.pm f78 9 5 [V37]
(.pm f78 9 6 [V38]
(.ri V39
(.br (.io .neq V39 (.ki 0)) (.ret [V1])
(.pm f78 10 1 [V0]
(.pm f78 10 2 [V40]
(.pm f78 10 3 [V41]
(.pm f78 10 4 [V42]
(.pm f78 10 7 [V0]
(.pm f78 10 8 [V44]
(.pm f78 10 9 [V45]
(.call true 124 [V43,(.uo .or V29 V31),V46]
(.rq (.tup 0 V47) (.rq (.tup 1 V47) (.rq (.tup 2 V47) (.rq (.cells 1 (.pj V47 1))
(.pm f78 11 4 [V0]
(.pm f78 11 5 [V48]
(.ef false f78 11 6 [V49,(.ag (.pj V47 1))]
(.pm f78 11 7 [V0]
(.pm f78 11 8 [V51]
(.ef false f78 11 9 [V52,(.pj V47 2)]
(.pm f78 12 2 [V0]
(.pm f78 12 3 [V54]
(.pm f78 12 4 [V55]
(.pm f78 12 5 [V56]
(.pm f78 12 6 [V57]
(.ri V58
(.ef false f78 12 8 [V2,(.io .sub V58 (.ki 1))]
(.pm f78 13 1 [V0]
(.pm f78 13 2 [V60]
(.pm f78 13 3 [V61]
(.call false 125 [V62,(.uo .or V29 V31),(.pj V47 0)]
(.pm f78 14 2 [V63]
(.ri V59
(.ri V64
(.br (.io .geq V59 V64) (.ret [V1])
(.pm f78 14 6 [V0]
(.pm f78 14 7 [V65]
(.pm f78 14 8 [V66]
(.ri V67
(.br (.io .neq V67 (.ki 0)) (.ret [V1])
(.pm f78 15 1 [V0]
(.pm f78 15 2 [V68]
(.pm f78 15 3 [V69]
(.pm f78 15 4 [V70]
(.pm f78 15 9 [V63,V59]
(.pm f78 15 10 [V72]
(.call true 126 [V71,(.uo .or V29 V31),(.pj V47 0),V73]
(.rq (.tup 0 V74) (.rq (.tup 1 V74) (.rq (.tup 2 V74)
(.pm f78 16 2 [V0]
(.pm f78 16 3 [V75]
(.pm f78 16 4 [V76]
(.call false 127 [V77,(.pj V74 0),(.pj V74 1)]
(.ef false f78 16 8 [V2,V78]
(.ri V79
(.br (.io .eql V79 (.ki 0)) (.call false 128 [V1,(.cell V21 0 0 noI),(.cell V21 1 0 noI),(.pj V74 0)]
(.ret [V80])) (.next 0 [V11,(.io .add V12 (.ki 1))])))))))))))))))))))))))))))))))))))))))))))))))))))))))))))))))))))))))))))))))))))))))))))))) (.ret [V1])))))))))))))):=aB
end Go.Z
namespace Go.RZ
open RowKit RX GS
def opn_callw {P:Program} {H:PH} {o:Oper} {x:Operand} {f:FuncId} {az:Array Operand} {tys:Array TypeId} {bs caps:Array Value} {vs ws:List Value} {V:Value->PH->Prop} (ho:o.op= .call ⟨.value x,az,tys⟩) (hx:e8 (x::az.toList) vs x= .func (.func f) bs caps) (sV:az.toList.map (e8 (x::az.toList) vs)=ws) (hf:q8 P f=true)
  (hc:Con P f (bs.toList++(ws++caps.toList)) H V):Opn P o vs H V:=fun w hw=>by
 have ha:az.map (e8 (x::az.toList) vs)=ws.toArray:=by rw[<-cF,dO];exact sV
 have pD:o.op.operands.toList=x::az.toList:=by simp[ho,Op.operands,Call.operands]
 have hr:(execOp (e8 (x::az.toList) vs) o).run P w= .ok (.enter f (bs.toList++(ws++caps.toList)).toArray) w:=by
  simp only[execOp,ho,resolve,hx,ha,Deferred.ofValue,eM,eO,eL,invoke];rw[Jw hf];congr 2;simp
 unfold Stp;rw[pD,hr];exact(hc w hw).mono fun e w' ⟨v,H',he,hs,hV⟩=>⟨v,he,H',hs,hV⟩
end Go.RZ
namespace Go.GS
open RowKit RX
def nxS (s:Nat):Nat:=(s+11400714819323198485)%M64
def AM (z:Nat):Nat:=(z^^^z/2^30)*13787848793156543929%M64
def AN (z:Nat):Nat:=(z^^^z/2^27)*10723151780598845931%M64
def SD (z:Nat):Nat:=z^^^z/2^31
def drw (s:Nat):Nat:=SD (AN (AM (nxS s)))
def nxN:Nat->Nat->Nat
 |0,s=>s
 |k+1,s=>nxS (nxN k s)
def Rn:0<M64:=aC
def kz (s:Nat):nxS s<M64:=cO _ Rn
def d8I {s:Nat} (hs:s<M64):∀k,nxN k s<M64
 |0=>hs
 |k+1=>kz _
def c8p {a b:Nat} (ha:a<M64) (hb:b<M64):a^^^b<M64:=Nat.xor_lt_two_pow (n:=64) ha hb
def AO {a k:Nat} (ha:a<M64):a/2^k<M64:=aR (Nat.div_le_self _ _) ha
def d5c {a b:Nat} (ha:a<M64) (hb:b<M64):wQ .u64 ((BitVec.ofInt (IntKind.bits .u64) (a:Int)^^^BitVec.ofInt (IntKind.bits .u64) (b:Int)).toNat:Int)=((a^^^b:Nat):Int):=by
 have e:(BitVec.ofInt 64 (a:Int)^^^BitVec.ofInt 64 (b:Int)).toNat=a^^^b:=by rw[BitVec.toNat_xor,Je ha,Je hb]
 show wQ .u64 ((BitVec.ofInt 64 (a:Int)^^^BitVec.ofInt 64 (b:Int)).toNat:Int)=_;rw[e,IntKind.wrap_u64];have:=c8p ha hb;exact Int.emod_eq_of_lt aA (by simp only[M64]at this;omega)
section
variable {P:Program} {ρ:List Value} {a b:SV} {A B:Nat}
def AP (ha:D P ρ a=uv A) (hb:D P ρ b=uv B) (hA:A<M64) (hB:B<M64):D P ρ (.op2 .xor .u64 a b)=uv (A^^^B):=by
 show w9 .xor .u64 (intOf (D P ρ a)) (intOf (D P ρ b))=_;rw[ha,hb];show Value.int .u64 _= .int .u64 _;congr 1;exact d5c hA hB
def SH (ha:D P ρ a=uv A) (hb:D P ρ b=uv B):D P ρ (.op2 .mul .u64 a b)=uv (A*B%M64):=by
 show w9 .mul .u64 (intOf (D P ρ a)) (intOf (D P ρ b))=_;rw[ha,hb];show Value.int .u64 (wQ .u64 ((A:Int)*(B:Int)))= .int .u64 _;rw[IntKind.wrap_u64];congr 1
def d5d (ha:D P ρ a=uv A) (hb:D P ρ b=uv B):D P ρ (.op2 .add .u64 a b)=uv ((A+B)%M64):=by
 show w9 .add .u64 (intOf (D P ρ a)) (intOf (D P ρ b))=_;rw[ha,hb];show Value.int .u64 (wQ .u64 ((A:Int)+(B:Int)))= .int .u64 _;rw[IntKind.wrap_u64];congr 1
def d8J (ha:D P ρ a=uv A) (hA:A<M64):D P ρ (.op2 .mul .u64 (.op2 .xor .u64 a (.op2 .shr .u64 a (.k (.int .u64 30)))) (.k (.int .u64 13787848793156543929)))=uv (AM A):=
 SH (AP ha (fw ha rfl aA) hA (AO hA)) rfl
def d8K (ha:D P ρ a=uv A) (hA:A<M64):D P ρ (.op2 .mul .u64 (.op2 .xor .u64 a (.op2 .shr .u64 a (.k (.int .u64 27)))) (.k (.int .u64 10723151780598845931)))=uv (AN A):=
 SH (AP ha (fw ha rfl aA) hA (AO hA)) rfl
def d8L (ha:D P ρ a=uv A) (hA:A<M64):D P ρ (.op2 .xor .u64 a (.op2 .shr .u64 a (.k (.int .u64 31))))=uv (SD A):=AP ha (fw ha rfl aA) hA (AO hA)
end
def d5e (z:Nat):AM z<M64:=cO _ Rn
def d5f (z:Nat):AN z<M64:=cO _ Rn
end Go.GS
namespace Go.Z
open Proofs.Tryz RowKit RX GS
def SJ:FA prog 347 0 0:=⟨aB,oDt aB,aB,aB,oDt aB⟩
def lh:FA prog 345 0 0:=⟨aB,oDt aB,aB,aB,oDt aB⟩
def AQ:FA prog 51 0 0:=⟨aB,oDt aB,aB,aB,oDt aB⟩
section
variable {H:PH} {b s:Nat} {T:TypeId}
def c8q (hs:s<M64) (hb:H b=some (.cells #[uv s] T (0,0))):Con prog 281 [.pointer (some ⟨b,0,none⟩)] H fun u H'=>u=uv (drw s)/\H'=H.put b (.cells #[uv (nxS s)] T (0,0)):=by
 refine g9 mixed d4Z ?_;refine j9 ?_;simp only[cA,nA];refine i0 lh ?_;simp only[cA,nA];refine i0 AQ ?_;simp only[cA,nA];refine i7 Ig rfl rfl hb rfl rfl ?_;simp only[cA,nA];refine b9 ?_;refine j9 ?_;simp only[cA,nA];refine i0 lh ?_;simp only[cA,nA];refine i0 AQ ?_;simp only[cA,nA];refine Ek (u:=uv (nxS s)) Ig rfl rfl rfl hb aD rfl rfl (j0 rfl (d5d rfl rfl)) (fun h=>(nomatch h)) ?_;simp only[cA,nA];have pS:(H.put b (.cells ((#[uv s]:Array Value).setIfInBounds 0 (uv (nxS s))) T (0,0))) b=some (.cells #[uv (nxS s)] T (0,0)):=PH.put_self _ _ _;refine j9 ?_;simp only[cA,nA];refine i0 lh ?_;simp only[cA,nA];refine i0 AQ ?_;simp only[cA,nA];refine i7 Ig rfl rfl pS rfl rfl ?_;simp only[cA,nA];have hn:=kz s;refine b9 ?_;refine c9 (v:=uv (drw s)) ?_ ⟨rfl,rfl⟩;exact d8L (d8K (d8J rfl hn) (d5e _)) (d5f _)
end
def c3N:q8 prog 315=true:=aB
def c8r:q8 prog 281=true:=aB
def e0X:Sc prog 330:=⟨aB,aB,aB⟩
def fnx (b:Nat):Value:= .func (.func 281) #[.pointer (some ⟨b,0,none⟩)] #[]
def kbx (c b:Nat) (Tf Ts:TypeId) (s k:Nat):PH:=(PH.nil.put c (.cells #[fnx b] Tf (0,0))).put b (.cells #[uv (nxN k s)] Ts (0,0))
section
variable {c b s:Nat} {Tf Ts:TypeId}
def li (k:Nat):kbx c b Tf Ts s k b=some (.cells #[uv (nxN k s)] Ts (0,0)):=PH.put_self _ _ _
def e0Y (h:c≠b) (k:Nat):kbx c b Tf Ts s k c=some (.cells #[fnx b] Tf (0,0)):=by unfold kbx;rw[PH.put_ne _ _ h];exact PH.put_self _ _ _
def c8t {X:PH} (k:Nat) (h:X b=none):(X.or (kbx c b Tf Ts s k)).put b (.cells #[uv (nxN (k+1) s)] Ts (0,0))=X.or (kbx c b Tf Ts s (k+1)):=by
 rw[PH.or_put h];unfold kbx;rw[PH.put_put]
def AS {X:PH} {k j:Nat} (h:Disj X (kbx c b Tf Ts s k)):Disj X (kbx c b Tf Ts s j):=fun x hx=>by
 have:=h x hx;unfold kbx PH.put at this⊢;split at this
 ·cases this
 ·rename_i e;rw[if_neg e];exact this
def c8u {Ro:PH} (hs:s<M64) (zI:c≠b):ItC prog 315 [.pointer (some ⟨c,0,none⟩)] Ro (kbx c b Tf Ts s 0) (fun pre xs=>pre.length<200/\xs=[uv (drw (nxN pre.length s))])
  (fun xs K'=>xs.length=200/\K'=kbx c b Tf Ts s 200) (fun pre K'=>K'=kbx c b Tf Ts s pre.length):=by
 intro l J Jx uH hr X hX hd w hw;refine(t8 (H:=X.or (kbx c b Tf Ts s 0)) (V:=fun _ H'=>∃X' K',Pl (X'.or K') H'/\Disj X' K'/\((∃xs,(xs.length=200/\K'=kbx c b Tf Ts s 200)/\J xs X')\/(∃pre,K'=kbx c b Tf Ts s pre.length/\Jx pre X'))) mixed c8o aB rfl ?_ w hw).mono fun e w' ⟨v,H',he,pU,hV⟩=>⟨v,H',he,pU,hV⟩;refine t6 (α:=Nat×List (List Value)×PH) (fun a=>[ii (a.1:Nat)]) (fun a H'=>a.1<=200/\H'=a.2.2.or (kbx c b Tf Ts s a.1)/\Disj a.2.2 (kbx c b Tf Ts s a.1)/\a.2.1.length=a.1/\J a.2.1 a.2.2) (fun a=>200-a.1) (0,[],X)
  rfl ⟨bJ _,rfl,hd,rfl,hX⟩ fun a H' hQ=> ?_
 obtain⟨k,pre,X'⟩:=a;obtain⟨hk,rfl,pL,pA,hJ⟩:=hQ;simp only at hk pL pA hJ;simp only[cA,nA];refine b9 ?_;refine g8 (b:=decide (((k:Nat):Int)<200)) rfl (fun h=> ?_) (fun h=> ?_)
 ·replace h:=oDt h;have hXb:X' b=none:=Disj.none pL (b:=b) (by rw[li];exact fun h=>nomatch h);refine i7 e0X rfl rfl (PH.or_right pL (e0Y zI k)) (u:=fnx b) rfl rfl ?_;simp only[cA,nA];have a1d:=c8q (b:=b) (d8I hs k) (PH.or_right pL (li k));refine j4 (Go.RZ.opn_callw (P:=prog) (ws:=[]) (bs:= #[.pointer (some ⟨b,0,none⟩)]) (caps:= #[]) (vs:=[fnx b]) rfl rfl rfl c8r a1d) rfl fun u H2 ⟨hu,hH2⟩=>⟨fun h=>(nomatch h),?_⟩;subst hu;rw[show nxS (nxN k s)=nxN (k+1) s from rfl,c8t k hXb]at hH2;subst hH2;simp only[cA,nA];refine Uf (hr _ [uv (drw (nxN pre.length s))] X' (kbx c b Tf Ts s (k+1)) ⟨aA,rfl⟩ hJ (AS pL)) rfl rfl rfl (by rw[pA];rfl) rfl fun v X2 pE hV=> ?_;simp only[cA,nA];obtain⟨bb,rfl,pV,pS⟩:∃bb,v= .bool bb/\(bb=true->J (pre++[[uv (drw (nxN pre.length s))]]) X2)/\(bb=false->Jx (pre++[[uv (drw (nxN pre.length s))]]) X2):=by
   rcases hV with⟨rfl,h⟩|⟨rfl,h⟩
   ·exact⟨true,rfl,fun _=>h,(fun h=>nomatch h)⟩
   ·exact⟨false,rfl,(fun h=>nomatch h),fun _=>h⟩
  refine b9 ?_;refine g8 (b:= !bb) rfl (fun qC=> ?_) (fun qC=> ?_)
  ·exact c9 rfl ⟨X2,_,Pl.refl _,pE,.inr ⟨_,by rw[aL,pA];rfl,pS (by simpa using qC)⟩⟩
  ·exact⟨(k+1,pre++[[uv (drw (nxN pre.length s))]],X2),by show 200-(k+1)<200-k;omega,j7 (p6 rfl aA),⟨by show k+1<=200;omega,rfl,pE,by simp[pA],pV (by simpa using qC)⟩⟩
 ·replace h:=oDf h;have rM:k=200:=aA;subst rM;exact c9 rfl ⟨X',_,Pl.refl _,pL,.inl ⟨_,⟨pA,rfl⟩,hJ⟩⟩
end
end Go.Z
namespace Go.GS
open RowKit RX
def Vs (s:Nat):∀k,nxN k (nxS s)=nxS (nxN k s)
 |0=>rfl
 |k+1=>by show nxS (nxN k (nxS s))=_;rw[Vs s k];rfl
def Oy (n:Nat):Nat:=(M64-n)%M64%n
def Et (n x:Nat):Bool:=decide (x<=((M64-Oy n)%M64+(M64-1))%M64)||decide (Oy n=0)
def Cf (n:Nat):Nat->Nat->Option (Nat×Nat)
 |0,_=>none
 |f+1,s=>if Et n (drw s)then some (drw s%n,nxS s)else Cf n f (nxS s)
def d5g (n:Nat):∀(k f s:Nat),(∀j,j<k->Et n (drw (nxN j s))=false)->Et n (drw (nxN k s))=true->k<f->Cf n f s=some (drw (nxN k s)%n,nxN (k+1) s):=by
 intro k;induction k with
 |zero=>
  intro f s _ h hf;obtain⟨f,rfl⟩:∃g,f=g+1:=⟨f-1,aA⟩;have h:Et n (drw s)=true:=h;rw[show nxN (0+1) s=nxS s from rfl,show nxN 0 s=s from rfl];simp only[Cf,h,if_true]
 |succ k ih=>
  intro f s h0 h hf;obtain⟨f,rfl⟩:∃g,f=g+1:=⟨f-1,aA⟩;have h1:Et n (drw s)=false:=h0 0 aA;simp only[Cf,h1,aZ,if_false];have:=ih f (nxS s) (fun j hj=>by rw[Vs];exact h0 (j+1) aA) (by rw[Vs];exact h) aA;rw[this,Vs s k,Vs s (k+1)];rw[show nxN (k+1) s=nxS (nxN k s)from rfl,show nxN (k+1+1) s=nxS (nxS (nxN k s))from rfl]
def SK (n:Nat):∀(f s:Nat),(∀j,j<f->Et n (drw (nxN j s))=false)->Cf n f s=none
 |0,_,_=>rfl
 |f+1,s,h=>by
  have h1:Et n (drw s)=false:=h 0 aA;simp only[Cf,h1,aZ,if_false];exact SK n f (nxS s) fun j hj=>by rw[Vs];exact h (j+1) aA
def AU {n x t:Nat} (hn:0<n):∀{f s},Cf n f s=some (x,t)->x<n/\t<M64
 |0,s,h=>by simp[Cf]at h
 |f+1,s,h=>by
  simp only[Cf]at h;split at h
  ·simp only[dF,jK]at h;obtain⟨rfl,rfl⟩:=h;exact⟨cO _ hn,kz s⟩
  ·exact AU hn h
section
variable {P:Program} {ρ:List Value} {a b:SV} {A B:Nat}
def SN (ha:D P ρ a=uv A) (hb:D P ρ b=uv B):D P ρ (.op2 .rem .u64 a b)=uv (A%B):=by
 show w9 .rem .u64 (intOf (D P ρ a)) (intOf (D P ρ b))=_;rw[ha,hb];show Value.int .u64 (Int.tmod (A:Int) (B:Int))= .int .u64 _;rw[<-Int.ofNat_tmod]
def e0Z (ha:D P ρ a=uv A) (hb:D P ρ b=uv B):D P ρ (.op2 .leq .u64 a b)= .bool (decide (A<=B)):=by
 show w9 .leq .u64 (intOf (D P ρ a)) (intOf (D P ρ b))=_;rw[ha,hb];show Value.bool (decide ((A:Int)<=(B:Int)))=_;exact congrArg Value.bool (decide_eq_decide.2 aA)
def d8M (ha:D P ρ a=uv A) (hb:D P ρ b=uv B):D P ρ (.op2 .eql .u64 a b)= .bool (decide (A=B)):=by
 show w9 .eql .u64 (intOf (D P ρ a)) (intOf (D P ρ b))=_;rw[ha,hb];show Value.bool ((A:Int)==(B:Int))=_;congr 1;rw[bS,beq_iff_eq,oDi];omega
def e1a (ha:D P ρ a=uv A) (hA:A<M64):D P ρ (.op2 .sub .u64 a (.k (.int .u64 1)))=uv ((A+(M64-1))%M64):=by
 show w9 .sub .u64 (intOf (D P ρ a)) 1=_;rw[ha];show Value.int .u64 (wQ .u64 ((A:Int)-1))= .int .u64 _;rw[IntKind.wrap_u64];congr 1;simp only[M64]at*;omega
end
end Go.GS
namespace Go.Z
open Proofs.Tryz RowKit RX GS
def r7 (H:PH) (b:Nat):PH:=fun k=>if k=b then none else H k
def c8v {H:PH} {b c s:Nat} {Tf Ts:TypeId} (hb:H b=some (.cells #[uv s] Ts (0,0))) (hc:H c=none):H.put c (.cells #[fnx b] Tf (0,0))=(r7 H b).or (kbx c b Tf Ts s 0):=by
 funext k;unfold PH.or r7 kbx PH.put PH.nil;by_cases e:k=b
 ·subst e;have:¬k=c:=fun h=>by subst h;rw[hc]at hb;cases hb
  simp only[if_neg this,if_true];exact hb
 ·by_cases e2:k=c
  ·subst e2;simp only[if_neg e,if_true,hc]
  ·simp only[if_neg e,if_neg e2];cases H k<;>rfl
def AW {H:PH} {b c s:Nat} {Tf Ts:TypeId} (hc:H c=none):Disj (r7 H b) (kbx c b Tf Ts s 0):=fun k hk=>by
 unfold r7 at hk;unfold kbx PH.put PH.nil;by_cases e:k=b
 ·rw[if_pos e]at hk;exact absurd rfl hk
 ·rw[if_neg e]at hk;rw[if_neg e,if_neg (fun h=>by subst h;exact hk hc)]
section
variable {H:PH} {b s n:Nat} {Ts:TypeId}
def c8w:Con prog 282 [fnx b] H fun u H'=>∃c,H c=none/\H'=H.put c (.cells #[fnx b] 330 (0,0))/\u= .func (.func 315) #[] #[.pointer (some ⟨c,0,none⟩)]:=by
 refine g9 mixed d5a ?_;refine b4 ⟨rfl,fun x hx=>by simp[fnx,Value.cells,D]at hx;subst hx;rfl⟩ ?_;refine o0 (cs:= #[fnx b]) rfl fun c hc=> ?_;simp only[cA,nA];refine x5 (Ai (vs:=[.pointer (some ⟨c,0,none⟩)]) rfl rfl) rfl ?_;simp only[cA,nA];exact c9 rfl ⟨c,hc,rfl,rfl⟩
def lj (n s:Nat) (r:Option (Nat×Nat)):Value×Nat:=match r with
 |some (x,t)=>(.tuple #[uv x,ii 0],t)
 |none=>(.tuple #[uv 0,ii 9],nxN 200 s)
def SQ:j3 prog 36=ii 0:=aB
set_option maxHeartbeats 1000000 in
def c8x (hs:s<M64) (sP:0<n) (hn:n<M64) (hb:H b=some (.cells #[uv s] Ts (0,0))):Con prog 241 [.pointer (some ⟨b,0,none⟩),uv n] H fun u H'=>u=(lj n s (Cf n 200 s)).1/\Pl (r7 H b) H'/\H' b=some (.cells #[uv (lj n s (Cf n 200 s)).2] Ts (0,0)):=by
 refine g9 mixed d4Y ?_;refine b4 (el_u64.vcells n) ?_;refine j9 ?_;simp only[cA,nA];refine i0 SJ ?_;simp only[cA,nA];refine x5 (v:=fnx b) (vs:=[.pointer (some ⟨b,0,none⟩)]) (fun w=> ?_) rfl ?_
 ·have pD:(opr f241 1 3).op.operands.toList=[.tmp 11]:=by rw[SC];rfl
  unfold Stp;rw[pD];simp only[execOp,SC,eM,Instr.makeFunc,eO,eL];exact⟨by simp[fnx,e8,Ju],Ext.refl _⟩
 simp only[cA,nA];refine b9 ?_;refine b4 (by show((n:Nat):Int)≠0;omega) ?_;refine g5 (c8w (b:=b)) rfl fun u H1 ⟨c,hc,hH1,hu⟩=>⟨fun h=>(nomatch h),?_⟩;subst hu;simp only[cA,nA];rw[c8v hb hc]at hH1;subst hH1;have zI:c≠b:=fun h=>by subst h;rw[hc]at hb;cases hb
 have hr:Oy n<M64:=aR (Nat.mod_le _ _) (cO _ Rn);have dN:∀{ρ:List Value} {y:SV},D prog ρ y=uv n->D prog ρ (.op2 .rem .u64 (.op1 .neg .u64 y) y)=uv (Oy n):=fun h=>SN (Yj h hn) h;have dL:∀{ρ:List Value} {y:SV},D prog ρ y=uv n->D prog ρ (.op2 .sub .u64 (.op1 .neg .u64 (.op2 .rem .u64 (.op1 .neg .u64 y) y)) (.k (.int .u64 1)))=uv (((M64-Oy n)%M64+(M64-1))%M64):=fun h=>e1a (Yj (dN h) hr) (cO _ Rn);refine Hz (X:=r7 H b) (K:=kbx c b 330 Ts s 0) (Ro:=PH.nil) (fun pre vals X'=>X'=r7 H b/\vals=[uv 0,ii 0]/\∀j,j<pre.length->Et n (drw (nxN j s))=false)
  (fun pre vals X'=>X'=r7 H b/\∃k,k<200/\pre.length=k+1/\(∀j,j<k->Et n (drw (nxN j s))=false)/\Et n (drw (nxN k s))=true/\vals=[uv (drw (nxN k s)%n),ii 0]) (c8u hs zI) c3N (AW hc) rfl (fun _ _ _ _ x o hx=>by cases hx)
  ⟨rfl,by show[j3 prog _,j3 prog _]=_;rw[gh,SQ],fun j hj=>absurd hj (Nat.not_lt_zero _)⟩ ?_ ?_ ?_
 ·intro pre xs vals X' hE hv hI;obtain⟨rfl,rfl,xW⟩:=hI;obtain⟨oV,hE⟩:=hE;subst hE;refine⟨rfl,?_⟩;simp only[cA,nA];refine b9 ?_;have hx:∀{ρ:List Value},D prog ρ (.cell (.v 1) 0 0 noI)=uv n->D prog ρ (.v 6)=uv (drw (nxN pre.length s))->D prog ρ (.op2 .rem .u64 (.v 6) (.cell (.v 1) 0 0 noI))=uv (drw (nxN pre.length s)%n):=fun h1 h2=>SN h2 h1;refine g8 (b:=decide (drw (nxN pre.length s)<=((M64-Oy n)%M64+(M64-1))%M64)) (e0Z rfl (dL rfl)) (fun h=> ?_) (fun h=> ?_)
  ·exact⟨rfl,pre.length,oV,aD,xW,by unfold Et;rw[h];rfl,j0 (hx rfl rfl) rfl⟩
  ·refine g8 (b:=decide (Oy n=0)) (d8M (dN rfl) rfl) (fun h2=> ?_) (fun h2=> ?_)
   ·exact⟨rfl,pre.length,oV,aD,xW,by unfold Et;rw[h2,Bool.or_true],j0 (hx rfl rfl) rfl⟩
   ·refine⟨rfl,rfl,fun j hj=> ?_⟩;simp only[aL,aO,bR]at hj;by_cases e:j=pre.length
    ·subst e;unfold Et;rw[h,h2];rfl
    ·exact xW j aA
 ·intro xs vals X' K' hS _ _ hI;obtain⟨rfl,rfl,xW⟩:=hI;obtain⟨hl,rfl⟩:=hS;have hf:Cf n 200 s=none:=SK n 200 s fun j hj=>xW j aA;rw[hf];refine c9 rfl ⟨rfl,PH.le_or _ _,?_⟩;exact PH.or_right (AS (AW hc)) (li 200)
 ·intro pre vals X' K' hS _ _ hI;obtain⟨rfl,k,rM,hk,h0,h1,rfl⟩:=hI;subst hS;have hf:=d5g n k 200 s h0 h1 rM;rw[hf];refine c9 rfl ⟨rfl,PH.le_or _ _,?_⟩;rw[hk];exact PH.or_right (AS (AW hc)) (li (k+1))
end
def chV (s:Nat):Value:= .agg #[uv s]
def Vt (s:Nat) (z:Int):Value:=if z<1 then .tuple #[ii 0,chV 0,ii 2]else match Cf z.toNat 200 s with
 |some (x,t)=> .tuple #[ii (x:Nat),chV t,ii 0]
 |none=> .tuple #[ii 0,chV 0,ii 9]
def ll:j3 prog 51=chV 0:=aB
def lp:Ag prog 51 1:=⟨aB,aB,aB⟩
section
variable {H:PH} {s:Nat} {z:Int}
def Hh (s:Nat):(chV s).cells.size=1/\i8 (chV s).cells:=⟨rfl,fun c hc=>by simp[chV,Value.cells]at hc;subst hc;rfl⟩
def c8z:Con prog 240 [chV s] H fun u H'=>∃b,H b=none/\H'=H.put b (.cells #[uv s] 347 (0,0))/\u= .pointer (some ⟨b,0,none⟩):=by
 refine g9 mixed d4X ?_;refine b4 (Hh s) ?_;refine o0 (cs:= #[uv s]) rfl fun b hb=> ?_;simp only[cA,nA];exact c9 rfl ⟨b,hb,rfl,rfl⟩
def c3O (hs:s<M64) (hz:z<9223372036854775808):j5 prog 182 [chV s,ii z] H (Vt s z):=by
 refine g9 mixed d4W ?_;refine b4 (Hh s) ?_;refine b9 ?_;refine g8 (b:=decide (z<1)) rfl (fun h=> ?_) (fun h=> ?_)
 ·replace h:=oDt h;refine c9 ?_ ⟨Pl.refl _,by unfold Vt;rw[if_pos h]⟩;show Value.tuple #[ii 0,j3 prog _,ii 2]=_;rw[ll]
 ·replace h:=oDf h;obtain⟨n,rfl⟩:∃n:Nat,z=(n:Int):=⟨z.toNat,aA⟩;have sP:0<n:=aA;have hn:n<M64:=by simp only[M64];omega
  refine g5 c8z rfl fun u H1 ⟨b,hb,hH1,hu⟩=>⟨fun h=>(nomatch h),?_⟩;subst hu;simp only[cA,nA];have pV:H1 b=some (.cells #[uv s] 347 (0,0)):=by rw[hH1];exact PH.put_self _ _ _
  have oW:Pl H (r7 H1 b):=fun k o hk=>by
   unfold r7;rw[if_neg (fun e=>by subst e;rw[hb]at hk;cases hk),hH1,PH.put_ne _ _ (fun e=>by subst e;rw[hb]at hk;cases hk)];exact hk
  refine g5 (c8x (b:=b) hs sP hn pV) (j0 rfl (Ob rfl hn)) fun u H2 ⟨hu,sH,pS⟩=>⟨fun h=>(nomatch h),?_⟩;have hl:=oW.trans sH;have hbv:Vt s ((n:Nat):Int)=match Cf n 200 s with|some (x,t)=> .tuple #[ii (x:Nat),chV t,ii 0]|none=> .tuple #[ii 0,chV 0,ii 9]:=by
   unfold Vt;rw[if_neg h,bO]
  rw[hbv];cases hf:Cf n 200 s with
  |none=>
   rw[hf]at hu;subst hu;simp only[cA,nA];refine b4 ⟨_,rfl,aC⟩ ?_;refine b4 ⟨_,rfl,aC⟩ ?_;refine b9 ?_;refine Ah rfl ?_;refine c9 ?_ ⟨hl,rfl⟩;show Value.tuple #[ii 0,j3 prog _,ii 9]=_;rw[ll]
  |some p=>
   obtain⟨x,t⟩:=p;obtain⟨hx,ht⟩:=AU sP hf;rw[hf]at hu pS;subst hu;simp only[cA,nA];refine b4 ⟨_,rfl,by simp[lj]⟩ ?_;refine b4 ⟨_,rfl,by simp[lj]⟩ ?_;refine b9 ?_;refine j1 rfl ?_;refine b9 ?_;refine j9 ?_;simp only[cA,nA];refine i0 SJ ?_;simp only[cA,nA];refine i0 lh ?_;simp only[cA,nA];refine s5 (vs:=[uv t]) lp rfl rfl pS rfl aD rfl ?_;simp only[cA,nA];refine b4 (Hh t) ?_;refine c9 ?_ ⟨hl,rfl⟩;show Value.tuple #[.int .i64 (wQ .i64 ((x:Nat):Int)),chV t,ii 0]=_;rw[JK aA];rfl
end
end Go.Z
namespace Go.GS
structure Par (p:List Nat) (f:Nat->Nat):Prop where
 len:p.length=64
 lb:Lb f
 le:∀x y:Nat,p[x]? =some y->y<=x
 up:∀x y:Nat,p[x]? =some y->f y=f x
 fix:∀x y:Nat,p[x]? =some y->(y=x↔f x=x)
def Par.at {p:List Nat} {f:Nat->Nat} (h:Par p f) {x:Nat} (hx:x<64):∃y,p[x]? =some y:=⟨_,aG (by rw[h.len];exact hx)⟩
def Par.id:Par (eT 64) id where
 len:=aD
 lb:=⟨fun _=>rfl,fun _=>aS _⟩
 le:=fun x y h=>by rw[aH]at h;obtain⟨_,rfl⟩:=h;simp
 up:=fun x y h=>by rw[aH]at h;obtain⟨_,rfl⟩:=h;simp
 fix:=fun x y h=>by rw[aH]at h;obtain⟨_,rfl⟩:=h;simp
def Par.join {p:List Nat} {f:Nat->Nat} (h:Par p f) {e:Nat×Nat} (h1:e.1<64) (h2:e.2<64):Par (p.set (max (f e.1) (f e.2)) (min (f e.1) (f e.2))) (Jl f e):=by
 have la:=h.lb.le e.1;have lb:=h.lb.le e.2;have ia:=h.lb.idm e.1;have ib:=h.lb.idm e.2;have xA:=h.lb.join e;unfold Jl at xA⊢;generalize f e.1=a at*;generalize f e.2=b at*;have hm:f (min a b)=min a b:=by rcases oH a b with hh|hh;rw[cH hh,ia];rw[Nat.min_eq_right hh,ib]
 have hM:f (max a b)=max a b:=by rcases oH a b with hh|hh;rw[Nat.max_eq_right hh,ib];rw[Nat.max_eq_left hh,ia]
 have oW:min a b<=max a b:=aA;have hMl:max a b<p.length:=by rw[h.len];omega
 generalize max a b=M at*;generalize min a b=m at*;refine⟨by rw[cD];exact h.len,xA,?_,?_,?_⟩
 ·intro x y hy;rw[bZ]at hy;split at hy
  ·rename_i e;subst e;cases hy;exact oW
  ·exact h.le x y hy
 ·intro x y hy;rw[bZ]at hy;split at hy
  ·rename_i e;subst e;cases hy;rw[hm,if_pos hM];split<;>rfl
  ·rw[h.up x y hy]
 ·intro x y hy;rw[bZ]at hy;split at hy
  ·rename_i e;subst e;cases hy;rw[if_pos hM]
  ·rename_i pI;rw[h.fix x y hy];split
   ·rename_i hfx;constructor
    ·intro h1;exact absurd (hfx.symm.trans h1) pI
    ·intro h1;subst h1;rw[hm]at hfx;exact absurd hfx.symm pI
   ·exact Iff.rfl
end Go.GS
namespace Go.Z
open Proofs.Tryz
def d5h {i:Nat} (h:i<64):(eT i++eS (64-i) 0).set i i=eT (i+1)++eS (64-(i+1)) 0:=by
 obtain⟨k,hk⟩:∃k,64-i=k+1:=⟨64-i-1,aA⟩;rw[hk,show 64-(i+1)=k by omega,List.replicate_succ,List.range_succ,bL];simp[List.set_append]
open Go.RowKit Go.RX Go.GS
def Vu:El prog 298 3 1 false (fun x:Nat=>[ii (x:Nat)]) (fun x:Nat=>ii (x:Nat)) where
 und:=aB
 has:=aB
 cel:=aB
 agg:=aB
 pos:=aC
 one1:=fun _=>rfl
 small:=aC
 inf:=⟨(prog.info? 3).getD default,ii 0,aB,aB,aB,rfl,oDt aB⟩
 len:=fun _=>rfl
 val:=fun _=>rfl
 cells:=fun _=>rfl
 one:=fun x c hc=>by simp at hc;subst hc;rfl
abbrev PO (H0 H:PH) (v:Value) (p:List Nat):Prop:=SO H0 H 3 1 (fun x:Nat=>[ii (x:Nat)]) v p
abbrev PS (H:PH) (v:Value) (p:List Nat):Prop:=SE H 1 (fun x:Nat=>[ii (x:Nat)]) v p
section
variable {H H0:PH} {u v w wts:Value} {p:List Nat} {wl:List Int} {n:Nat} {es:List (Nat×Nat)} {lo hi ds:Int} {set x:Nat} {f:Nat->Nat} {e:Nat×Nat}
def c8A:Con prog 194 [] H fun r H'=>Pl H H'/\∃v,r= .agg #[v]/\PO H H' v (eT 64):=by
 refine g9 mixed d4N ?_;refine Nz Vu (z:=(0:Nat)) wb rfl rfl rfl (m:=64) aA rfl fun v H1 l1 o1 _=> ?_;simp only[cA,nA];refine Gt Vu rfl rfl o1.se rfl ?_;refine t6 (α:=Nat) (fun i=>[ii (i:Nat)]) (fun i=>fun H'=>i<=64/\Pl H H'/\PO H H' v (eT i++eS (64-i) 0)) (fun i=>64-i) (0) rfl (⟨bJ _,l1,o1⟩) fun i H' hQ=> ?_;simp only[cA,nA];obtain⟨hi,l2,o2⟩:=hQ;refine b9 (b9 ?_);refine g8 (b:=decide (((i:Nat):Int)<64)) rfl (fun h=> ?_) (fun h=> ?_)
 ·replace h:=oDt h;refine Dl Vu (a:=i) rfl rfl rfl rfl aF aF l2 o2 (by simp;omega) rfl aF rfl fun q u H3 l3 o3 _=> ?_;simp only[cA,nA];exact⟨i+1,aA,(j7 (p6 rfl aA)),⟨aA,l3,by rw[d5h aA]at o3;exact o3⟩⟩
 ·replace h:=oDf h;have he:i=64:=aA;subst he;refine b4 o2.se.one ?_;exact c9 rfl ⟨l2,v,by show Value.agg v.cells=_;rw[o2.se.cells],by rw[eA,List.replicate_zero,dM]at o2;exact o2⟩
def Vv (hp:PS H v p) (h:Par p f) (hx:x<64):Asks prog 197 [v,ii (x:Nat)] H (ii (f x:Nat)):=by
 refine g9 mixed d4O ?_;refine Jg (α:=Nat) (fun y=>[ii (y:Nat)]) (fun y=>y<64/\f y=f x) (fun y=>y) (x) rfl (⟨hx,rfl⟩) fun y hQ=> ?_;simp only[cA,nA];obtain⟨hy,hf⟩:=hQ;obtain⟨z,hz⟩:=h.at hy;refine r6 Vu hp hz fun _=> ?_;simp only[cA,nA];refine b9 (b9 ?_);refine y7 (p:=(z≠y)) (by show Value.bool (((z:Nat):Int) !=((y:Nat):Int))=_;rw[bN];congr 1;apply decide_eq_decide.2;omega) (fun h2=> ?_) fun h2=> ?_
 ·refine r6 Vu hp hz fun _=> ?_;simp only[cA,nA];have oW:=h.le y z hz;exact⟨z,aA,rfl,⟨⟨aA,by rw[h.up y z hz,hf]⟩,rfl⟩⟩
 ·have hzy:z=y:=bW h2;have:=(h.fix y z hz).1 hzy;exact c9 rfl ⟨rfl,by rw[<-hf,this];rfl⟩
def c8B {o:Oper} {x y:Operand} {t u:TypeId} {a b:Int} {vs:List Value} (ho:o.op= .call ⟨.builtin .min,#[x,y],#[t,u]⟩) (hx:e8 [x,y] vs x= .int .i64 a) (hy:e8 [x,y] vs y= .int .i64 b):Yld prog o vs (.int .i64 (if b<a then b else a)):=fun w=>by
 have pD:o.op.operands.toList=[x,y]:=by simp[ho,Op.operands,Call.operands]
 rw[pD];simp only[execOp,ho,resolve,invoke,eM,eO,eL,gA,aU,cN,hx,hy];simp only[builtin,eM,run_min_int2,eL];rfl
def c8C {o:Oper} {x y:Operand} {t u:TypeId} {a b:Int} {vs:List Value} (ho:o.op= .call ⟨.builtin .max,#[x,y],#[t,u]⟩) (hx:e8 [x,y] vs x= .int .i64 a) (hy:e8 [x,y] vs y= .int .i64 b):Yld prog o vs (.int .i64 (if b>a then b else a)):=fun w=>by
 have pD:o.op.operands.toList=[x,y]:=by simp[ho,Op.operands,Call.operands]
 rw[pD];simp only[execOp,ho,resolve,invoke,eM,eO,eL,gA,aU,cN,hx,hy];simp only[builtin,eM,run_max_int2,eL];rfl
def c8D (oW:Pl H0 H) (hp:PO H0 H v p) (h:Par p f) (h1:e.1<64) (h2:e.2<64):Con prog 196 [.agg #[v],ev2 e] H fun r H'=>r= .bool (decide (f e.1≠f e.2))/\Pl H0 H'/\∃q,PO H0 H' v q/\Par q (Jl f e):=by
 refine g9 mixed d4P ?_;have tJ:=hp.se;have la:=h.lb.le e.1;have lb:=h.lb.le e.2;have emin:(if((f e.2:Nat):Int)<(f e.1:Nat)then((f e.2:Nat):Int)else(f e.1:Nat))=((min (f e.1) (f e.2):Nat):Int):=by split<;>omega
 have emax:(if((f e.2:Nat):Int)>(f e.1:Nat)then((f e.2:Nat):Int)else(f e.1:Nat))=((max (f e.1) (f e.2):Nat):Int):=by split<;>omega
 refine b4 ⟨rfl,fun c hc=>by have hc:c∈[v]:=hc;rw[bA]at hc;subst hc;exact t7 tJ⟩ ?_;refine b4 (el_edge.vcells e) ?_;refine s7 (Vv tJ h h1) rfl ?_;simp only[cA,nA];refine s7 (Vv tJ h h2) rfl ?_;simp only[cA,nA];refine j6 ((c8C (vs:=[ii (f e.1:Nat),ii (f e.2:Nat)]) rfl rfl rfl).rds _) rfl ?_;simp only[cA,nA];refine j6 ((c8B (vs:=[ii (f e.1:Nat),ii (f e.2:Nat)]) rfl rfl rfl).rds _) rfl ?_;simp only[cA,nA];rw[emin,emax];refine Dl Vu (a:=min (f e.1) (f e.2)) rfl rfl rfl rfl aF aF oW hp (by rw[h.len];omega) rfl aF rfl fun q u H3 l3 o3 _=> ?_;simp only[cA,nA];refine b9 (b9 ?_);exact c9 rfl ⟨by show Value.bool (((f e.1:Nat):Int) !=((f e.2:Nat):Int))=_;rw[bN];exact congrArg Value.bool (decide_eq_decide.2 aA),l3,_,o3,h.join h1 h2⟩
def c8E (hs:set<M64) (h1:e.1<=64) (h2:e.2<=64):Asks prog 249 [uv set,ev2 e] H (.bool (bit set e.1&&bit set e.2)):=by
 refine g9 mixed d4Q ?_;refine b4 (el_edge.vcells e) ?_;refine b9 ?_;refine b4 ⟨_,_,rfl⟩ ?_;refine b4 (by show(0:Int)<=((e.1:Nat):Int);omega) ?_;refine g8 (b:=bit set e.1) (vu rfl hs rfl h1) (fun b1=> ?_) (fun b1=> ?_)
 ·skip
  refine b4 ⟨_,_,rfl⟩ ?_;refine b4 (by show(0:Int)<=((e.2:Nat):Int);omega) ?_;exact c9 rfl ⟨rfl,by rw[b1];exact(vu rfl hs rfl h2)⟩
 ·skip
  exact c9 rfl ⟨rfl,by rw[b1];rfl⟩
def c8F (hw:SG H w es) (hg:GV n es) (hs:set<M64):j5 prog 131 [gv n w,uv set] H (ii (if set≠0/\set<2^n then 0 else 2)):=by
 refine g9 mixed d8H ?_;refine b4 (Be hw) ?_;refine i9 (Fv hw hg) rfl fun H1 l1=> ?_;simp only[cA,nA];refine b9 ?_;refine j1 (bF (p:=(0:Int)≠0) aD) ?_;refine b9 ?_;refine y7 (p:=(set=0)) (bE0 _) (fun h0=> ?_) fun h0=> ?_
 ·exact c9 rfl ⟨l1,by rw[if_neg (fun e=>e.1 h0)];rfl⟩
 ·refine Bn (ep set hs) rfl ?_;simp only[cA,nA];refine b9 (b9 ?_);refine y7 (p:=(set≥2^n)) (by show Value.bool (decide (((Go.WD.blen set:Nat):Int)>((n:Nat):Int)))=_;congr 1;apply decide_eq_decide.2;constructor<;>intro hh<;>first|(have:=Go.WD.blen_ge hh;omega)|(apply Nat.le_of_not_lt;intro h2;have:=Go.WD.blen_le h2;omega)) (fun h=> ?_) fun h=> ?_
  ·exact c9 rfl ⟨l1,by rw[if_neg aA];rfl⟩
  ·exact c9 rfl ⟨l1,by rw[if_pos ⟨h0,aA⟩];rfl⟩
end
section
variable {H:PH}
def SR:q8 prog 252=true:=aB
def e1b:FA prog 25 1 1:=⟨aB,oDt aB,aB,aB,oDt aB⟩
def e1c:Sc prog 23:=⟨aB,aB,aB⟩
def Ad (set:Nat):Nat->List (Nat×Nat)->List (Nat×(Nat×Nat))
 |_,[]=>[]
 |i,e::r=>if(bit set e.1&&bit set e.2)=true then(i,e)::Ad set (i+1) r else Ad set (i+1) r
def Fh (b j:Nat) (x v:Value) (T:TypeId) (s:Nat):PH:=(PH.nil.put b (.cells #[x,v] T (0,0))).put j (.cells #[uv s] 42 (0,0))
def SS {b j s:Nat} {x v:Value} {T:TypeId} {es:List (Nat×Nat)} {Ro:PH} (hs:s<M64) (hbj:b≠j) (he:∀e∈es,e.1<=64/\e.2<=64) (hes:es.length<=1000000) (hv:SE Ro 2 (fun e:Nat×Nat=>[ii (e.1:Nat),ii (e.2:Nat)]) v es) (hvc:v.cells= #[v]):
  ItC prog 252 [.pointer (some ⟨b,0,none⟩),.pointer (some ⟨j,0,none⟩)] Ro (Fh b j x v T s) (fun pre xs=>∃y,(Ad s 0 es)[pre.length]? =some y/\xs=[ii (y.1:Nat),ev2 y.2]) (fun xs _=>xs.length=(Ad s 0 es).length) (fun _ _=>True):=by
 intro l J Jx uH hr X hX hd w hw;refine(t8 (H:=X.or (Fh b j x v T s)) (V:=fun _ H'=>∃X' K',Pl (X'.or K') H'/\Disj X' K'/\((∃xs,xs.length=(Ad s 0 es).length/\J xs X')\/(∃pre,True/\Jx pre X'))) mixed c8m aB rfl ?_ w hw).mono fun e w' ⟨v,H',he,pU,hV⟩=>⟨v,H',he,pU,hV⟩;have kb:Fh b j x v T s b=some (.cells #[x,v] T (0,0)):=by unfold Fh;rw[PH.put_ne _ _ hbj];exact PH.put_self _ _ _
 have kj:Fh b j x v T s j=some (.cells #[uv s] 42 (0,0)):=PH.put_self _ _ _;have hb:=PH.or_right hd kb;refine i0 e1b ?_;simp only[cA,nA];refine i7 e1c rfl rfl hb (u:=v) (by rfl) rfl ?_;simp only[cA,nA];have hsl:∀{pre X'},J pre X'->SE (X'.or (Fh b j x v T s)) 2 (fun e:Nat×Nat=>[ii (e.1:Nat),ii (e.2:Nat)]) v es:=fun hJ=>hv.mono ((uH _ _ hJ).trans (PH.le_or _ _));refine r8 el_edge (hsl hX) ?_;refine t6 (α:=Nat×List (Nat×Nat×Nat)×PH) (fun a=>[ii (a.1:Nat)]) (fun a H'=>a.1<=es.length/\H'=a.2.2.or (Fh b j x v T s)/\Disj a.2.2 (Fh b j x v T s)/\a.2.1++Ad s a.1 (es.drop a.1)=Ad s 0 es/\J (a.2.1.map fun y:Nat×Nat×Nat=>[ii (y.1:Int),ev2 y.2]) a.2.2) (fun a=>es.length-a.1) (0,[],X)
  rfl ⟨bJ _,rfl,hd,rfl,hX⟩ fun a H' hQ=> ?_
 obtain⟨i,pre,X'⟩:=a;obtain⟨hi,rfl,pL,pA,hJ⟩:=hQ;simp only at hi pL pA hJ;simp only[cA,nA];refine b9 (b9 ?_);refine g8 (b:=decide (((i:Nat):Int)<(es.length:Nat))) rfl (fun h=> ?_) (fun h=> ?_)
 ·replace h:=oDt h;have pO:i<es.length:=aA;obtain⟨e,hx,tL⟩:=u6 pO;obtain⟨he1,he2⟩:=he e (aJ hx);have uC:=PH.or_right pL kj;refine r6 el_edge (hsl hJ) hx fun _=> ?_;simp only[cA,nA];refine b4 (el_edge.vcells e) ?_;refine i7 Ig rfl rfl uC rfl rfl ?_;simp only[cA,nA];refine s7 (c8E hs he1 he2) rfl ?_;simp only[cA,nA];refine b9 ?_;rw[tL]at pA;refine g8 (b:=bit s e.1&&bit s e.2) rfl (fun a1e=> ?_) (fun a1e=> ?_)
  ·simp only[Ad,a1e,if_true]at pA;refine Uf (hr _ [ii (i:Nat),ev2 e] X' (Fh b j x v T s) ⟨(i,e),by rw[<-pA,aW,aN (aS _),eA];rfl,rfl⟩ hJ pL) rfl rfl rfl rfl rfl fun v2 X2 pE hV=> ?_;simp only[cA,nA];obtain⟨bb,rfl,pV,pS⟩:∃bb,v2= .bool bb/\(bb=true->J ((pre.map fun y:Nat×Nat×Nat=>[ii (y.1:Int),ev2 y.2])++[[ii (i:Nat),ev2 e]]) X2)/\(bb=false->Jx ((pre.map fun y:Nat×Nat×Nat=>[ii (y.1:Int),ev2 y.2])++[[ii (i:Nat),ev2 e]]) X2):=by
    rcases hV with⟨rfl,h⟩|⟨rfl,h⟩
    ·exact⟨true,rfl,fun _=>h,(fun h=>nomatch h)⟩
    ·exact⟨false,rfl,(fun h=>nomatch h),fun _=>h⟩
   refine b9 ?_;refine g8 (b:= !bb) rfl (fun qC=> ?_) (fun qC=> ?_)
   ·exact c9 rfl ⟨X2,_,Pl.refl _,pE,.inr ⟨_,trivial,pS (by simpa using qC)⟩⟩
   ·exact⟨(i+1,pre++[(i,e)],X2),by show es.length-(i+1)<es.length-i;omega,j7 (p6 rfl aA),⟨by show i+1<=es.length;omega,rfl,pE,by rw[bL];exact pA,by rw[bI];exact pV (by simpa using qC)⟩⟩
  ·simp only[Ad,a1e]at pA;exact⟨(i+1,pre,X'),by show es.length-(i+1)<es.length-i;omega,j7 (p6 rfl aA),⟨by show i+1<=es.length;omega,rfl,pL,by simpa using pA,hJ⟩⟩
 ·replace h:=oDf h;rw[List.drop_eq_nil_of_le aA]at pA;simp only[Ad,dM]at pA;exact c9 rfl ⟨X',_,Pl.refl _,pL,.inl ⟨_,by rw[aW,pA],hJ⟩⟩
end
section
variable {H:PH} {w:Value} {n x c set left bw:Nat} {es:List (Nat×Nat)}
def bEn (a b:Nat):Value.bool (((a:Nat):Int)==((b:Nat):Int))= .bool (decide (a=b)):=by
 rw[bE];congr 1;apply decide_eq_decide.2;omega
end
end Go.Z

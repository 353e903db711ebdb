/- Ensembles: Exact, Rank. -/
import Derived.Test.YtcdnhlplkhldbaaGreatDoorGhA
open Go.Result renaming andThen_ok->eJ
open Go.Sem renaming run_bind->eK,run_pure->eL
open Int renaming le_refl->kM,ofNat_tmod->kJ,tmod->lR
open List renaming mem_append_left->kH,range->eO,range_succ->gU,replicate->eS
open List.Pairwise renaming nil->lJ
open Nat renaming pos_of_ne_zero->nO
set_option linter.all false
set_option maxRecDepth 100000
open Go.IntKind renaming wrap->wQ
namespace Go.Z
open Proofs.Tryz RowKit RX GS RZ WD
section
variable {dm:Dm} {H B:PH} {n k ms lv who:Nat} {es:List (Nat×Nat)} {us:List Un} {w rw wts u v:Value} {lo hi:Int} {b i:Nat} {p:List Int} {l:List Rat}
def EF:n8 prog 28=true:=aB
def cz:Hu prog 27 78 44 45 20 ((prog.funcs[27]?).getD default) ((prog.funcs[78]?).getD default) (Iu ((prog.funcs[78]?).getD default).body):=⟨aB,aB,aB,aB,aB,aB,aB,aB,aB,aB⟩
def oy:CcT prog 44 45 (.slice none 0 0):=⟨aB,aB,aB,aB,aB,aB,aB,fun _=>oDt aB⟩
def VH {H:PH} {v:Value} {m:List MaT} (h:SE H 32 ceM v m):v.cells.size=prog.cellsOf 44/\j0 v.cells/\rdV prog 44 v.cells=v:=by
 have h1:r8 prog 44=false:=aB;have h2:prog.cellsOf 44=1:=aB;refine⟨by rw[h2];exact h.one.1,h.one.2,?_⟩;unfold rdV;rw[h1,h.cells];rfl
def oz (hM:StM H w rw es us) (hS:StOk dm n k ms lv who es us lo hi) (hz:ms=1->s5 us n=true) (hp:0<p7 n k es us lo hi) (hN:p7 n k es us lo hi<=400) (hr:∀r∈vlL dm n k ms lv who es us lo hi,Rg r):
  Con prog 6 [stV dm n k ms lv who w rw lo hi] H fun r H'=>Pl H H'/\∃t m,r= .tuple #[t,ii 0]/\SE H' 32 ceM t m/\TalP (vlL dm n k ms lv who es us lo hi) m:=by
 refine g5 mixed DF ?_;refine b4 (En (t8 hM.gr) hM.ro.one) ?_;refine o0 (cs:=(stC dm n k ms lv who w rw lo hi).toArray) rfl fun a ha=> ?_;have la:=PH.le_put ha (.cells (stC dm n k ms lv who w rw lo hi).toArray 38 (0,0));refine y8 (Ai (vs:=[.pointer (some ⟨a,0,none⟩)]) rfl rfl) rfl ?_;refine f0 (Px (caps:=[.pointer (some ⟨a,0,none⟩)]) mixed cz oy EF (c5w (PH.put_self _ _ _) (hM.mono la) hS hz hp hN hr) (fun _ _ h=>VH h.2.choose_spec.1)) rfl ?_;rintro _ H4 ⟨t,⟨l4,m,vP,hT⟩,rfl⟩;refine nmI ?_;refine g7 (g7 ?_);exact d4 rfl ⟨la.trans l4,t,m,rfl,vP,hT⟩
def VI:n8 prog 48=true:=aB
def EG:Hu prog 47 98 124 45 20 ((prog.funcs[47]?).getD default) ((prog.funcs[98]?).getD default) (Iu ((prog.funcs[98]?).getD default).body):=⟨aB,aB,aB,aB,aB,aB,aB,aB,aB,aB⟩
def VJ:CcT prog 124 45 (.agg (Array.replicate 32 (.int .u64 0))):=⟨aB,aB,aB,aB,aB,aB,aB,fun h=>absurd (show r8 prog 124=true by kernel_rfl) (by rw[h];decide)⟩
def Qo (a c:Rat):Value:= .agg (shw a++shw c)
def EH (a c:Rat):(Qo a c).cells.size=32/\j0 (Qo a c).cells:=⟨by show(shw a++shw c).size=32;rw[dN,Az,Az],fy (Qj _) (Qj _)⟩
def e4R (a c:Rat):(Qo a c).cells.size=prog.cellsOf 124/\j0 (Qo a c).cells/\rdV prog 124 (Qo a c).cells=Qo a c:=by
 have h1:r8 prog 124=true:=aB;have h2:prog.cellsOf 124=32:=aB;refine⟨by rw[h2];exact(EH a c).1,(EH a c).2,?_⟩;unfold rdV;rw[h1];rfl
structure dc (n k:Nat) (es:List (Nat×Nat)) (us:List Un) (lo hi:Int) (p:List Int):Prop where
 ok:PlOk n k p
 fit:Fo n es (wlU us n) lo hi (k:Nat) p=true
noncomputable def rkA (dm:Dm) (n k ms lv who:Nat) (es:List (Nat×Nat)) (us:List Un) (lo hi:Int) (p:List Int) (m:List MaT):Rat:=qN (Jc (vlL dm n k ms lv who es us lo hi) (An dm n es us k ms lv who p) m) (p7 n k es us lo hi)
noncomputable def rkB (dm:Dm) (n k ms lv who:Nat) (es:List (Nat×Nat)) (us:List Un) (lo hi:Int) (p:List Int) (m:List MaT):Rat:=qN (Ql (vlL dm n k ms lv who es us lo hi) (An dm n es us k ms lv who p) m) (p7 n k es us lo hi)
def c5y {a c:Nat} (hs:H a=some (.cells (stC dm n k ms lv who w rw lo hi).toArray 38 (0,0))) (hc:H c=some (.cells #[u] 40 (0,0))) (hu:SI H u p) (ho:dc n k es us lo hi p) (hM:StM H w rw es us) (hS:StOk dm n k ms lv who es us lo hi) (hz:ms=1->s5 us n=true) (hp:0<p7 n k es us lo hi) (hN:p7 n k es us lo hi<=400) (hr:∀r∈vlL dm n k ms lv who es us lo hi,Rg r) (tN:Rg (An dm n es us k ms lv who p)):
  Con prog 48 [.pointer (some ⟨a,0,none⟩),.pointer (some ⟨c,0,none⟩)] H fun r H'=>Pl H H'/\∃m,TalP (vlL dm n k ms lv who es us lo hi) m/\r=Qo (rkA dm n k ms lv who es us lo hi p m) (rkB dm n k ms lv who es us lo hi p m):=by
 refine g5 mixed UG ?_;have wP:bdE n (wlU us n) lo hi (k:Nat)=0:=by
  unfold bdE;rw[if_pos ⟨hS.bd.len,hS.bd.b0,hS.bd.b1,hS.bd.d1,hS.bd.d8,hS.bd.ok⟩]
 refine x5 (vs:=(stC dm n k ms lv who w rw lo hi)) Nj rfl rfl hs rfl (show 0+12<=12 by decide) rfl ?_;simp only[cA,nA];refine f0 (Uk hM hS hz) rfl ?_;rintro _ H1 ⟨l1,b,wts,rfl,hW⟩;refine nmI ?_;simp only[cA,nA];refine j6 ?_;simp only[cA,nA];refine g8 Cd ?_;simp only[cA,nA];refine g8 Xn ?_;simp only[cA,nA];refine x5 (vs:=[ii (n:Nat),w]) Qg rfl rfl hW.bk rfl (show 0+0+0+2<=17 by decide) rfl ?_;simp only[cA,nA];refine j6 ?_;simp only[cA,nA];refine g8 Hy ?_;simp only[cA,nA];refine x5 (vs:=[wts,ii lo,ii hi,ii (k:Nat)]) Xq rfl rfl hW.bk rfl (show 0+12+4<=17 by decide) rfl ?_;simp only[cA,nA];refine g9 Fb rfl rfl (l1 _ _ hc) rfl rfl ?_;simp only[cA,nA];refine i8 (NI hW.mm.tb hW.mm.gr hS.gv hW.wt (hu.mono l1)) rfl fun H2 l2=> ?_;simp only[cA,nA];rw[wP,ho.fit];refine g7 (g7 ?_);refine j9 (UV _) rfl ?_;simp only[cA,nA];refine b9 ?_;refine j9 (Xk 8) rfl ?_;simp only[cA,nA];refine x5 (vs:=(stC dm n k ms lv who w rw lo hi)) Nj rfl rfl ((l1.trans l2) _ _ hs) rfl (show 0+12<=12 by decide) rfl ?_;simp only[cA,nA];refine f0 (oz (hM.mono (l1.trans l2)) hS hz hp hN hr) rfl ?_;rintro _ H3 ⟨l3,t,m,rfl,vP,hT⟩;refine nmI ?_;simp only[cA,nA];refine g7 (g7 ?_);refine j9 (d0L _) rfl ?_;simp only[cA,nA];refine g9 Fb rfl rfl ((l1.trans (l2.trans l3)) _ _ hc) rfl rfl ?_;simp only[cA,nA];refine i8 (VD (hW.mono (l2.trans l3)) hS hz (hu.mono (l1.trans (l2.trans l3))) ho.ok) rfl fun H4 l4=> ?_;simp only[cA,nA];refine i8 (US (vP.mono l4) hT (by rw[Gu];exact hp) (by rw[Gu];exact hN) tN) rfl fun H5 l5=> ?_;simp only[cA,nA];refine g7 (g7 (g7 ?_));refine b4 (j7 _ _) ?_;refine b4 (j7 _ _) ?_;refine j9 (Ui) rfl ?_;simp only[cA,nA];exact d4 rfl ⟨l1.trans (l2.trans (l3.trans (l4.trans l5))),m,hT,by unfold Qo rkA rkB;rw[<-Gu (dm:=dm) (ms:=ms) (lv:=lv) (who:=who),<-Jb,<-Jb];rfl⟩
end
end Go.Z
namespace Go.GS
def VK {ft:Nat->Bool} {n k i:Nat} (hi:i<t7 ft [] (z7 n 0) k):∀v,v<=n->(stN ft n k i v).2.1=clsP (stN ft n k i v).1 v/\∀u,u<v->(stN ft n k i v).1.getD u 0<=(clsP (stN ft n k i v).1 u).length
 |0,_=>⟨rfl,fun u h=>absurd h (Nat.not_lt_zero u)⟩
 |v+1,hv=>by
  have h:=mf hi v aA;obtain⟨h1,h2⟩:=VK hi v aA;have h0:=h.cnt;have hl:=h.len;rw[lw aA,lu _ _ _ (ly aA),List.range_eq_range']at h0;have hp:=(QJ (c:=fun l=>t7 ft (u0 (stN ft n k i v).2.1 v l) (z7 n (v+1)) k) _ _ _ h0).1;show u0 _ _ _=clsP (_++[_]) (v+1)/\∀u,u<v+1->(_++[_]).getD u 0<=(clsP (_++[_]) u).length;generalize Ea (fun l=>t7 ft (u0 (stN ft n k i v).2.1 v l) (z7 n (v+1)) k) ((stN ft n k i v).2.1.length+1) 0 (stN ft n k i v).2.2=q at hp⊢;generalize (stN ft n k i v).1=p at h1 h2 hl⊢;rw[h1]at hp⊢;have a0m:(p++[q.1]).getD v 0=q.1:=by rw[<-hl];exact Up
  refine⟨?_,fun u hu=> ?_⟩
  ·show _=u0 (clsP (p++[q.1]) v) v ((p++[q.1]).getD v 0);rw[Uo v aA,a0m]
  ·rw[Uo u aA];by_cases e:u=v
   ·subst e;rw[a0m];omega
   ·rw[Jd aA];exact h2 u aA
def c5A {ft:Nat->Bool} {n k i:Nat} (hi:i<t7 ft [] (z7 n 0) k) {d:Nat} (hd:d<k):ft (Dq (Jz ft n k i) (d:Nat))=true:=by
 have h:=mf hi n (aS _);have hc:=h.cnt;obtain⟨h1,h2⟩:=VK hi n (aS _);rw[BE,BF]at hc;split at hc
 ·rename_i hk;have hl:(Jy ft n k i).length=n:=h.len;have hm:=QK (p:=Jy ft n k i) n aA (fun u hu=>h2 u hu) d (by show d<(clsP (stN ft n k i n).1 n).length;rw[<-h1];omega);have qL:mkN ((Jy ft n k i).map fun x:Nat=>(x:Int)) (d:Nat) n∈(stN ft n k i n).2.1:=by rw[h1];exact aK hm
  have:=hk.2 _ qL;show ft (mkN ((Jy ft n k i).map fun x:Nat=>(x:Int)) (d:Nat) ((Jy ft n k i).map fun x:Nat=>(x:Int)).length)=true;rw[aR,hl];exact this
 ·omega
def e1q {n k:Nat} {p:List Int} (h:PlOk n k p) (hk:1<=k/\k<=8) (h1:1<=n) (sM:n<=64):plE n p (k:Nat)=0:=by
 have hu:Ez p ((k:Nat):Int).toNat:=fun d hd e=>by
  obtain⟨v,hv⟩:=dB (h.all d aA);have uL:=(aH.1 hv).1;have h2:bit (Dq p (d:Nat)) v=true:=by unfold Dq;rw[Wa,oDd uL,oDd hv];rfl
  rw[e,Gk]at h2;cases h2
 unfold plE;rw[if_neg aA,if_pos ⟨h.len,⟨h.lab,by rw[h.len];omega,by rw[h.len];omega⟩,hu⟩]
end Go.GS
namespace Go.Z
open Proofs.Tryz RowKit RX GS RZ WD
def d0P {n k:Nat} {es:List (Nat×Nat)} {us:List Un} {lo hi:Int} {i:Nat} (hk:1<=k/\k<=8) (h1:1<=n) (sM:n<=64) (h:i<p7 n k es us lo hi):dc n k es us lo hi (Aa n k es us lo hi i):=by
 have ho:=Xr h;refine⟨ho,?_⟩;unfold Fo;rw[aQ];refine⟨oDd (e1q ho hk h1 sM),cH.2 fun s hs=> ?_⟩;rw[bU]at hs;obtain⟨d,hd,rfl⟩:=aZ.1 hs;exact c5A h (aW.1 hd)
end Go.Z
namespace Go.GS
def cnS (es:List (Nat×Nat)) (S:Nat):Bool:= !decide (S=0)&&decide (Ei S es es.length (2^lst S)=S)
def e1r {es:List (Nat×Nat)} {S n:Nat} (hg:GV n es) (hs:S<M64):cnB es S=cnS es S:=by
 rw[bY,cnB_iff];unfold cnS;by_cases h0:S=0
 ·subst h0;simp only[decide_true,Bool.not_true,Bool.false_and,aY,iff_false];rintro⟨x,hx,_⟩;rw[Gk]at hx;cases hx
 ·have hx:=ON hs h0;have hL:∀e∈es,e.1<64/\e.2<64:=fun e he=>by have:=hg.ed e he;have:=hg.n64;omega
  have hc:=d9X hx (c2v (set:=S) hL (Dp (Vv hs hx)) es.length).1 (c8P S es (2^lst S));rw[decide_eq_false h0,Bool.not_false,Bool.true_and,oDi];constructor
  ·intro hC;refine Hj fun y=> ?_;rw[bY,hc.2];exact⟨fun h=>h.mem hx,fun h=>hC.all hx h⟩
  ·intro e;refine⟨lst S,hx,fun y hy=>(hc.2 y).1 (by rw[e];exact hy)⟩
def es4:List (Nat×Nat):=[(0,1),(1,2),(2,3)]
def wl4:List Int:=[10,10,10,10]
def us4:List Un:=[⟨[97],10,[],[],[],false⟩,⟨[98],10,[],[],[],false⟩,⟨[99],10,[],[],[],false⟩,⟨[100],10,[],[],[],false⟩]
def dm0:Dm:=⟨0,0,0⟩
def gv4:GV 4 es4:=⟨aC,aC,aC,aC,by unfold es4 elt;simp⟩
noncomputable def ftH (lo hi:Int) (S:Nat):Bool:=if S<M64 then cnS es4 S&&(decide (Bd wl4 S≥lo)&&decide (Bd wl4 S<=hi))else alB es4 wl4 lo hi S
def Xt (lo hi:Int):alB es4 wl4 lo hi=ftH lo hi:=by
 funext S;unfold ftH;split
 ·rename_i h;unfold alB;rw[e1r gv4 h]
 ·rfl
def un4:∀x∈us4,UnV dm0 x:=by
 intro x hx;simp only[us4,bG,cF,or_false]at hx;rcases hx with rfl|rfl|rfl|rfl<;>exact⟨aC,aC,aC,aC,aC,rfl,(fun z h=>nomatch h),rfl,(fun z h=>nomatch h),rfl,(fun z h=>nomatch h)⟩
def wa4 (i:Nat) (x:Un) (h:us4[i]? =some x):x.wat=decide (4<=i):=by
 match i,h with
 |0,h=>cases h;rfl
 |1,h=>cases h;rfl
 |2,h=>cases h;rfl
 |3,h=>cases h;rfl
 |i+4,h=>cases h
def rv4:RoV dm0 4 us4:=⟨aC,aC,aC,aC,aC,aC,un4,wa4,aC⟩
end Go.GS
namespace Go.Z
open Proofs.Tryz RowKit RX GS RZ WD
def pN4 (lo hi:Int):p7 4 2 es4 us4 lo hi=Fv (ftH lo hi) 4 2:=by rw[<-Xt];rfl
def pI4 (lo hi:Int) (i:Nat):Aa 4 2 es4 us4 lo hi i=Jz (ftH lo hi) 4 2 i:=by rw[<-Xt];rfl
def Nk:p7 4 2 es4 us4 10 30=3:=by rw[pN4];decide+kernel
def EI:p7 4 2 es4 us4 20 30=1:=by rw[pN4];decide+kernel
def e3r:p7 4 2 es4 us4 21 30=0:=by rw[pN4];decide+kernel
def i1030:Aa 4 2 es4 us4 10 30 0=[0,0,0,1]/\Aa 4 2 es4 us4 10 30 1=[0,0,1,1]/\Aa 4 2 es4 us4 10 30 2=[0,1,1,1]:=by simp only[pI4];decide+kernel
def e3s:Aa 4 2 es4 us4 20 30 0=[0,0,1,1]:=by simp only[pI4];decide+kernel
def va4:An dm0 4 es4 us4 2 2 0 0 [0,0,0,1]=30/\An dm0 4 es4 us4 2 2 0 0 [0,0,1,1]=20/\An dm0 4 es4 us4 2 2 0 0 [0,1,1,1]=30/\An dm0 4 es4 us4 2 2 0 0 [1,0,0,0]=30:=by
 have h:∀p z,Dx (i9 Un.ppl us4 p 4 0) (s0 Un.ppl us4 p 2 4)=z->An dm0 4 es4 us4 2 2 0 0 p=(z:Rat):=fun p z e=>by
  show((Dx _ _:Int):Rat)=_;rw[e]
 exact⟨(h _ 30 (by decide+kernel)).trans (by rfl),(h _ 20 (by decide+kernel)).trans (by rfl),(h _ 30 (by decide+kernel)).trans (by rfl),(h _ 30 (by decide+kernel)).trans (by rfl)⟩
def Xu:vlL dm0 4 2 2 0 0 es4 us4 10 30=[30,20,30]:=by
 unfold vlL;rw[Nk];show[An _ _ _ _ _ _ _ _ _,An _ _ _ _ _ _ _ _ _,An _ _ _ _ _ _ _ _ _]=_;rw[i1030.1,i1030.2.1,i1030.2.2,va4.1,va4.2.1,va4.2.2.1]
def e1s:vlL dm0 4 2 2 0 0 es4 us4 20 30=[20]:=by
 unfold vlL;rw[EI];show[An _ _ _ _ _ _ _ _ _]=_;rw[e3s,va4.2.1]
def so4 {lo hi:Int} (h:(lo,hi)=(10,30)\/(lo,hi)=(20,30)\/(lo,hi)=(21,30)):StOk dm0 4 2 2 0 0 es4 us4 lo hi:=by
 refine⟨aC,gv4,rv4,aC,aC,aC,fun h=>aA,fun h=>aA,fun h=>aA,?_⟩;rcases h with h|h|h<;>cases h<;>exact⟨aC,aC,aC,aC,aC,aC⟩
def c5B:d9 prog [] [] [] [] 26=some (.rq (.cells 5 V0) (.rq (.int .u8 (.cell V0 0 0 noI)) (.ret [(.io .add (.ki 1) (.cv .i64 (.op2 .rem .u8 (.cell V0 0 0 noI) (kB 9))))]))):=aB
def c5C:d9 prog [] [] [] [] 74=some (.rq (.cells 5 V0)
(.ri V1
(.pm f74 1 4 [(.cell V0 1 0 noI)]
(.ri V2
(.br (.io .lss (.io .sub V1 (.ki 1)) V2)
(.pm f74 2 4 [(.cell V0 1 0 noI),(.io .sub V1 (.ki 1))]
(.pm f74 2 5 [V3]
(.rq (.int .u8 V4) (.rq (.nz V1) (.ret [(.io .rem (.cv .i64 V4) V1)]))))) (.ret [(.io .sub V1 (.ki 1))])))))):=aB
def c5D:d9 prog [] [] [⟨3,4,[23],[]⟩,⟨3,7,[57],[]⟩,⟨0,4,[],[]⟩] [⟨6,[0,1,0,7,15,31,63,0,128,511,0,1024,0,7168,15360,31744,64512,0,131456,523648,394239,2097151],rDx 22 2501110500250111050,rPx 22 0,rAx 0 8++rAx 10 8++[8,9]++rAx 18 4,[]⟩] 76=some (.rq (.cells 5 V0) (.call false 74 [(.ag V0),V2]
(.ri V3
(.ri V1
(.br (.io .eql V3 V1) (.ret [(.k (.bool true))]) (.loop [(.k (.bool false)),(.ki 0)]
(.join 1
(.pm f76 4 3 [(.cell V0 2 0 noI)]
(.ri V5
(.ri V6
(.br (.io .lss V5 V6) (.next 1 [(.io .lss V5 (.ki 12))]) (.next 1 [(.k (.bool false))]))))) (.rq (.bool V6) (.br V6
(.pm f76 6 3 [(.cell V0 2 0 noI),V5]
(.pm f76 6 4 [V7,(.ki 0)]
(.pm f76 6 5 [V8]
(.rq (.int .u8 V9)
(.pm f76 6 13 [(.cell V0 2 0 noI),V5]
(.pm f76 6 14 [V10,(.ki 1)]
(.pm f76 6 15 [V11]
(.rq (.int .u8 V12) (.call true 26 [(.ag V0)]
(.ri V13
(.rq (.nz V13) (.call true 26 [(.ag V0)]
(.ri V14
(.rq (.nz V14) (.join 1
(.pm f76 7 2 [(.io .rem (.cv .i64 V9) V13),(.io .rem (.cv .i64 V12) V14)]
(.ri V15
(.br (.io .eql V15 V1)
(.pm f76 7 8 [(.io .rem (.cv .i64 V9) V13),(.io .rem (.cv .i64 V12) V14)]
(.ri V16
(.ri V2
(.next 1 [(.io .eql V16 V2)])))) (.next 1 [(.k (.bool false))])))) (.rq (.bool V15) (.br V15
(.ret [(.k (.bool true))])
(.ri V5
(.next 0 [V4,(.io .add V5 (.ki 1))]))))))))))))))))))) (.ret [(.k (.bool false))])))))))))):=aB
def c5E:d9 prog [] [] [] [] 75=some (.rq (.cells 5 V0)
(.pm f75 1 3 [(.cell V0 3 0 noI)]
(.ri V1
(.ri V2
(.br (.io .lss V1 V2)
(.pm f75 2 3 [(.cell V0 3 0 noI),V1]
(.pm f75 2 4 [V3]
(.rq (.int .u8 V4) (.ret [(.cv .i64 V4)])))) (.ret [(.ki 0)])))))):=aB
def c5F:d9 prog [] [] [⟨0,3,[],[0,1,2]⟩,⟨0,6,[],[2]⟩] [] 24=some (.rq (.cells 5 V0) (.call false 26 [(.ag V0)]
(.rq (.cells 1 V1) (.loop [(.ki 0),V0,(.z 33),(.cat V1 1 (.z 31))]
(.ri V2
(.rq (.int .i64 (.cell V5 0 0 noI)) (.br (.io .lss V2 (.cell V5 0 0 noI)) (.loop [(.io .add V2 (.ki 1)),V5]
(.ri V6
(.rq (.int .i64 (.cell V7 0 0 noI)) (.br (.io .lss V6 (.cell V7 0 0 noI)) (.call false 76 [(.ag V3),V2,V6]
(.rq (.bool V8) (.br V8
(.rq (.cells 1 V2) (.rq (.cells 1 V6)
(.ef false f24 9 5 [(.put (.put (.z 156) 0 1 V2 0 noI) 1 1 V6 0 noI)]
(.ef false f24 9 6 [(.cell V7 1 0 noI),V9]
(.rq (.cells 1 V10) (.next 1 [(.io .add V6 (.ki 1)),(.cat (.sub V7 0 1 0 noI) 1 V10)])))))) (.next 1 [(.io .add V6 (.ki 1)),V7])))) (.next 0 [(.io .add V2 (.ki 1)),V3,V4,V7]))))) (.ret [(.ag V5)])))))))):=aB
def c5G:d9 prog [] [] [⟨3,8,[36],[]⟩,⟨2,36,[8,5],[]⟩,⟨0,5,[],[]⟩] [] 23=some (.rq (.cells 5 V0)
(.ef false f23 1 0 [(.ki 0)]
(.rq (.int .u8 (.cell V0 4 0 noI)) (.loop [(.ki 1),V1,(.ki 1)]
(.call false 26 [(.ag V0)]
(.ri V4
(.ri V5
(.br (.io .lss V4 V5) (.call false 74 [(.ag V0),V4]
(.pm f23 7 4 [V3,V6]
(.pm f23 7 5 [V7]
(.join 1
(.call false 75 [(.ag V0),V4]
(.ri V9
(.br (.io .eql (.io .rem V9 (.ki 2)) (.ki 1))
(.ri V2
(.next 1 [(.io .lss V2 (.io .add (.ki 1) (.cv .i64 (.op2 .rem .u8 (.cell V0 4 0 noI) (kB 4)))))])) (.next 1 [(.k (.bool false))])))) (.join 2
(.rq (.bool V9) (.br V9
(.ri V2
(.next 1 [V2,(.io .add V2 (.ki 1))])) (.next 1 [V8,V2])))
(.ef false f23 11 2 [V10]
(.ef false f23 11 3 [V3,V12]
(.next 0 [V11,V13,(.io .add V4 (.ki 1))])))))))) (.ret [V3,V2]))))))))):=aB
def c5H:d9 prog [] [] [] [⟨3,[0,1,0,0,8,24,60,127,255,511,1023],rDx 11 110150050,rPx 11 0,rAx 0 11,[]⟩] 125=some (.rq (.cells 5 V0)
(.pm f125 1 2 [(.cell V0 4 0 noI)]
(.ri V2
(.br (.io .eql V2 (.ki 0)) (.ret [(.ki 1)])
(.pm f125 3 5 [(.cell V0 4 0 noI)]
(.ri V1
(.ri V3
(.rq (.nz V3)
(.pm f125 3 7 [(.cell V0 4 0 noI),(.io .rem V1 V3)]
(.pm f125 3 8 [V4]
(.rq (.int .u8 V5) (.ret [(.cv .i64 V5)])))))))))))):=aB
def c5I:d9 prog [] [] [⟨0,3,[],[]⟩] [] 126=some (.rq (.cells 5 V0) (.loop [(.k (.slice none 0 0)),(.ki 0)]
(.ri V5
(.ri V1
(.br (.io .lss V5 V1)
(.ri V2
(.call false 125 [(.ag V0),(.io .add V2 V5)]
(.pm f126 5 7 [V6,V3]
(.ef false f126 5 8 [V7]
(.ef false f126 5 9 [V4,V8]
(.next 0 [V9,(.io .add V5 (.ki 1))])))))) (.ret [V4])))))):=aB
@[reducible] def z2_:SV:= .cv .u8 (.io .add (.ki 97) (.io .rem (.io .quo V2 (.ki 26)) (.ki 26)))
def c5J:d9 prog [7,37,100,103,106,999996,999998] [] [⟨3,5,[7],[]⟩,⟨0,3,[],[0,1,2]⟩,⟨0,9,[],[]⟩,⟨0,14,[],[2]⟩] [⟨2000005,[],[],[],[9],[15]⟩,⟨5,[0,1,3,7,0,16,48,112,240,511,1023,2047,0,0,8192,29695,65535,0,262143],rPx 9 0++rDx 10 8302005113,rPx 19 0,rAx 0 9++[12,13,14,9,10,11,15,16,17],[18]⟩,⟨1000005,[0,1,3,7,0,16,48,112,240,33279,33791,34815,0,0,8192,28672,65535,0,262143],rPx 9 0++rDx 10 8302005113,rPx 19 0,rAx 0 9++rAx 12 4++[9,10,11,16,17],[18]⟩,⟨11,[0,1,0,0,8,24,0,120,252,508,1020,2047,4095,8191],rDx 14 87820200000511,rPx 14 0,rAx 0 11,[11,12,13]⟩,⟨16,[0,1,0,4,12,0,32,96,0,256,768,2044,4092,8191,16383,32767],rDx 16 6088035035035050,rDx 15 2002002020++[2],rDx 9 498653210++[7,10],[11,12,13,14,15]⟩] 77=some (.rq (.cells 5 V0) (.rq (.int .u8 (.cell V0 0 0 noI)) (.rq (.int .u8 (.cell V0 1 0 noI)) (.rq (.int .u8 (.cell V0 2 0 noI)) (.loop [(.ki 0),V0,(.z 36),(.cat (.cv .i64 (.op2 .rem .u8 (.cell V0 0 0 noI) (kB 3))) 1 (.cat (.cv .i64 (.op2 .rem .u8 (.cell V0 1 0 noI) (kB 4))) 1 (.cat (.cv .i64 (.op2 .rem .u8 (.cell V0 2 0 noI) (kB 3))) 1 (.z 34))))]
(.ri V2
(.ri V1
(.br (.io .lss V2 V1) (.join 1
(.both
(.mq f77 5 9 [(.cv .u8 (.io .add (.ki 97) (.io .rem V2 (.ki 26)))),z2_]
(.pm f77 5 10 [V6]
(.pm f77 5 11 [(.k (.string ⟨#[117]⟩)),V7]
(.call true 125 [(.ag V3),(.io .mul (.ki 9) V2)]
(.rq (.cells 1 V8) (.rq (.cells 1 V9) (.pub 90 (.z 90)
(.ef false f77 5 18 [V10,(.put (.cat V8 1 (.cat (.z 3) 1 (.cat (.z 39) 1 (.cat (.z 39) 1 (.cat (.z 39) 1 (.z 4)))))) 1 1 V9 0 noI)]
(.next 1 [V10]))))))))) (.call true 125 [(.ag V3),(.io .mul (.ki 9) V2)]
(.mq f77 5 9 [(.cv .u8 (.io .add (.ki 97) (.io .rem V2 (.ki 26)))),z2_]
(.pm f77 5 10 [V7]
(.pm f77 5 11 [(.k (.string ⟨#[117]⟩)),V8]
(.rq (.cells 1 V9) (.rq (.cells 1 V6) (.pub 90 (.z 90)
(.ef false f77 5 18 [V10,(.put (.cat V9 1 (.cat (.z 3) 1 (.cat (.z 39) 1 (.cat (.z 39) 1 (.cat (.z 39) 1 (.z 4)))))) 1 1 V6 0 noI)]
(.next 1 [V10]))))))))))
(.pm f77 6 6 [V6]
(.pm f77 6 7 [V7]
(.call false 126 [(.ag V3),(.cell V5 0 0 noI),(.io .add (.io .mul (.ki 9) V2) (.ki 1)),V8]
(.pm f77 6 9 [V6]
(.ef false f77 6 10 [V10,V9]
(.call false 126 [(.ag V3),(.cell V5 1 0 noI),(.io .add (.io .mul (.ki 9) V2) (.ki 3)),(.ki 255)]
(.pm f77 7 7 [V6]
(.ef false f77 7 8 [V13,V12]
(.loop [(.ki 0)]
(.ri V15
(.rq (.int .i64 (.cell V5 2 0 noI)) (.br (.io .lss V15 (.cell V5 2 0 noI))
(.pm f77 11 0 [V6]
(.pm f77 11 1 [V16]
(.call true 125 [(.ag V3),(.io .add (.io .add (.io .mul (.ki 9) V2) (.ki 7)) V15)]
(.ri V18
(.ef true f77 11 10 [(.io .rem V18 (.ki 3))]
(.ef false f77 11 11 [V17,V19]
(.pm f77 11 12 [V6]
(.ef false f77 11 13 [V21,V20]
(.next 1 [(.io .add V15 (.ki 1))])))))))))
(.pm f77 12 2 [V6]
(.ef false f77 12 3 [V16]
(.ef false f77 12 4 [(.cell V5 3 0 noI),V17]
(.rq (.cells 1 V18) (.next 0 [(.io .add V2 (.ki 1)),V3,V4,(.cat (.sub V5 0 3 0 noI) 3 V18)])))))))))))))))))) (.loop [(.ki 0),V5]
(.rq (.int .u8 (.cell V3 3 0 noI))
(.ri V6
(.br (.io .lss V6 (.cv .i64 (.op2 .rem .u8 (.cell V3 3 0 noI) (kB 2))))
(.mq f77 16 4 [(.cell V7 0 0 noI),(.cell V7 0 0 noI)]
(.mq f77 16 7 [(.cell V7 1 0 noI),(.cell V7 1 0 noI)]
(.mq f77 16 10 [(.cell V7 2 0 noI),(.cell V7 2 0 noI)]
(.rq (.cells 1 V8) (.rq (.cells 1 V9) (.rq (.cells 1 V10)
(.ef false f77 16 12 [(.cat (.k (.string ⟨#[115,101,97]⟩)) 1 (.cat (.z 3) 1 (.cat (.sub (.put (.cat V8 1 (.cat (.z 39) 1 (.cat (.z 39) 1 (.k (.bool true))))) 1 1 V9 0 noI) 0 2 0 noI) 2 (.cat V10 1 (.sub (.put (.cat V8 1 (.cat (.z 39) 1 (.cat (.z 39) 1 (.k (.bool true))))) 1 1 V9 0 noI) 3 1 0 noI)))))]
(.ef false f77 16 13 [(.cell V7 3 0 noI),V11]
(.rq (.cells 1 V12) (.next 1 [(.io .add V6 (.ki 1)),(.cat (.sub V7 0 3 0 noI) 3 V12)])))))))))) (.ret [(.ag V7)]))))))))))))):=aB
def c5K:d9 prog [] [] [] [] 25=some (.rq (.cells 5 V0) (.call false 77 [(.cat (kB 2) 1 (.cat (kB 3) 1 (.cat (kB 2) 1 (.sub (.sub (.sub V0 1 4 0 noI) 1 3 0 noI) 1 2 0 noI)))),V1]
(.rq (.cells 4 V2) (.ret [(.ag V2)])))):=aB
def EJ:SV:=(.put (.cat (.v 3) 2 (.cat (.z 36) 4 (.cat (.z 3) 1 (.cat (.z 3) 1 (.cat (.z 3) 1 (.cat (.z 3) 1 (.cat (.z 3) 1 (.z 3)))))))) 2 4 (.v 5) 0 noI)
def EK:SV:=(.put (.cat (.sub EJ 0 6 0 noI) 6 (.cat (.pj (.v 2) 1) 1 (.sub EJ 7 5 0 noI))) 9 1 (.op2 .add .i64 (.ki 1) (.cv .i64 (.op2 .rem .u8 (.cell (.sub (.v 0) 1 15 0 noI) 12 0 noI) (kB 8)))) 0 noI)
def Ur:SV:=(.put (.cat (.sub EK 0 10 0 noI) 10 (.cat (.cv .i64 (.op2 .rem .u8 (.cell (.sub (.v 0) 1 15 0 noI) 13 0 noI) (kB 2))) 1 (.sub EK 11 1 0 noI))) 11 1 (.cv .i64 (.op2 .rem .u8 (.cell (.sub (.v 0) 1 15 0 noI) 14 0 noI) (kB 2))) 0 noI)
def Xv:SV:=(.cat (.sub Ur 0 7 0 noI) 7 (.cat (.v 9) 1 (.cat (.op2 .add .i64 (.v 7) (.cv .i64 (.cell (.sub (.v 0) 1 15 0 noI) 11 0 noI))) 1 (.sub (.sub Ur 8 4 0 noI) 1 3 0 noI))))
@[reducible] def z3_:SV:= .cv .u8 (.io .rem (.cv .i64 (.cn V0 10)) V1)
def c5L:d9 prog [] [] [⟨2,68,[12],[]⟩,⟨3,14,[84],[]⟩,⟨2,84,[9],[]⟩,⟨0,6,[],[]⟩,⟨0,10,[],[]⟩] [⟨3,[0,1,3,0,8,0,32,103,255,0,0,1024,3072,7168,15360,0,32768,98304,229376,0,524288,1572864,3670016,8388607,0,33554431],rDx 26 83000500050000500225050250,rPx 25 0++[2],rDx 6 654310++rAx 9 14++[2,7,8,23,24],[25]⟩] 5=some (.rq (.cells 16 V0) (.rq (.int .u8 (.cell V0 10 0 noI))
(.ri V1
(.rq (.nz V1) (.call false 23 [(.sub (.cat z3_ 1 (.sub V0 1 15 0 noI)) 0 5 0 noI)]
(.rq (.tup 0 V2) (.rq (.tup 1 V2) (.rq (.int .u8 (.cell (.sub V0 1 15 0 noI) 12 0 noI)) (.rq (.int .u8 (.cell (.sub V0 1 15 0 noI) 13 0 noI)) (.rq (.int .u8 (.cell (.sub V0 1 15 0 noI) 14 0 noI)) (.call true 24 [(.sub (.cat z3_ 1 (.sub V0 1 15 0 noI)) 0 5 0 noI)]
(.call true 26 [(.sub (.cat z3_ 1 (.sub V0 1 15 0 noI)) 0 5 0 noI)]
(.call true 25 [(.sub (.sub V0 1 15 0 noI) 4 5 0 noI),V4]
(.rq (.cells 2 V3) (.rq (.cells 4 V5) (.rq (.cells 1 (.pj V2 1)) (.rq (.cells 12 Ur) (.loop [(kI (-1)),(.ki 0),(.ki 0)]
(.ri V8
(.rq (.int .i64 (.pj V2 1)) (.br (.io .lss V8 (.pj V2 1)) (.loop [(.ki 0),(.ki 0)]
(.pm f5 10 2 [(.pj V2 0)]
(.ri V10
(.ri V11
(.br (.io .lss V10 V11)
(.pm f5 12 2 [(.pj V2 0),V10]
(.pm f5 12 3 [V12]
(.ri V13
(.join 1
(.br (.io .eql V13 V8)
(.pm f5 13 5 [(.cell Ur 5 0 noI),V10]
(.pm f5 13 6 [V14]
(.pm f5 13 7 [V15]
(.ri V9
(.ri V16
(.next 2 [(.io .add V9 V16)])))))) (.next 2 [V9])) (.next 1 [V14,(.io .add V10 (.ki 1))]))))) (.join 1
(.ri V6
(.br (.io .lss V6 (.ki 0)) (.next 2 [(.k (.bool true))])
(.ri V9
(.next 2 [(.io .lss V9 V6)])))) (.join 1
(.rq (.bool V12) (.br V12
(.next 2 [V9]) (.next 2 [V6])))
(.pm f5 16 2 [V7,V9]
(.next 0 [V13,V14,(.io .add V8 (.ki 1))]))))))))) (.rq (.int .u8 (.cell (.sub V0 1 15 0 noI) 10 0 noI))
(.ri V6
(.pm f5 17 5 [(.ki 0),(.io .sub V6 (.cv .i64 (.cell (.sub V0 1 15 0 noI) 10 0 noI)))]
(.rq (.cells 1 V9) (.rq (.int .u8 (.cell (.sub V0 1 15 0 noI) 11 0 noI))
(.ri V7
(.rq (.cells 12 Xv) (.ret [Xv,(.pj V2 0)]))))))))))))))))))))))))))))):=aB
def cU8 (c:Nat):List Value:=[.int .u8 (c:Nat)]
def Nl:El prog 22 5 1 false cU8 (fun c:Nat=> .int .u8 (c:Nat)) where
 und:=aB
 has:=aB
 cel:=aB
 agg:=aB
 pos:=aC
 one1:=fun _=>rfl
 small:=aC
 inf:=⟨(prog.info? 5).getD default,.int .u8 0,aB,aB,aB,rfl,oDt aB⟩
 len:=fun _=>rfl
 val:=fun _=>rfl
 cells:=fun _=>rfl
 one:=fun x c hc=>by simp[cU8]at hc;subst hc;rfl
def cBB (e:Nat×Nat):List Value:=[.int .u8 (e.1:Nat),.int .u8 (e.2:Nat)]
def EL:El prog 23 228 2 true cBB (fun e=> .agg (cBB e).toArray) where
 und:=aB
 has:=aB
 cel:=aB
 agg:=aB
 pos:=aC
 one1:=fun h=>by cases h
 small:=aC
 inf:=⟨(prog.info? 228).getD default,.agg #[.int .u8 0,.int .u8 0],aB,aB,aB,rfl,oDt aB⟩
 len:=fun _=>rfl
 val:=fun _=>rfl
 cells:=fun _=>rfl
 one:=fun x c hc=>by simp[cBB]at hc;rcases hc with rfl|rfl<;>rfl
def VL:Ar prog 228 5 2:=⟨aB,aB,aB,aB,CU⟩
def Kq {ρ:List Value} {x:SV} {c:Nat} (hx:D prog ρ x= .int .u8 (c:Nat)) (hc:c<256):D prog ρ (.cv .i64 x)=ii (c:Nat):=by
 show Value.int .i64 (wQ .i64 (intOf (D prog ρ x)))=_;rw[hx];show Value.int .i64 (wQ .i64 ((c:Nat):Int))=_;rw[show wQ .i64 ((c:Nat):Int)=((c:Nat):Int) by rw[IntKind.wrap_i64];omega];rfl
def Hz {ρ:List Value} {x y:SV} {c m:Nat} (hx:D prog ρ x=ii (c:Nat)) (hy:D prog ρ y=ii (m:Nat)):D prog ρ (.op2 .rem .i64 x y)=ii ((c%m:Nat):Int):=by
 show w9 .rem .i64 (intOf (D prog ρ x)) (intOf (D prog ρ y))=_;rw[hx,hy];show Value.int .i64 (lR ((c:Nat):Int) ((m:Nat):Int))=_;rw[<-kJ];rfl
def EM {ρ:List Value} {x:SV} {a m:Nat} {mi:Int} (hx:D prog ρ x= .int .u8 (a:Nat)) (hmi:mi=(m:Nat)) (hm:m<1000) (h0:0<m):D prog ρ (.op2 .add .i64 (.k (.int .i64 1)) (.cv .i64 (.op2 .rem .u8 x (.k (.int .u8 mi)))))=ii ((1+a%m:Nat):Int):=by
 subst hmi;show w9 .add .i64 1 (wQ .i64 (lR (intOf (D prog ρ x)) (m:Nat)))=_;rw[hx];show Value.int .i64 (wQ .i64 (1+wQ .i64 (lR ((a:Nat):Int) (m:Nat))))=_;rw[<-kJ];have:=cI a h0;congr 1;rw[IntKind.wrap_i64,IntKind.wrap_i64];omega
def e3v:j3 prog 156= .agg #[ii 0,ii 0]:=aB
def e3w {ρ:List Value} {x y:SV} {a b:Nat} (hx:D prog ρ x=ii (a:Nat)) (hy:D prog ρ y=ii (b:Nat)):D prog ρ (.put (.put (.z 156) 0 1 x 0 noI) 1 1 y 0 noI)=ev2 (a,b):=by
 show Value.agg (spl (Value.agg (spl (j3 prog 156).cells (0+0*t6 (D prog ρ noI)) (D prog ρ x).cells.toList)).cells (1+0*t6 (D prog ρ noI)) (D prog ρ y).cells.toList)=_;rw[e3v,hx,hy,bV];rfl
def e3x {ρ:List Value} {x y:SV} {n:Nat} {w u:Value} (hx:D prog ρ x=gv n w) (hy:D prog ρ y=u) (hc:u.cells= #[u]):D prog ρ (.cat (.sub x 0 1 0 noI) 1 y)=gv n u:=by
 show Value.agg ((Value.agg ((D prog ρ x).cells.extract (0+0*t6 (D prog ρ noI)) (0+0*t6 (D prog ρ noI)+1))).cells++(D prog ρ y).cells)=_;rw[hx,hy,hc,bV];rfl
def e3y:j3 prog 31= .slice none 0 0:=aB
def Je (nn kk:Nat) (a b c:Value):Value:= .agg #[.int .u8 (nn:Nat),a,b,c,.int .u8 (kk:Nat)]
structure D21 (H:PH) (a b c:Value) (ps ls:List Nat) (ms:List (Nat×Nat)):Prop where
 pr:SE H 1 cU8 a ps
 mo:SE H 2 cBB b ms
 la:SE H 1 cU8 c ls
 p8:∀x∈ps,x<256
 m8:∀x∈ms,x.1<256/\x.2<256
 l8:∀x∈ls,x<256
def D21.mono {H H':PH} {a b c:Value} {ps ls:List Nat} {ms:List (Nat×Nat)} (h:D21 H a b c ps ls ms) (hl:Pl H H'):D21 H' a b c ps ls ms:=⟨h.pr.mono hl,h.mo.mono hl,h.la.mono hl,h.p8,h.m8,h.l8⟩
def D21.one {H:PH} {a b c:Value} {ps ls:List Nat} {ms:List (Nat×Nat)} (h:D21 H a b c ps ls ms) (nn kk:Nat):(Je nn kk a b c).cells.size=5/\j0 (Je nn kk a b c).cells:=by
 refine⟨rfl,fun x hx=> ?_⟩;rw[Je,Gh]at hx;simp only[bG,cF,or_false]at hx;rcases hx with rfl|rfl|rfl|rfl|rfl
 ·rfl
 ·exact t8 h.pr
 ·exact t8 h.mo
 ·exact t8 h.la
 ·rfl
def UpE (a b:Nat) (es:List (Nat×Nat)):Prop:=es.Pairwise elt/\∀e∈es,e.1<e.2/\elt e (a,b)
def UpE.row {a b:Nat} {es:List (Nat×Nat)} (h:UpE a b es):UpE (a+1) (a+2) es:=⟨h.1,fun e he=>⟨(h.2 e he).1,.inl (by rcases(h.2 e he).2 with h1|⟨h1,_⟩<;>simp only at h1<;>omega)⟩⟩
def UpE.skip {a b:Nat} {es:List (Nat×Nat)} (h:UpE a b es):UpE a (b+1) es:=⟨h.1,fun e he=>⟨(h.2 e he).1,by rcases(h.2 e he).2 with h1|⟨h1,h2⟩;exact .inl h1;exact .inr ⟨h1,by simp only at h2;show e.2<b+1;omega⟩⟩⟩
def UpE.put {a b:Nat} {es:List (Nat×Nat)} (h:UpE a b es) (tP:a<b):UpE a (b+1) (es++[(a,b)]):=by
 refine⟨List.pairwise_append.2 ⟨h.1,List.pairwise_singleton _ _,fun e he f hf=> ?_⟩,fun e he=> ?_⟩
 ·rw[bB]at hf;subst hf;exact(h.2 e he).2
 ·rcases aV.1 he with he|he
  ·exact h.skip.2 e he
  ·rw[bB]at he;subst he;exact⟨tP,.inr ⟨rfl,by show b<b+1;omega⟩⟩
section
variable {H:PH} {a b c:Value} {ps ls:List Nat} {ms:List (Nat×Nat)} {nn kk:Nat}
def de (h:D21 H a b c ps ls ms):Asks prog 26 [Je nn kk a b c] H (ii ((1+nn%9:Nat):Int)):=by
 refine g5 mixed c5B ?_;refine b4 (h.one nn kk) ?_;refine b9 ?_;exact d4 (show D prog _ _=_ from EM (m:=9) (mi:=9) rfl rfl aC aC) ⟨rfl,rfl⟩
def pe {ρ:List Value} {x:SV} {i:Nat} (hx:D prog ρ x=ii (i:Nat)) (hi:1<=i) (h2:i<1000000):D prog ρ (.op2 .sub .i64 x (.k (.int .i64 1)))=ii ((i-1:Nat):Int):=by
 rw[Tc hx (y:=1) rfl aA aA,show((i:Nat):Int)-1=((i-1:Nat):Int) by omega]
def VM (h:D21 H a b c ps ls ms) {i:Nat} (hi:1<=i) (h2:i<1000000):Asks prog 74 [Je nn kk a b c,ii (i:Nat)] H (ii ((Bn ps i:Nat):Int)):=by
 refine g5 mixed c5C ?_;refine b4 (h.one nn kk) ?_;refine b9 ?_;refine Dc Nl rfl rfl h.pr rfl ?_;refine b9 ?_;refine y5 (p:=(((i-1:Nat):Int)<(ps.length:Nat))) (by show Value.bool (decide (intOf (D prog _ (.op2 .sub .i64 _ _))<_))=_;rw[pe rfl hi h2];rfl) (fun hl=> ?_) fun hl=> ?_
 ·have yU:i-1<ps.length:=aA;have hx:ps[i-1]? =some ps[i-1]:=aG yU;refine Ac Nl rfl rfl rfl rfl aF h.pr hx (i0 rfl (pe rfl hi h2)) aF fun _=> ?_;refine b9 ?_;refine b4 (show((i:Nat):Int)≠0 by omega) ?_;exact d4 (show D prog _ _=_ from Hz (Kq rfl (h.p8 _ (dL yU))) rfl) ⟨rfl,by unfold Bn;rw[hx]⟩
 ·have hx:ps[i-1]? =none:=aO aA;exact d4 (show D prog _ _=_ from pe rfl hi h2) ⟨rfl,by unfold Bn;rw[hx]⟩
def b9r (h:D21 H a b c ps ls ms) {i j:Nat} (hj:1<=j) (h2:j<1000000):Con prog 76 [Je nn kk a b c,ii (i:Nat),ii (j:Nat)] H fun r H'=>H'=H/\∃q:Bool,r= .bool q/\(Bn ps j=i->q=true):=by
 refine g5 mixed c5D ?_;refine b4 (h.one nn kk) ?_;refine j9 (VM h hj h2) rfl ?_;refine b9 (b9 ?_);refine y5 (p:=(Bn ps j=i)) (bEk _ _) (fun hp=> ?_) fun hp=> ?_
 ·exact d4 rfl ⟨rfl,true,rfl,fun _=>rfl⟩
 ·refine Df (α:=Nat) (fun x=>[.bool false,ii (x:Nat)]) (fun x=>x<=12) (fun x=>12-x) (0) rfl (bK _) fun x hQ=> ?_;refine⟨(fun l H'=>H'=H/\∃q:Bool,l=[.bool q]/\(q=true->x<ms.length/\x<12)),?_,?_⟩
  ·skip
   refine Dc EL rfl rfl h.mo rfl ?_;refine b9 (b9 ?_);refine g6 (b:=decide (((x:Nat):Int)<(ms.length:Nat))) rfl (fun h3=> ?_) (fun h3=> ?_)
   ·replace h3:=oDt h3;exact⟨rfl,decide (((x:Nat):Int)<12),rfl,fun e=>⟨aA,by have:=oDt e;omega⟩⟩
   ·replace h3:=oDf h3;exact⟨rfl,false,rfl,fun e=>nomatch e⟩
  rintro _ H _ ⟨rfl,q,rfl,hq⟩;simp only[cA,nA];refine b9 ?_;refine g6 (b:=q) rfl (fun h3=> ?_) (fun h3=> ?_)
  ·skip
   obtain⟨hi1,tJ⟩:=hq h3;have hm:=aG hi1;refine MJ EL (c:=(.int .u8 ((ms[x]).1:Nat))) VL aC rfl rfl rfl rfl rfl rfl aF aF aF h.mo hm rfl aF (fun _ _=>rfl) fun _ _=> ?_;refine b9 ?_;refine MJ EL (c:=(.int .u8 ((ms[x]).2:Nat))) VL aC rfl rfl rfl rfl rfl rfl aF aF aF h.mo hm rfl aF (fun _ _=>rfl) fun _ _=> ?_;have hm8:=h.m8 _ (dL hi1);refine b9 ?_;refine j9 (de h) rfl ?_;refine b9 ?_;refine b4 (show((1+nn%9:Nat):Int)≠0 by omega) ?_;refine j9 (de h) rfl ?_;refine b9 ?_;refine b4 (show((1+nn%9:Nat):Int)≠0 by omega) ?_;refine⟨(fun l H'=>H'=H/\∃p:Bool,l=[.bool p]),?_,?_⟩
   ·skip
    refine j8 ((ic (vs:=[ii (((ms[x]).1%(1+nn%9):Nat):Int),ii (((ms[x]).2%(1+nn%9):Nat):Int)]) rfl rfl rfl).rds _) (i0 (Hz (Kq rfl hm8.1) rfl) (Hz (Kq rfl hm8.2) rfl)) ?_;refine b9 ?_;refine g6 (b:=_) rfl (fun h5=> ?_) (fun h5=> ?_)
    ·skip
     refine j8 ((xp (vs:=[ii (((ms[x]).1%(1+nn%9):Nat):Int),ii (((ms[x]).2%(1+nn%9):Nat):Int)]) rfl rfl rfl).rds _) (i0 (Hz (Kq rfl hm8.1) rfl) (Hz (Kq rfl hm8.2) rfl)) ?_;refine b9 (b9 ?_);exact⟨rfl,_,rfl⟩
    ·skip
     exact⟨rfl,_,rfl⟩
   rintro _ H _ ⟨rfl,p,rfl⟩;simp only[cA,nA];refine b9 ?_;refine g6 (b:=p) rfl (fun h6=> ?_) (fun h6=> ?_)
   ·skip
    exact d4 rfl ⟨rfl,true,rfl,fun _=>rfl⟩
   ·skip
    refine b9 ?_;exact⟨x+1,by show 12-(x+1)<12-x;omega,(i0 rfl (j5 rfl aA)),⟨by show x+1<=12;omega,rfl⟩⟩
  ·skip
   exact d4 rfl ⟨rfl,false,rfl,fun e=>absurd e hp⟩
set_option maxHeartbeats 1000000 in
def b9s (h:D21 H a b c ps ls ms) (hnn:nn<6):Con prog 24 [Je nn kk a b c] H fun r H'=>Pl H H'/\∃w es,r=gv (1+nn) w/\SG H' w es/\GV (1+nn) es/\∀v,1<=v->v<1+nn->(Bn ps v,v)∈es:=by
 refine g5 mixed c5F ?_;obtain⟨zg,hzg⟩:∃zg,j3 prog 33=zg:=⟨_,rfl⟩;have hn9:1+nn%9=1+nn:=aA;refine b4 (h.one nn kk) ?_;refine j9 (de h) rfl ?_;rw[hn9];refine b4 (el_int.vcells _) ?_;refine r7 (α:=Nat×Value×List (Nat×Nat)) (fun⟨i,w,es⟩=>[ii (i:Nat),Je nn kk a b c,zg,gv (1+nn) w]) (fun⟨i,w,es⟩=>fun H'=>Pl H H'/\i<=1+nn/\SO H H' 156 2 ec w es/\UpE i (i+1) es/\es.length<=i*6/\(∀e∈es,e.2<1+nn)/\∀v,1<=v->v<1+nn->Bn ps v<i->(Bn ps v,v)∈es) (fun⟨i,w,es⟩=>1+nn-i) ((0,.slice none 0 0,[])) (by refine Hn rfl rfl hzg ?_;show Value.agg (#[ii ((1+nn:Nat):Int)]++(j3 prog 31).cells)=_;rw[e3y];rfl) (⟨Pl.refl _,bK _,SO.nil _ _ _ _ _,⟨lJ,fun _ h=>nomatch h⟩,bK _,fun _ h=>(nomatch h),fun _ _ _ h=>aA⟩) fun⟨i,w,es⟩ H' hQ=> ?_;obtain⟨l1,han,o1,hU,qC,hed,hpe⟩:=hQ;have h1:=h.mono l1;refine b9 (b9 ?_);refine g6 (b:=decide (((i:Nat):Int)<((1+nn:Nat):Int))) rfl (fun qU=> ?_) (fun qU=> ?_)
 ·replace qU:=oDt qU;have a6q:i<1+nn:=aA;refine r7 (α:=Nat×Value×List (Nat×Nat)) (fun⟨j,w2,es2⟩=>[ii (j:Nat),gv (1+nn) w2]) (fun⟨j,w2,es2⟩=>fun H''=>Pl H H''/\i<j/\j<=1+nn/\SO H H'' 156 2 ec w2 es2/\UpE i j es2/\es2.length+(i+1)<=i*6+j/\(∀e∈es2,e.2<1+nn)/\∀v,1<=v->v<1+nn->(Bn ps v<i\/(Bn ps v=i/\v<j))->(Bn ps v,v)∈es2) (fun⟨j,w2,es2⟩=>1+nn-j) ((i+1,w,es)) (i0 (j5 rfl aA) rfl) (⟨l1,aA,aA,o1,hU,aA,hed,fun v v1 v2 v3=>hpe v v1 v2 (by have:=Ul (ps:=ps) v1;omega)⟩) fun⟨j,w2,es2⟩ H2 wX=> ?_;obtain⟨l2,tP,hbn,o2,hU2,a6h,a1s,zV⟩:=wX;have h2:=h.mono l2;refine b9 (b9 ?_);refine g6 (b:=decide (((j:Nat):Int)<((1+nn:Nat):Int))) rfl (fun h3=> ?_) (fun h3=> ?_)
  ·replace h3:=oDt h3;have a5s:j<1+nn:=aA;refine f0 (b9r (i:=i) (j:=j) h2 aA aA) rfl ?_;rintro _ H2 ⟨rfl,q,rfl,hq⟩;refine nmI ?_;refine b9 ?_;refine g6 (b:=q) rfl (fun h4=> ?_) (fun h4=> ?_)
   ·skip
    refine b4 (el_int.vcells _) ?_;refine b4 (el_int.vcells _) ?_;refine Cf el_edge rfl rfl rfl aF aF l2 o2 aA (p6 (e3w rfl rfl)) aF rfl fun q2 w3 H3 l3 o3=> ?_;have a3c:=o3.se;refine b4 a3c.one ?_;exact⟨(j+1,w3,es2++[(i,j)]),by show 1+nn-(j+1)<1+nn-j;omega,(i0 (j5 rfl aA) (e3x rfl rfl a3c.cells)),⟨l3,by show i<j+1;omega,by show j+1<=1+nn;omega,o3,hU2.put tP,by show(es2++[(i,j)]).length+(i+1)<=i*6+(j+1);rw[aL];simp only[aP,bX];omega,fun e he=>by rcases aV.1 he with he|he;exact a1s e he;rw[bB]at he;subst he;exact a5s,fun v v1 v2 v3=>by rcases v3 with v3|⟨v3,v4⟩;exact kH _ (zV v v1 v2 (.inl v3));by_cases e:v=j;subst e;rw[v3];simp;exact kH _ (zV v v1 v2 (.inr ⟨v3,aA⟩))⟩⟩
   ·skip
    exact⟨(j+1,w2,es2),by show 1+nn-(j+1)<1+nn-j;omega,(i0 (j5 rfl aA) rfl),⟨l2,by show i<j+1;omega,by show j+1<=1+nn;omega,o2,hU2.skip,by show es2.length+(i+1)<=i*6+(j+1);omega,a1s,fun v v1 v2 v3=>by rcases v3 with v3|⟨v3,v4⟩;exact zV v v1 v2 (.inl v3);by_cases e:v=j;subst e;rw[hq v3]at h4;cases h4;exact zV v v1 v2 (.inr ⟨v3,aA⟩)⟩⟩
  ·replace h3:=oDf h3;have hjn:j=1+nn:=aA;exact⟨(i+1,w2,es2),by show 1+nn-(i+1)<1+nn-i;omega,(Hn (j5 rfl aA) rfl rfl rfl),⟨l2,by show i+1<=1+nn;omega,o2,hU2.row,by show es2.length<=(i+1)*6;omega,a1s,fun v v1 v2 v3=>zV v v1 v2 aA⟩⟩
 ·replace qU:=oDf qU;exact d4 rfl ⟨l1,w,es,rfl,o1.se,⟨aA,aA,aA,fun e he=>⟨(hU.2 e he).1,hed e he⟩,hU.1⟩,fun v v1 v2=>hpe v v1 v2 (by have:=Ul (ps:=ps) v1;omega)⟩
def b9t (h:D21 H a b c ps ls ms) {i:Nat} (h2:i<1000000):Con prog 75 [Je nn kk a b c,ii (i:Nat)] H fun r H'=>H'=H/\∃x:Nat,r=ii (x:Nat)/\x<256:=by
 refine g5 mixed c5E ?_;refine b4 (h.one nn kk) ?_;refine Dc Nl rfl rfl h.la rfl ?_;refine b9 (b9 ?_);refine g6 (b:=decide (((i:Nat):Int)<(ls.length:Nat))) rfl (fun hl=> ?_) (fun hl=> ?_)
 ·replace hl:=oDt hl;have yU:i<ls.length:=aA;have hx:ls[i]? =some ls[i]:=aG yU;have h8:=h.l8 _ (dL yU);refine Ac Nl rfl rfl rfl rfl aF h.la hx rfl aF fun _=> ?_;refine b9 ?_;exact d4 (show D prog _ _=_ from Kq rfl h8) ⟨rfl,_,rfl,h8⟩
 ·replace hl:=oDf hl;exact d4 rfl ⟨rfl,0,rfl,aC⟩
def c5O {p:List Nat} {x:Nat}:r6 p++[((x:Nat):Int)]=r6 (p++[x]):=by unfold r6;rw[bM];rfl
set_option maxHeartbeats 1000000 in
def b9u (h:D21 H a b c ps ls ms) (hnn:nn<6):Con prog 23 [Je nn kk a b c] H fun r H'=>Pl H H'/\∃u p k,r= .tuple #[u,ii ((k:Nat):Int)]/\SI H' u (r6 p)/\PlD ps 4 p k/\p.length=1+nn:=by
 refine g5 mixed c5G ?_;have hn9:1+nn%9=1+nn:=aA;have hk4:=cI kk (show 0<4 by decide);refine b4 (h.one nn kk) ?_;refine jo z6 (a:=0) rfl rfl rfl fun v1 H1 l1 o1 _=> ?_;refine b9 ?_;refine r7 (α:=Nat×Value×List Nat) (fun⟨k,u,p⟩=>[ii (k:Nat),u,ii (p.length:Nat)]) (fun⟨k,u,p⟩=>fun H'=>Pl H H'/\SO H H' 3 1 (fun z:Int=>[ii z]) u (r6 p)/\PlD ps (1+kk%4) p k/\p.length<=1+nn) (fun⟨k,u,p⟩=>1+nn-p.length) ((1,v1,[0])) rfl (⟨l1,o1,PlD.one aA,by show 1<=1+nn;omega⟩) fun⟨k,u,p⟩ H' hQ=> ?_;obtain⟨l2,o2,hP,tQ⟩:=hQ;have h2:=h.mono l2;have wU:=hP.p0;refine j9 (de h2) rfl ?_;rw[hn9];refine b9 (b9 ?_);refine g6 (b:=decide (((p.length:Nat):Int)<((1+nn:Nat):Int))) rfl (fun h=> ?_) (fun h=> ?_)
 ·replace h:=oDt h;have qB:p.length<1+nn:=aA;refine j9 (VM (i:=p.length) h2 wU aA) rfl ?_;have hpa:=Ul (ps:=ps) wU;refine Ac z6 rfl rfl rfl rfl aF o2.se (EA hpa) rfl aF fun _=> ?_;refine⟨(fun l H''=>H''=H'/\∃q:Bool,l=[.bool q]/\(q=true->k<1+kk%4)),?_,?_⟩
  ·skip
   refine f0 (b9t (i:=p.length) h2 aA) rfl ?_;rintro _ H' ⟨rfl,x,rfl,hx⟩;refine nmI ?_;refine b9 ?_;refine g6 (b:=_) rfl (fun h5=> ?_) (fun h5=> ?_)
   ·skip
    refine b9 ?_;exact⟨rfl,decide (((k:Nat):Int)<((1+kk%4:Nat):Int)),p6 (by show Value.bool (decide (((k:Nat):Int)<intOf (D prog _ (.op2 .add .i64 _ _))))=_;rw[EM (m:=4) (mi:=4) rfl rfl aC aC];rfl),fun e=>by have:=oDt e;omega⟩
   ·skip
    exact⟨rfl,false,rfl,fun e=>nomatch e⟩
  rintro _ H' _ ⟨rfl,q,rfl,hq⟩;simp only[cA,nA];refine⟨(fun l H''=>H''=H'/\∃x k':Nat,l=[ii (x:Nat),ii (k':Nat)]/\PlD ps (1+kk%4) (p++[x]) k'),?_,?_⟩
  ·skip
   refine b9 ?_;refine g6 (b:=q) rfl (fun h5=> ?_) (fun h5=> ?_)
   ·skip
    refine b9 ?_;exact⟨rfl,k,k+1,i0 rfl (j5 rfl (by have:=hP.km;omega)),hP.new (hq h5)⟩
   ·skip
    exact⟨rfl,_,k,rfl,hP.old⟩
  rintro _ H' _ ⟨rfl,x,k',rfl,hP'⟩;simp only[cA,nA];refine Cf z6 rfl rfl rfl aF aF l2 o2 (by rw[Qn];omega) rfl aF rfl fun q3 u3 H3 l3 o3=> ?_;rw[c5O]at o3;exact⟨(k',u3,p++[x]),by show 1+nn-(p++[x]).length<1+nn-p.length;rw[aL];simp only[aP,bX];omega,(By rfl rfl (by rw[j5 rfl aA];show ii _=ii _;rw[aL];rfl)),⟨l3,o3,hP',by show(p++[x]).length<=1+nn;rw[aL];simp only[aP,bX];omega⟩⟩
 ·replace h:=oDf h;exact d4 rfl ⟨l2,u,p,k,rfl,o2.se,⟨hP.k1,by have:=hP.km;omega,hP.p0,hP.lt,hP.use,hP.can,hP.len,hP.par⟩,aA⟩
end
end Go.Z
namespace Go.RX
open RowKit
def VN:∀l:List UInt8,(l.map (·.toNat)).flatMap (fun c:Nat=>[Value.int .u8 (c:Nat)])=l.map bv
 |[]=>rfl
 |a::l=>by rw[bI,List.flatMap_cons,VN l];rfl
def VO {P:Program} {H:PH} {o:Oper} {x:Operand} {src dst e:TypeId} {v:Value} {vs:List Value} {l:List UInt8} {m:List Nat} (hm:m=l.map (·.toNat)) (ho:o.op= .convert src dst x) (hx:e8 [x] vs x=v) (hs:P.underlying src=some (.slice e)) (he:P.underlying e=some (.int .u8)) (hd:P.underlying dst=some .string) (h:SE H 1 (fun c:Nat=>[Value.int .u8 (c:Nat)]) v m):Rds P o vs H (st l):=by
 subst hm;refine F9 ho hx hs he hd ?_;unfold SE at h;rw[aR,VN]at h;exact h
def Xx {A B:PH} {b:Nat} (h:Pl A B) (hb:B b=none):A b=none:=by
 cases e:A b with
 |none=>rfl
 |some o=>rw[h _ _ e]at hb;cases hb
section
variable {P:Program} {T e:TypeId} {sz:Nat} {ag:Bool} {α:Type} {ce:α->List Value} {ve:α->Value} (E:El P T e sz ag ce ve)
variable {G Xp:Value->PH->Prop} {nx:List (List Value->PH->Prop)} {ρ:List Value} {H:PH} {o:Oper} {id i:Nat} {args:List SV} {t:Tree} {l:List α} {vs:List Value}
include E
def pg {N:Nat} {parts:Array (Nat×Operand)} (hl:l.length=N) (h0:0<N) (hN:N<=1000) (ho:o.op= .buildSlice T N parts) (hp:parts.toList.map (fun p=>(p.1,e8 (parts.toList.map (·.2)) vs p.2))=(l.zipIdx 0).map fun p=>(p.2,ve p.1)) (ha:args.map (D P ρ)=vs)
  (n:∀v H',Pl H H'->SO H H' e sz ce v l->den P G Xp t nx (ρ++[v]) H'):den P G Xp (.mk id i o args t) nx ρ H:=by
 obtain⟨ti,zv,h1,h2,h3,h4,h5⟩:=E.inf;have rS:=E.pos;have hsm:=E.small;have hb:N*sz<=1000*1000:=eH hN hsm;have hNp:0<N*sz:=Nat.mul_pos h0 rS;refine⟨fun b=> .slice (some ⟨b,0,none⟩) N N,.cells (l.flatMap ce).toArray e (0,0),fun w=> ?_,fun b hb=>n _ _ (PH.le_put hb _) (Vt E hb hl (by simp only[maxLen];omega) aD)⟩;have qE:o.op.operands.toList=parts.toList.map (·.2):=by simp[ho,Op.operands]
 have hf:Instr.fill (fun j=>some (j*ti.size,ti.size)) ((Array.range (N*ti.size)).map (zv.cells[· %zv.cells.size]!)) (parts.toList.map fun p=>(p.1,e8 (parts.toList.map (·.2)) vs p.2))=some (l.flatMap ce).toArray:=by
  rw[h3,hp,gh _ _ _ fun p hp=> ?_]
  ·rw[LU E.len E.cells,bV,gd (by rw[Jt E.len,hl];simp)]
  ·simp only[aZ,Prod.exists]at hp;obtain⟨a,k,hk,rfl⟩:=hp;have rA:=List.mem_zipIdx hk;refine⟨k*sz,sz,rfl,(E.vcells a).1,?_⟩;have:(k+1)*sz<=N*sz:=bC _ aA;rw[dC,cQ]at this;simpa using this
 have hr:=run_buildSlice (P:=P) w T e N (parts.map fun(j,x)=>(j,e8 (parts.toList.map (·.2)) vs x)) (l.flatMap ce).toArray ti zv E.und h1 h2 (by rw[h3];omega) (by rw[h3];omega) (by rw[dR];exact hf);rw[qE,ha];simp only[execOp,ho,eK,hr,eJ,eL]
def EN {kl kc:IntKind} {x y:Operand} {m:Nat} {z:α} (hz:j3 P e=ve z) (hc:(madeCells (ve z).cells (m*sz)).toList=(eS m z).flatMap ce) (ho:o.op= .makeSlice T x y) (hx:e8 [x,y] [.int kl (m:Nat),.int kc (m:Nat)] x= .int kl (m:Nat)) (hy:e8 [x,y] [.int kl (m:Nat),.int kc (m:Nat)] y= .int kc (m:Nat)) (hm:m<=1000) (ha:args.map (D P ρ)=[.int kl (m:Nat),.int kc (m:Nat)])
  (n:∀v H',Pl H H'->SO H H' e sz ce v (eS m z)->den P G Xp t nx (ρ++[v]) H'):den P G Xp (.mk id i o args t) nx ρ H:=by
 obtain⟨ti,zv,h1,h2,h3,h4,h5⟩:=E.inf;have hzv:zv=ve z:=by
  rw[<-hz];unfold j3;rw[h1];simp[h2]
 subst hzv;refine⟨fun b=> .slice (some ⟨b,0,none⟩) m m,.cells (madeCells (ve z).cells (m*sz)) e (0,0),fun w=> ?_,fun b hb=>n _ _ (PH.le_put hb _) (Vt E hb aD (by simp only[maxLen];omega) hc)⟩;have qE:o.op.operands.toList=[x,y]:=by simp[ho,Op.operands]
 have rO:(ti.bytes:Int)*(m:Int)<=281474976710656:=by
  have h5:=eH h5 hm;have h:((ti.bytes*m:Nat):Int)<=281474976710656:=aA
  rwa[eA]at h
 have hr:=run_make (P:=P) w T e ti (ve z) E.und h1 h2 kl kc (m:Int) (m:Int) aA (kM _) rO aA;simp only[bU,h3]at hr;rw[qE,ha];simp only[execOp,ho,hx,hy,eK,hr,eJ,eL]
end
end Go.RX
namespace Go.GS
def d232:Dm:=⟨2,3,2⟩
def Af (xs:List Nat) (k:Nat):Nat:=if xs.length=0 then 1 else xs.getD (k%xs.length) 0
def e1u {xs:List Nat} (h:∀x∈xs,x<256) (k:Nat):Af xs k<256:=by
 unfold Af;split
 ·decide
 ·rename_i h0;have:=cI k (nO h0);rw[aJ,aG this];exact h _ (dL this)
def leI (a b:Int):Int:=if b<a then b else a
def VP {a b m:Int} (ha:0<=a) (hb:0<=b) (h:b<=m):0<=leI a b/\leI a b<=b/\leI a b<=m:=by unfold leI;split<;>omega
def Ia (xs:List Nat) (n s:Nat) (most:Int):List Int:=(eO n).map fun i=>leI ((Af xs (s+i):Nat):Int) most
def VQ {xs:List Nat} {n s:Nat} {most:Int} (h:0<=most):∀z∈Ia xs n s most,0<=z/\z<=most:=fun z hz=>by
 obtain⟨i,_,rfl⟩:=aZ.1 hz;exact⟨(VP (eC _) h (kM _)).1,(VP (eC _) h (kM _)).2.1⟩
def c5P {xs:List Nat} {n s:Nat} {most:Int}:Ia xs n s most++[leI ((Af xs (s+n):Nat):Int) most]=Ia xs (n+1) s most:=by
 unfold Ia;rw[gU,bM];rfl
def Qp (xs:List Nat) (s n:Nat):List Int:=(eO n).map fun j=>((Af xs (s+j)%3:Nat):Int)
def c5Q {xs:List Nat} {n s:Nat}:Qp xs s n++[((Af xs (s+n)%3:Nat):Int)]=Qp xs s (n+1):=by
 unfold Qp;rw[gU,bM];rfl
def nmU (i:Nat):List UInt8:=[117,UInt8.ofNat (97+i%26),UInt8.ofNat (97+i/26%26)]
def unF (xs:List Nat) (i:Nat):Un:=⟨nmU i,((Af xs (9*i):Nat):Int),Ia xs 2 (9*i+1) ((Af xs (9*i):Nat):Int),Ia xs 3 (9*i+3) 255,Qp xs (9*i+7) 2,false⟩
def Xy:Un:=⟨[115,101,97],0,[0,0],[0,0,0],[0,0],true⟩
def usF (xs:List Nat) (n w:Nat):List Un:=(eO n).map (unF xs)++eS w Xy
def EO {xs:List Nat} {n w:Nat}:(usF xs n w).length=n+w:=by simp[usF]
def EP {xs:List Nat} {n w i:Nat} {x:Un} (h:(usF xs n w)[i]? =some x):x=if i<n then unF xs i else Xy:=by
 unfold usF at h;by_cases hi:i<n
 ·rw[aM (by simpa using hi),aX,cP hi]at h
  injection h with h
  rw[if_pos hi,<-h]
 ·rw[aN (by simpa using hi),aR,List.length_range]at h;rw[if_neg hi];exact List.eq_of_mem_replicate (aK h)
def d0R:∀i:Fin 6,Go.Lib.trimS (nmU i.val) Wy=[]:=aC
def e1w:∀n:Fin 7,∀w:Fin 2,(((eO n.val).map nmU)++eS w.val [115,101,97]).Nodup:=aC
def d7M {xs:List Nat} (h8:∀x∈xs,x<256) {n w:Nat} (h1:1<=n) (h6:n<=6) (hw:w<2):RoV d232 n (usF xs n w):=by
 have rV:∀x∈usF xs n w,(∃i,i<n/\x=unF xs i)\/x=Xy:=fun x hx=>by
  obtain⟨i,hi⟩:=dB hx;have:=EP hi;by_cases h:i<n
  ·rw[if_pos h]at this;exact .inl ⟨i,h,this⟩
  ·rw[if_neg h]at this;exact .inr this
 refine⟨aC,aC,aC,h1,by rw[EO];omega,by rw[EO];omega,fun x hx=> ?_,fun i x hx=> ?_,?_⟩
 ·rcases rV x hx with⟨i,hi,rfl⟩|rfl
  ·have hb:=e1u h8 (9*i);refine⟨by unfold unF nmU;simp,by unfold unF nmU;simp,d0R ⟨i,aA⟩,eC _,?_,by simp[unF,Ia,d232],fun z hz=>VQ (eC _) z hz,by simp[unF,Ia,d232],fun z hz=> ?_,by simp[unF,Qp,d232],fun z hz=> ?_⟩
   ·show((Af xs (9*i):Nat):Int)<=1000000000;omega
   ·have:=VQ aC z hz;show 0<=z/\z<=1000000000;omega
   ·obtain⟨j,_,rfl⟩:=aZ.1 hz;have:=cI (Af xs (9*i+7+j)) (show 0<3 by decide);show 0<=_/\_<=(63:Int);omega
  ·refine⟨aC,aC,aC,aC,aC,aC,aC,aC,aC,aC,aC⟩
 ·rw[EP hx];by_cases h:i<n
  ·rw[if_pos h,decide_eq_false aA];rfl
  ·rw[if_neg h,oDd aA];rfl
 ·have:=e1w ⟨n,aA⟩ ⟨w,hw⟩;unfold usF;rw[bM,dO,List.map_replicate];exact this
end Go.GS
namespace Go.Z
open Proofs.Tryz RowKit RX GS RZ WD
def Nn (g p l w:Nat) (s:Value):Value:= .agg #[.int .u8 (g:Nat),.int .u8 (p:Nat),.int .u8 (l:Nat),.int .u8 (w:Nat),s]
def pq {s:Value} (h:y6 s=true) (g p l w:Nat):(Nn g p l w s).cells.size=5/\j0 (Nn g p l w s).cells:=by
 refine⟨rfl,fun x hx=> ?_⟩;rw[Nn,Gh]at hx;simp only[bG,cF,or_false]at hx;rcases hx with rfl|rfl|rfl|rfl|rfl
 ·rfl
 ·rfl
 ·rfl
 ·rfl
 ·exact h
def st_one (l:List UInt8):(st l).cells.size=1/\j0 (st l).cells:=⟨rfl,fun c hc=>by simp[st,Value.cells]at hc;subst hc;rfl⟩
def EQ:Ag prog 90 6:=⟨aB,aB,aB⟩
def e1x:FA prog 90 2 2:=⟨aB,oDt aB,aB,aB,oDt aB⟩
def e1y:FA prog 90 3 3:=⟨aB,oDt aB,aB,aB,oDt aB⟩
def VR:FA prog 90 4 4:=⟨aB,oDt aB,aB,aB,oDt aB⟩
def VS:prog.underlying 22=some (.slice 5):=aB
def VT:prog.underlying 5=some (.int .u8):=aB
def VU:(j3 prog 90).cells= #[st [],ii 0,.slice none 0 0,.slice none 0 0,.slice none 0 0,.bool false]:=aB
def e1z:(j3 prog 34).cells= #[.slice none 0 0]:=aB
def ER {ρ:List Value} {x:SV} {a m:Nat} {mi:Int} (hx:D prog ρ x= .int .u8 (a:Nat)) (hmi:mi=(m:Nat)) (hm:m<1000) (h0:0<m):D prog ρ (.cv .i64 (.op2 .rem .u8 x (.k (.int .u8 mi))))=ii ((a%m:Nat):Int):=by
 subst hmi;show Value.int .i64 (wQ .i64 (lR (intOf (D prog ρ x)) (m:Nat)))=_;rw[hx];show Value.int .i64 (wQ .i64 (lR ((a:Nat):Int) (m:Nat)))=_;rw[<-kJ];have:=cI a h0;congr 1;rw[IntKind.wrap_i64];omega
def dh {ρ:List Value} {x y:SV} {a b:Nat} (hx:D prog ρ x=ii (a:Nat)) (hy:D prog ρ y=ii (b:Nat)) (h:a+b<1000000000):D prog ρ (.op2 .add .i64 x y)=ii ((a+b:Nat):Int):=by
 rw[Hm hx hy aA aA];rfl
def di {ρ:List Value} {x y:SV} {a b:Nat} (hx:D prog ρ x=ii (a:Nat)) (hy:D prog ρ y=ii (b:Nat)) (h:a*b<1000000000):D prog ρ (.op2 .mul .i64 x y)=ii ((a*b:Nat):Int):=by
 show w9 .mul .i64 (intOf (D prog ρ x)) (intOf (D prog ρ y))=_;rw[hx,hy];show Value.int .i64 (wQ .i64 (((a:Nat):Int)*((b:Nat):Int)))=_;rw[<-eA];congr 1;rw[IntKind.wrap_i64];omega
section
variable {H:PH} {s:Value} {xs:List Nat} {g p l w:Nat}
def pu (hs:SE H 1 cU8 s xs) (h8:∀x∈xs,x<256) {k:Nat}:Asks prog 125 [Nn g p l w s,ii (k:Nat)] H (ii ((Af xs k:Nat):Int)):=by
 refine g5 mixed c5H ?_;refine b4 (pq (t8 hs) g p l w) ?_;refine m9 Nl hs ?_;refine b9 ?_;refine y5 (p:=(xs.length=0)) (bE0 _) (fun h0=> ?_) fun h0=> ?_
 ·exact d4 rfl ⟨rfl,by unfold Af;rw[if_pos h0];rfl⟩
 ·refine m9 Nl hs ?_;refine b9 (b9 ?_);refine b4 (show((xs.length:Nat):Int)≠0 by omega) ?_;have hm:=cI k (nO h0);have hx:xs[k%xs.length]? =some xs[k%xs.length]:=aG hm;refine Ac Nl rfl rfl rfl rfl aF hs hx (i0 rfl (Hz rfl rfl)) aF fun _=> ?_;refine b9 ?_;exact d4 (show D prog _ _=_ from Kq rfl (h8 _ (dL hm))) ⟨rfl,by unfold Af;rw[if_neg h0,aJ,hx];rfl⟩
def VV (hs:SE H 1 cU8 s xs) (h8:∀x∈xs,x<256) {n a:Nat} {most:Int} (hn:n<=1000) (ha:a<=1000000):Con prog 126 [Nn g p l w s,ii (n:Nat),ii (a:Nat),ii most] H fun r H'=>Pl H H'/\SO H H' 3 1 (fun z:Int=>[ii z]) r (Ia xs n a most):=by
 refine g5 mixed c5I ?_;refine b4 (pq (t8 hs) g p l w) ?_;refine r7 (α:=Nat×Value) (fun⟨i,u⟩=>[u,ii (i:Nat)]) (fun⟨i,u⟩=>fun H'=>i<=n/\Pl H H'/\SO H H' 3 1 (fun z:Int=>[ii z]) u (Ia xs i a most)) (fun⟨i,u⟩=>n-i) ((0,.slice none 0 0)) rfl (⟨bK _,Pl.refl _,SO.nil _ _ _ _ _⟩) fun⟨i,u⟩ H' hQ=> ?_;obtain⟨hi,l1,o1⟩:=hQ;refine b9 (b9 ?_);refine g6 (b:=decide (((i:Nat):Int)<(n:Nat))) rfl (fun h=> ?_) (fun h=> ?_)
 ·replace h:=oDt h;have qL:i<n:=aA;refine b9 ?_;refine j9 (pu (k:=a+i) (hs.mono l1) h8) (i0 rfl (dh rfl rfl aA)) ?_;refine j8 ((ic (vs:=[ii ((Af xs (a+i):Nat):Int),ii most]) rfl rfl rfl).rds _) rfl ?_;refine Cf el_int rfl rfl rfl aF aF l1 o1 (by simp[Ia];omega) rfl aF rfl fun q2 u3 H3 l3 o3=> ?_;have o4:SO H H3 3 1 (fun z:Int=>[ii z]) u3 (Ia xs (i+1) a most):=by rw[<-c5P];exact o3
  exact⟨(i+1,u3),by show n-(i+1)<n-i;omega,(i0 rfl (j5 rfl aA)),⟨by show i+1<=n;omega,l3,o4⟩⟩
 ·replace h:=oDf h;have qL:i=n:=aA;subst qL;exact d4 rfl ⟨l1,o1⟩
structure UnO (A H:PH) (u:UC) (x:Un):Prop where
 name:u.name=x.name
 ppl:u.ppl=x.ppl
 wat:u.wat=x.wat
 grp:SO A H 3 1 (fun z:Int=>[ii z]) (vs u.grp) x.grp
 vot:SO A H 3 1 (fun z:Int=>[ii z]) (vs u.vot) x.vot
 par:SO A H 3 1 (fun z:Int=>[ii z]) (vs u.par) x.par
def UnO.mono {A H H':PH} {u:UC} {x:Un} (h:UnO A H u x) (hl:Pl H H'):UnO A H' u x:=⟨h.name,h.ppl,h.wat,h.grp.mono hl,h.vot.mono hl,h.par.mono hl⟩
def UnO.r {A H:PH} {u:UC} {x:Un} (h:UnO A H u x):UnR H u x:=⟨h.name,h.ppl,h.wat,h.grp.se,h.vot.se,h.par.se⟩
def Qq:(3:TypeId)≠90:=aC
def UnO.other {A H X:PH} {u:UC} {x:Un} (h:UnO A H u x) (hk:∀k,(∀cs,H k≠some (.cells cs 90 (0,0)))->X k=H k):UnO A X u x:=⟨h.name,h.ppl,h.wat,Pv h.grp hk Qq,Pv h.vot hk Qq,Pv h.par hk Qq⟩
def unC (nm:List UInt8) (pp:Int) (a b c:Value):Array Value:= #[st nm,ii pp,a,b,c,.bool false]
def VW {ρ:List Value} {a b:SV} {nm:List UInt8} {pp:Int} (ha:D prog ρ a=st nm) (hb:D prog ρ b=ii pp):D prog ρ (.put (.cat a 1 (.cat (.z 3) 1 (.cat (.z 39) 1 (.cat (.z 39) 1 (.cat (.z 39) 1 (.z 4)))))) 1 1 b 0 noI)= .agg (unC nm pp (.slice none 0 0) (.slice none 0 0) (.slice none 0 0)):=by
 simp only[D,ha,hb,DD,UZ,UY];rfl
def dj:j3 prog 3=ii 0:=aB
def px {ρ:List Value} {x y:SV} {n:Nat} {a b:Value} (hx:D prog ρ x=a) (hy:D prog ρ y=b):D prog ρ (.cat x n y)= .agg (a.cells++b.cells):=by
 show Value.agg ((D prog ρ x).cells++(D prog ρ y).cells)=_;rw[hx,hy]
def e3z {ρ:List Value} {a b c:SV} {s1 s2 s3:Slc} (ha:D prog ρ a=vs s1) (hb:D prog ρ b=vs s2) (hc:D prog ρ c=vs s3):D prog ρ (.cat (.k (.string ⟨#[115,101,97]⟩)) 1 (.cat (.z 3) 1 (.cat (.sub (.put (.cat a 1 (.cat (.z 39) 1 (.cat (.z 39) 1 (.k (.bool true))))) 1 1 b 0 noI) 0 2 0 noI) 2 (.cat c 1 (.sub (.put (.cat a 1 (.cat (.z 39) 1 (.cat (.z 39) 1 (.k (.bool true))))) 1 1 b 0 noI) 3 1 0 noI)))))=veU ⟨[115,101,97],0,s1,s2,s3,true⟩:=by
 have e1:D prog ρ (.put (.cat a 1 (.cat (.z 39) 1 (.cat (.z 39) 1 (.k (.bool true))))) 1 1 b 0 noI)= .agg #[vs s1,vs s2,.slice none 0 0,.bool true]:=by
  simp only[D,ha,hb,DD];rfl
 have e2:D prog ρ (.sub (.put (.cat a 1 (.cat (.z 39) 1 (.cat (.z 39) 1 (.k (.bool true))))) 1 1 b 0 noI) 0 2 0 noI)= .agg #[vs s1,vs s2]:=by
  show Value.agg ((D prog ρ (.put _ 1 1 b 0 noI)).cells.extract (0+0*t6 (D prog ρ noI)) (0+0*t6 (D prog ρ noI)+2))=_;rw[e1,bV];rfl
 have e3:D prog ρ (.sub (.put (.cat a 1 (.cat (.z 39) 1 (.cat (.z 39) 1 (.k (.bool true))))) 1 1 b 0 noI) 3 1 0 noI)= .agg #[.bool true]:=by
  show Value.agg ((D prog ρ (.put _ 1 1 b 0 noI)).cells.extract (3+0*t6 (D prog ρ noI)) (3+0*t6 (D prog ρ noI)+1))=_;rw[e1,bV];rfl
 have ez:D prog ρ (.z 3)=ii 0:=dj;have e4:veU ⟨[115,101,97],0,s1,s2,s3,true⟩=Value.agg #[.string ⟨#[115,101,97]⟩,ii 0,vs s1,vs s2,vs s3,.bool true]:=rfl;rw[e4];have hsv:(Value.string ⟨#[115,101,97]⟩).cells= #[.string ⟨#[115,101,97]⟩]:=rfl;generalize Value.string ⟨#[115,101,97]⟩=sv at*;refine(px (a:=sv) rfl (px ez (px e2 (px hc e3)))).trans ?_;rw[hsv];rfl
def VX {ρ:List Value} {x y:SV} {u v:Value} (hx:D prog ρ x=rov d232 u) (hy:D prog ρ y=v) (hc:v.cells= #[v]):D prog ρ (.cat (.sub x 0 3 0 noI) 3 y)=rov d232 v:=by
 show Value.agg ((Value.agg ((D prog ρ x).cells.extract (0+0*t6 (D prog ρ noI)) (0+0*t6 (D prog ρ noI)+3))).cells++(D prog ρ y).cells)=_;rw[hx,hy,hc,bV];rfl
def py {ρ:List Value} {x:SV} {a:Nat} (hx:D prog ρ x=ii (a:Nat)) (ha:a<26):D prog ρ (.cv .u8 (.op2 .add .i64 (.k (.int .i64 97)) x))= .int .u8 ((97+a:Nat):Int):=by
 show Value.int .u8 (IntKind.u8.wrap (wQ .i64 (97+intOf (D prog ρ x))))=_;rw[hx];show Value.int .u8 (IntKind.u8.wrap (wQ .i64 (97+((a:Nat):Int))))=_;rw[show wQ .i64 (97+((a:Nat):Int))=((97+a:Nat):Int) by rw[IntKind.wrap_i64];omega,show IntKind.u8.wrap ((97+a:Nat):Int)=((97+a:Nat):Int) by rw[IntKind.wrap_u8];omega]
def VY {ρ:List Value} {x:SV} {a:Nat} (hx:D prog ρ x=ii (a:Nat)) (ha:a<1000):D prog ρ (.op2 .quo .i64 x (.k (.int .i64 26)))=ii ((a/26:Nat):Int):=by
 show w9 .quo .i64 (intOf (D prog ρ x)) 26=_;rw[hx];show Value.int .i64 (wQ .i64 (Int.tdiv ((a:Nat):Int) ((26:Nat):Int)))=_;rw[<-Int.ofNat_tdiv];congr 1;rw[IntKind.wrap_i64];omega
def VZ (i:Nat):[97+i%26,97+i/26%26]=[UInt8.ofNat (97+i%26),UInt8.ofNat (97+i/26%26)].map (·.toNat):=by
 have h1:=cI i (show 0<26 by decide);have h2:=cI (i/26) (show 0<26 by decide);have e:∀x,x<256->(UInt8.ofNat x).toNat=x:=fun x hx=>by rw[UInt8.toNat_ofNat'];exact dV hx
 rw[bI,bI,bR,e _ aA,e _ aA]
def Xz {H H':PH} {b:Nat} {ob:Obj} (h:Pl H H') (hb:H b=none):Pl H (H'.put b ob):=PH.le_put_of h hb
set_option maxHeartbeats 2000000 in
def b9v (hs:SE H 1 cU8 s xs) (h8:∀x∈xs,x<256) {n wa:Nat} (hn:n<=6):Con prog 77 [Nn 2 3 2 wa s,ii (n:Nat)] H fun r H'=>Pl H H'/\∃u,r=rov d232 u/\RoR H' u (usF xs n (wa%2)):=by
 refine g5 mixed c5J ?_;obtain⟨zr,hzr⟩:∃zr,j3 prog 36=zr:=⟨_,rfl⟩;refine b4 (pq (t8 hs) 2 3 2 wa) ?_;refine b9 (b9 (b9 ?_));refine r7 (α:=Nat×Value×List UC) (fun⟨i,u,l⟩=>[ii (i:Nat),Nn 2 3 2 wa s,zr,rov d232 u]) (fun⟨i,u,l⟩=>fun H'=>Pl H H'/\i<=n/\l.length=i/\SO H H' 90 6 ceU u l/\∀(j:Nat) uc,l[j]? =some uc->UnO H H' uc (unF xs j)) (fun⟨i,u,l⟩=>n-i) ((0,.slice none 0 0,[])) (by refine Hn rfl rfl hzr ?_;show Value.agg (_++(Value.agg (_++(Value.agg (_++(j3 prog 34).cells)).cells)).cells)=_;rw[e1z];rfl) (⟨Pl.refl _,bK _,rfl,SO.nil _ _ _ _ _,fun j uc h=>by simp at h⟩) fun⟨i,u,l⟩ H' hQ=> ?_;simp only[cA,nA];obtain⟨l1,qL,uO,o1,hU⟩:=hQ;have tA:=hs.mono l1;refine b9 (b9 ?_);refine g6 (b:=decide (((i:Nat):Int)<(n:Nat))) rfl (fun tJ=> ?_) (fun tJ=> ?_)
 ·replace tJ:=oDt tJ;have hi3:i<n:=aA;have tY:=cI i (show 0<26 by decide);have wV:=cI (i/26) (show 0<26 by decide);refine⟨(fun l' K=>∃b,l'=[.pointer (some ⟨b,0,none⟩)]/\H' b=none/\Pl H' K/\K b=some (.cells (unC (nmU i) ((Af xs (9*i):Nat):Int) (.slice none 0 0) (.slice none 0 0) (.slice none 0 0)) 90 (0,0))),?_,?_⟩
  ·skip
   refine⟨?_,?_⟩
   ·skip
    refine pg Nl (N:=2) (l:=[97+i%26,97+i/26%26]) (vs:=[.int .u8 ((97+i%26:Nat):Int),.int .u8 ((97+i/26%26:Nat):Int)]) rfl aC aC rfl rfl (i0 (py (Hz rfl rfl) tY) (py (Hz (VY rfl aA) rfl) wV)) fun v6 G1 g1 o6=> ?_;simp only[cA,nA];refine j8 ((VO (vs:=[v6]) (VZ i) rfl rfl VS VT ax o6.se)) rfl ?_;simp only[cA,nA];refine j8 ((II (l:=[117]) (m:=[UInt8.ofNat (97+i%26),UInt8.ofNat (97+i/26%26)]) (vs:=[st [117],st [UInt8.ofNat (97+i%26),UInt8.ofNat (97+i/26%26)]]) rfl rfl rfl aD).rds _) rfl ?_;simp only[cA,nA];refine j9 (pu (k:=9*i) (tA.mono g1) h8) (i0 rfl (di (a:=9) rfl rfl aA)) ?_;simp only[cA,nA];refine b4 (st_one _) ?_;refine b4 (el_int.vcells _) ?_;refine o0 (cs:= #[st [],ii 0,.slice none 0 0,.slice none 0 0,.slice none 0 0,.bool false]) VU fun b hb=> ?_;simp only[cA,nA];refine Sz (vs:=(unC (nmU i) ((Af xs (9*i):Nat):Int) (.slice none 0 0) (.slice none 0 0) (.slice none 0 0)).toList) EQ rfl rfl rfl (PH.put_self _ _ _) rfl (by intro c hc;simp[unC]at hc;rcases hc with rfl|rfl|rfl|rfl|rfl|rfl<;>rfl) (i0 rfl (VW (nm:=nmU i) rfl rfl)) (fun h=>(nomatch h)) ?_;simp only[cA,nA];exact⟨b,rfl,Xx g1 hb,Xz (Xz g1 (Xx g1 hb)) (Xx g1 hb),PH.put_self _ _ _⟩
   ·skip
    refine j9 (pu (k:=9*i) tA h8) (i0 rfl (di (a:=9) rfl rfl aA)) ?_;simp only[cA,nA];refine pg Nl (N:=2) (l:=[97+i%26,97+i/26%26]) (vs:=[.int .u8 ((97+i%26:Nat):Int),.int .u8 ((97+i/26%26:Nat):Int)]) rfl aC aC rfl rfl (i0 (py (Hz rfl rfl) tY) (py (Hz (VY rfl aA) rfl) wV)) fun v7 G1 g1 o6=> ?_;simp only[cA,nA];refine j8 ((VO (vs:=[v7]) (VZ i) rfl rfl VS VT ax o6.se)) rfl ?_;simp only[cA,nA];refine j8 ((II (l:=[117]) (m:=[UInt8.ofNat (97+i%26),UInt8.ofNat (97+i/26%26)]) (vs:=[st [117],st [UInt8.ofNat (97+i%26),UInt8.ofNat (97+i/26%26)]]) rfl rfl rfl aD).rds _) rfl ?_;simp only[cA,nA];refine b4 (st_one _) ?_;refine b4 (el_int.vcells _) ?_;refine o0 (cs:= #[st [],ii 0,.slice none 0 0,.slice none 0 0,.slice none 0 0,.bool false]) VU fun b hb=> ?_;simp only[cA,nA];refine Sz (vs:=(unC (nmU i) ((Af xs (9*i):Nat):Int) (.slice none 0 0) (.slice none 0 0) (.slice none 0 0)).toList) EQ rfl rfl rfl (PH.put_self _ _ _) rfl (by intro c hc;simp[unC]at hc;rcases hc with rfl|rfl|rfl|rfl|rfl|rfl<;>rfl) (i0 rfl (VW (nm:=nmU i) rfl rfl)) (fun h=>(nomatch h)) ?_;simp only[cA,nA];exact⟨b,rfl,Xx g1 hb,Xz (Xz g1 (Xx g1 hb)) (Xx g1 hb),PH.put_self _ _ _⟩
  rintro _ K1 _ ⟨b,rfl,hb,lK1,hK1⟩;simp only[cA,nA];refine g8 oa ?_;simp only[cA,nA];refine g9 (u:=ii ((Af xs (9*i):Nat):Int)) sc_int rfl rfl hK1 rfl rfl ?_;simp only[cA,nA];refine f0 (VV (n:=2) (a:=9*i+1) (most:=((Af xs (9*i):Nat):Int)) (tA.mono lK1) h8 aC aA) (Hn rfl rfl (dh (di (a:=9) rfl rfl aA) (b:=1) rfl aA) rfl) ?_;rintro g1 K2 ⟨l2,o2⟩;refine nmI ?_;simp only[cA,nA];obtain⟨s2,rfl⟩:=Lx o2.se;refine g8 e1x ?_;simp only[cA,nA];refine Bq (u:=vs s2) Dt rfl rfl rfl (l2 _ _ hK1) (by show 0+2<6;decide) rfl rfl rfl (fun h=>(nomatch h)) ?_;simp only[cA,nA];change den _ _ _ _ _ _ (K2.put b (.cells (unC (nmU i) ((Af xs (9*i):Nat):Int) (vs s2) (.slice none 0 0) (.slice none 0 0)) 90 (0,0)));have o3:=(Ej (o2.less lK1) (l2 _ _ hK1) Qq).mono (PH.cut_put K2 b (.cells (unC (nmU i) ((Af xs (9*i):Nat):Int) (vs s2) (.slice none 0 0) (.slice none 0 0)) 90 (0,0)));have l3:=Xz (ob:= .cells (unC (nmU i) ((Af xs (9*i):Nat):Int) (vs s2) (.slice none 0 0) (.slice none 0 0)) 90 (0,0)) (lK1.trans l2) hb;have hK3:=PH.put_self K2 b (.cells (unC (nmU i) ((Af xs (9*i):Nat):Int) (vs s2) (.slice none 0 0) (.slice none 0 0)) 90 (0,0));generalize K2.put b (.cells (unC (nmU i) ((Af xs (9*i):Nat):Int) (vs s2) (.slice none 0 0) (.slice none 0 0)) 90 (0,0))=K3 at o3 l3 hK3⊢;refine f0 (VV (n:=3) (a:=9*i+3) (most:=255) (tA.mono l3) h8 aC aA) (Hn rfl rfl (dh (di (a:=9) rfl rfl aA) (b:=3) rfl aA) rfl) ?_;rintro g2 K4 ⟨l4,o4⟩;refine nmI ?_;simp only[cA,nA];obtain⟨s4,rfl⟩:=Lx o4.se;refine g8 e1y ?_;simp only[cA,nA];refine Bq (u:=vs s4) Dt rfl rfl rfl (l4 _ _ hK3) (by show 0+3<6;decide) rfl rfl rfl (fun h=>(nomatch h)) ?_;simp only[cA,nA];change den _ _ _ _ _ _ (K4.put b (.cells (unC (nmU i) ((Af xs (9*i):Nat):Int) (vs s2) (vs s4) (.slice none 0 0)) 90 (0,0)));have o5:=Ej (o4.less l3) (l4 _ _ hK3) Qq;have o3:=Ej (o3.mono l4) (l4 _ _ hK3) Qq;have pY:=PH.le_cut (lK1.trans (l2.trans (Pl.refl _))) hb;have lcut:Pl H' (K4.cut b):=PH.le_cut (l3.trans l4) hb;have hcb:=PH.cut_self K4 b;refine r7 (α:=Nat×Value) (fun⟨k,pv⟩=>[ii (k:Nat)]) (fun⟨k,pv⟩=>fun K=>k<=2/\Pl (K4.cut b) K/\K b=some (.cells (unC (nmU i) ((Af xs (9*i):Nat):Int) (vs s2) (vs s4) pv) 90 (0,0))/\SO (K4.cut b) K 3 1 (fun z:Int=>[ii z]) pv (Qp xs (9*i+7) k)) (fun⟨k,pv⟩=>2-k) ((0,.slice none 0 0)) rfl (⟨bK _,PH.cut_put K4 b _,PH.put_self _ _ _,SO.nil _ _ _ _ _⟩) fun⟨k,pv⟩ K wX=> ?_;simp only[cA,nA];obtain⟨tL,lK,hKb,oP⟩:=wX;obtain⟨sp,rfl⟩:=Lx oP.se;refine b9 (b9 ?_);refine g6 (b:=decide (((k:Nat):Int)<2)) rfl (fun zU=> ?_) (fun zU=> ?_)
  ·replace zU:=oDt zU;refine g8 VR ?_;simp only[cA,nA];refine g9 (u:=vs sp) Dt rfl rfl hKb rfl rfl ?_;simp only[cA,nA];refine j9 (pu (k:=9*i+7+k) (tA.mono (lcut.trans lK)) h8) (i0 rfl (dh (dh (di (a:=9) rfl rfl aA) (b:=7) rfl aA) rfl aA)) ?_;simp only[cA,nA];obtain⟨X,x1,x2,x3,x4⟩:=It oP lK;refine b9 ?_;refine Cf el_int rfl rfl rfl aF aF x2 x3 (by simp[Qp];omega) (p6 (Hz rfl rfl)) aF rfl fun q p' K5 lX oX=> ?_;simp only[cA,nA];obtain⟨sq,rfl⟩:=Lx oX.se;have hK5:=lX _ _ ((x4 b (fun cs=>by rw[hKb];simp only[ne_eq,cN,Obj.cells.injEq,not_and];intro _ e;exact absurd e.symm Qq)).trans hKb);refine g8 VR ?_;simp only[cA,nA];refine Bq (u:=vs sq) Dt rfl rfl rfl hK5 (by show 0+4<6;decide) rfl rfl rfl (fun h=>(nomatch h)) ?_;simp only[cA,nA];change den _ _ _ _ _ _ (K5.put b (.cells (unC (nmU i) ((Af xs (9*i):Nat):Int) (vs s2) (vs s4) (vs sq)) 90 (0,0)));have oY:SO (K4.cut b) K5 3 1 (fun z:Int=>[ii z]) (vs sq) (Qp xs (9*i+7) (k+1)):=by rw[<-c5Q];exact oX.less x1
   exact⟨(k+1,vs sq),by show 2-(k+1)<2-k;omega,(p6 (j5 rfl aA)),⟨by show k+1<=2;omega,Xz (x1.trans lX) hcb,PH.put_self _ _ _,(Ej oY hK5 Qq).mono (PH.cut_put _ _ _)⟩⟩
  ·replace zU:=oDf zU;have tL:k=2:=aA;subst tL;refine x5 (vs:=(unC (nmU i) ((Af xs (9*i):Nat):Int) (vs s2) (vs s4) (vs sp)).toList) EQ rfl rfl hKb rfl (by show 0+6<=6;decide) rfl ?_;simp only[cA,nA];have lHK:Pl H K:=l1.trans (lcut.trans lK);obtain⟨X,y1,y2,y3,y4⟩:=It (o1.mono (lcut.trans lK)) lHK;refine Cf Cb rfl rfl rfl aF aF y2 y3 aA (show _=[veU ⟨nmU i,((Af xs (9*i):Nat):Int),s2,s4,sp,false⟩]from rfl) aF rfl fun q u' K7 l7 o7=> ?_;simp only[cA,nA];have a1t:UnO H K7 ⟨nmU i,((Af xs (9*i):Nat):Int),s2,s4,sp,false⟩ (unF xs i):=((⟨rfl,rfl,rfl,(o3.mono lK).less l1,(o5.mono lK).less l1,oP.less (l1.trans lcut)⟩:UnO H K ⟨nmU i,((Af xs (9*i):Nat):Int),s2,s4,sp,false⟩ (unF xs i)).other y4).mono l7;refine b4 (o7.se.one) ?_;exact⟨(i+1,u',l++[⟨nmU i,((Af xs (9*i):Nat):Int),s2,s4,sp,false⟩]),by show n-(i+1)<n-i;omega,(Hn (j5 rfl aA) rfl rfl (VX rfl rfl o7.se.cells)),⟨y1.trans l7,by show i+1<=n;omega,by show(l++[_]).length=i+1;rw[aL,uO];rfl,o7.less y1,fun j uc hj=>by rcases dU j l.length with h|h;rw[aM h]at hj;exact(((hU j uc hj).mono (lcut.trans lK)).other y4).mono l7;have hj1:j=i:=(by have:=(aH.1 hj).1;simp at this;omega);subst hj1;rw[aN h,uO,dS]at hj;injection hj with hj;subst hj;exact a1t⟩⟩
 ·replace tJ:=oDf tJ;have hie:i=n:=aA;subst hie;refine r7 (α:=Nat×Value×List UC) (fun⟨j,u2,l2⟩=>[ii (j:Nat),rov d232 u2]) (fun⟨j,u2,l2⟩=>fun K=>Pl H K/\j<=wa%2/\l2.length=i+j/\SO H K 90 6 ceU u2 l2/\∀(m:Nat) uc,l2[m]? =some uc->UnO H K uc (if m<i then unF xs m else Xy)) (fun⟨j,u2,l2⟩=>wa%2-j) ((0,u,l)) rfl (⟨l1,bK _,aA,o1,fun m uc hm=>by rw[if_pos (by have:=(aH.1 hm).1;omega)];exact hU m uc hm⟩) fun⟨j,u2,l2⟩ K wX=> ?_;simp only[cA,nA];obtain⟨lK,vM,tO,oK,hUK⟩:=wX;refine b9 (b9 ?_);refine y5 (p:=(((j:Nat):Int)<((wa%2:Nat):Int))) (by show Value.bool (decide (_<intOf (D prog _ (.cv .i64 (.op2 .rem .u8 _ _)))))=_;rw[ER (m:=2) (mi:=2) (a:=wa) rfl rfl aC aC];rfl) (fun hj3=> ?_) fun hj3=> ?_
  ·refine EN el_int (m:=2) dj aB rfl rfl rfl aC rfl fun v8 G1 g1 q1=> ?_;simp only[cA,nA];refine EN el_int (m:=3) dj aB rfl rfl rfl aC rfl fun v9 G2 g2 q2=> ?_;simp only[cA,nA];refine EN el_int (m:=2) dj aB rfl rfl rfl aC rfl fun v10 G3 g3 q3=> ?_;simp only[cA,nA];obtain⟨s8,rfl⟩:=Lx q1.se;obtain⟨s9,rfl⟩:=Lx q2.se;obtain⟨s10,rfl⟩:=Lx q3.se;refine b4 (Uc rfl rfl) ?_;refine b4 (Uc rfl rfl) ?_;refine b4 (Uc rfl rfl) ?_;have gg:=g1.trans (g2.trans g3);obtain⟨X,y1,y2,y3,y4⟩:=It (oK.mono gg) (lK.trans gg);refine Cf Cb rfl rfl rfl aF aF y2 y3 aA (p6 (e3z rfl rfl rfl)) aF rfl fun q u' K7 l7 o7=> ?_;simp only[cA,nA];have a1t:UnO H K7 ⟨[115,101,97],0,s8,s9,s10,true⟩ Xy:=((⟨rfl,rfl,rfl,(q1.mono (g2.trans g3)).less lK,(q2.mono g3).less (lK.trans g1),q3.less (lK.trans (g1.trans g2))⟩:UnO H G3 ⟨[115,101,97],0,s8,s9,s10,true⟩ Xy).other y4).mono l7;refine b4 (o7.se.one) ?_;exact⟨(j+1,u',l2++[⟨[115,101,97],0,s8,s9,s10,true⟩]),by show wa%2-(j+1)<wa%2-j;omega,(i0 (j5 rfl aA) (VX rfl rfl o7.se.cells)),⟨y1.trans l7,by show j+1<=wa%2;omega,by show(l2++[_]).length=i+(j+1);rw[aL,tO];rfl,o7.less y1,fun m uc hm=>by rcases dU m l2.length with h|h;rw[aM h]at hm;exact(((hUK m uc hm).mono gg).other y4).mono l7;have hj1:m=i+j:=(by have:=(aH.1 hm).1;simp at this;omega);rw[if_neg aA];rw[aN h,tO,hj1,dS]at hm;injection hm with hm;subst hm;exact a1t⟩⟩
  ·have hje:j=wa%2:=aA;exact d4 rfl ⟨lK,u2,rfl,l2,oK.se,by rw[EO];omega,fun m uc x hm hx=>by rw[EP hx];exact(hUK m uc hm).r⟩
end
end Go.Z

/- Trees of functions. -/
import Derived.Test.YtmannekkmdockaaGreatDoorGyF
open Int renaming tmod->lC
open List renaming length_drop->eU
open Nat renaming sub_lt->pP,two_pow_pos->iQ
open Go.IntKind renaming wrap->wQ
namespace Go.Z
open Proofs.Tryz RowKit RX
set_option maxRecDepth 100000
theorem c5a:tree prog [] [] [⟨0,3,[],[]⟩] [⟨5,[0,1,0,7,15,31,0,64,0,448,960,1984,63,8191],[0,5,0,1,1,1,0,5,0,1,1,1,0,0],[0,0,0,0,0,0,0,0,0,0,0,0,0,0],[0,1,2,3,4,5,6,7,8,9,10,11,12,13],[]⟩] 169=some (.cq 2 V0
(.loop [(.ki 0),(.ki 0)]
(.pm f169 3 3 [(.cn V0 1)]
(.ri V4
(.ri V5
(.br (.io .lss V4 V5)
(.pm f169 5 3 [(.cn V0 1),V4]
(.pm f169 5 4 [V6,(.ki 0)]
(.pm f169 5 5 [V7]
(.pm f169 5 9 [(.cn V0 1),V4]
(.pm f169 5 10 [V9,(.ki 1)]
(.pm f169 5 11 [V10]
(.cf 139 [V1,V8]
(.rb V12
(.br V12
(.cf 139 [V2,V11]
(.rb V13
(.br V13
(.ri V3
(.next 0 [(.io .add V3 (.ki 1)),(.io .add V4 (.ki 1))]))
(.cf 139 [V1,V11]
(.rb V14
(.br V14
(.cf 139 [V2,V8]
(.rb V15
(.br V15
(.ri V3
(.next 0 [(.io .add V3 (.ki 1)),(.io .add V4 (.ki 1))])) (.next 0 [V3,(.io .add V4 (.ki 1))])))) (.next 0 [V3,(.io .add V4 (.ki 1))])))))))
(.cf 139 [V1,V11]
(.rb V13
(.br V13
(.cf 139 [V2,V8]
(.rb V14
(.br V14
(.ri V3
(.next 0 [(.io .add V3 (.ki 1)),(.io .add V4 (.ki 1))])) (.next 0 [V3,(.io .add V4 (.ki 1))])))) (.next 0 [V3,(.io .add V4 (.ki 1))]))))))))))))) (.ret [V3]))))))):=aB
theorem c5b:tree prog [] [] [⟨0,3,[],[]⟩,⟨0,6,[],[]⟩] [] 97=some (.loop [(.k (.slice none 0 0)),(.ki 0)]
(.ri V2
(.ri V0
(.br (.io .lss V2 V0) (.loop [V1,(.io .add V2 (.ki 1))]
(.ri V4
(.br (.io .lss V4 V0)
(.cq 1 V2
(.cq 1 V4
(.ef false f97 8 4 [(.pn (.pn (.z 99) 0 1 V2) 1 1 V4)]
(.ef false f97 8 5 [V3,V5]
(.next 1 [V6,(.io .add V4 (.ki 1))]))))) (.next 0 [V3,(.io .add V2 (.ki 1))])))) (.ret [V1]))))):=aB
theorem c5c:tree prog [] [] [⟨0,3,[],[]⟩] [] 170=some (.cq 2 V1
(.loop [(.k (.slice none 0 0)),(.ki 0)]
(.pm f170 3 2 [V0]
(.ri V4
(.ri V5
(.br (.io .lss V4 V5)
(.pm f170 5 2 [V0,V4]
(.pm f170 5 3 [V6]
(.ri V7
(.rq (.int .i64 (.cn V1 0)) (.br (.io .eql V7 (.cn V1 0))
(.cf 139 [V2,V4]
(.rb V8
(.br V8
(.ef false f170 10 2 [(.cn V1 0)]
(.ef false f170 10 3 [V3,V9]
(.next 0 [V10,(.io .add V4 (.ki 1))])))
(.ef false f170 10 2 [(.cn V1 1)]
(.ef false f170 10 3 [V3,V9]
(.next 0 [V10,(.io .add V4 (.ki 1))])))))) (.rq (.int .i64 (.cn V1 1)) (.br (.io .eql V7 (.cn V1 1))
(.cf 139 [V2,V4]
(.rb V8
(.br V8
(.ef false f170 10 2 [(.cn V1 0)]
(.ef false f170 10 3 [V3,V9]
(.next 0 [V10,(.io .add V4 (.ki 1))])))
(.ef false f170 10 2 [(.cn V1 1)]
(.ef false f170 10 3 [V3,V9]
(.next 0 [V10,(.io .add V4 (.ki 1))]))))))
(.ef false f170 10 2 [V7]
(.ef false f170 10 3 [V3,V8]
(.next 0 [V9,(.io .add V4 (.ki 1))]))))))))))
(.cf 54 [V3]
(.tq 0 V6
(.tq 1 V6
(.ret [(.pj V6 0)])))))))))):=aB
theorem c5d:tree prog [] [] [] [⟨1,[0,0,2,7,0,0,32,127,255,511],[0,0,5,2,0,0,5,2,0,0],[0,0,0,0,0,0,0,0,0,0],[0,1,2,4,5,6,3,7,8,9],[]⟩] 164=some (.cq 2 V1
(.ct 161 [V0,(.cn V1 0)]
(.ct 161 [V0,(.cn V1 1)]
(.ru V2
(.ru V3
(.ret [(.uo .or V2 V3)])))))):=aB
end Go.Z
namespace Go.RX
open RowKit
theorem Ib {P:Program} {ρ:List Value} {x y:SV} {n:Nat} {a b:Value} (hx:D P ρ x=a) (hy:D P ρ y=b):D P ρ (.cat x n y)= .agg (a.cells++b.cells):=by
 show Value.agg ((D P ρ x).cells++(D P ρ y).cells)=_;rw[hx,hy]
theorem Nw {P:Program} {ρ:List Value} {x:SV} {o n:Nat} {a:Value} (hx:D P ρ x=a):D P ρ (.sub x o n 0 noI)= .agg (a.cells.extract o (o+n)):=by
 show Value.agg ((D P ρ x).cells.extract (o+0*t6 (D P ρ noI)) (o+0*t6 (D P ρ noI)+n))=_;rw[hx,cD];rfl
end Go.RX
namespace Go.Z
open Proofs.Tryz RowKit RX GS
def c8 (c:Nat):List Value:=[.int .u8 (c:Nat)]
theorem ol:El prog 26 5 1 false c8 (fun c:Nat=> .int .u8 (c:Nat)) where
 und:=aB
 has:=aB
 cel:=aB
 agg:=aB
 pos:=aC
 one1:=fun _=>rfl
 small:=aC
 inf:=⟨(prog.info? 5).getD default,.int .u8 0,aB,aB,aB,rfl,oDt aB⟩
 len:=fun _=>rfl
 val:=fun _=>rfl
 cells:=fun _=>rfl
 one:=fun x c hc=>by simp[c8]at hc;subst hc;rfl
def cv (a b c:Nat) (s w cu:Value) (k s0 s1 tr:Nat):Value:= .agg #[.int .u8 (a:Nat),.int .u8 (b:Nat),.int .u16 (c:Nat),s,w,cu,.int .u8 (k:Nat),.int .u8 (s0:Nat),.int .u8 (s1:Nat),.int .u8 (tr:Nat)]
theorem QX {s w cu:Value} (h:Dm s=true) (h2:Dm w=true) (h3:Dm cu=true) (a b c k s0 s1 tr:Nat):(cv a b c s w cu k s0 s1 tr).cells.size=10/\o0 (cv a b c s w cu k s0 s1 tr).cells:=by
 refine⟨rfl,fun x hx=> ?_⟩;rw[cv,Fj]at hx;simp only[aP,bP,or_false]at hx;rcases hx with rfl|rfl|rfl|rfl|rfl|rfl|rfl|rfl|rfl|rfl<;>first|rfl|assumption
theorem d5g {ρ:List Value} {x:SV} {a b c:Nat} {s w cu:Value} {k s0 s1 tr:Nat} (hx:D prog ρ x=cv a b c s w cu k s0 s1 tr) (hs:s.cells= #[s]):
  D prog ρ (.cat (.op2 .rem .u8 (.cell (.sub x 0 4 0 noI) 0 0 noI) (.k (.int .u8 3))) 1 (.sub (.sub x 0 4 0 noI) 1 3 0 noI))=dv ((a%3:Nat):Int) b c s:=by
 have h1:D prog ρ (.sub x 0 4 0 noI)=dv (a:Nat) b c s:=by
  show Value.agg ((D prog ρ x).cells.extract (0+0*t6 (D prog ρ noI)) (0+0*t6 (D prog ρ noI)+4))=_;rw[hx,cD];rfl
 have h2:D prog ρ (.cell (.sub x 0 4 0 noI) 0 0 noI)= .int .u8 (a:Nat):=by
  show(D prog ρ (.sub x 0 4 0 noI)).cells.getD (0+0*t6 (D prog ρ noI)) undef=_;rw[h1,cD];rfl
 have h3:D prog ρ (.op2 .rem .u8 (.cell (.sub x 0 4 0 noI) 0 0 noI) (.k (.int .u8 3)))= .int .u8 ((a%3:Nat):Int):=by
  show Aa .rem .u8 (intOf (D prog ρ (.cell (.sub x 0 4 0 noI) 0 0 noI))) 3=_;rw[h2];rfl
 show Value.agg ((D prog ρ (.op2 .rem .u8 (.cell (.sub x 0 4 0 noI) 0 0 noI) (.k (.int .u8 3)))).cells++((D prog ρ (.sub x 0 4 0 noI)).cells.extract (1+0*t6 (D prog ρ noI)) (1+0*t6 (D prog ρ noI)+3)))=_;rw[h3,h1,cD];rfl
theorem Qg {ρ:List Value} {x y:SV} {wts u:Value} {lo hi k:Int} (hx:D prog ρ x=u) (hy:D prog ρ y=bv wts lo hi k) (hc:u.cells= #[u]):D prog ρ (.cat x 1 (.sub y 1 3 0 noI))=bv u lo hi k:=by
 show Value.agg ((D prog ρ x).cells++((D prog ρ y).cells.extract (1+0*t6 (D prog ρ noI)) (1+0*t6 (D prog ρ noI)+3)))=_;rw[hx,hy,hc,cD];rfl
theorem d8t {ρ:List Value} {x y z:SV} {wts:Value} {lo hi k lo' qB:Int} (hx:D prog ρ x=bv wts lo hi k) (hy:D prog ρ y=ii lo') (hz:D prog ρ z=ii qB):
  D prog ρ (.cat (.sub x 0 1 0 noI) 1 (.cat y 1 (.cat z 1 (.sub (.sub x 2 2 0 noI) 1 1 0 noI))))=bv wts lo' qB k:=by
 have h1:D prog ρ (.sub x 0 1 0 noI)= .agg #[wts]:=by
  show Value.agg ((D prog ρ x).cells.extract (0+0*t6 (D prog ρ noI)) (0+0*t6 (D prog ρ noI)+1))=_;rw[hx,cD];rfl
 have h2:D prog ρ (.sub (.sub x 2 2 0 noI) 1 1 0 noI)= .agg #[ii k]:=by
  show Value.agg ((Value.agg ((D prog ρ x).cells.extract (2+0*t6 (D prog ρ noI)) (2+0*t6 (D prog ρ noI)+2))).cells.extract (1+0*t6 (D prog ρ noI)) (1+0*t6 (D prog ρ noI)+1))=_;rw[hx,cD];rfl
 show Value.agg ((D prog ρ (.sub x 0 1 0 noI)).cells++(Value.agg ((D prog ρ y).cells++(Value.agg ((D prog ρ z).cells++(D prog ρ (.sub (.sub x 2 2 0 noI) 1 1 0 noI)).cells)).cells)).cells)=_;rw[h1,h2,hy,hz];rfl
theorem om {ρ:List Value} {x y:SV} {c m:Nat} (hx:D prog ρ x= .int .u8 (c:Nat)) (hc:c<256) (hy:D prog ρ y=ii (m:Nat)):D prog ρ (.op2 .rem .i64 (.cv .i64 x) y)=ii ((c%m:Nat):Int):=by
 show Aa .rem .i64 (wQ .i64 (intOf (D prog ρ x))) (intOf (D prog ρ y))=_;rw[hx,hy];show Value.int .i64 (lC (wQ .i64 ((c:Nat):Int)) ((m:Nat):Int))=_;rw[show wQ .i64 ((c:Nat):Int)=((c:Nat):Int) by rw[IntKind.wrap_i64];omega,<-Int.ofNat_tmod];rfl
theorem e1w:r8 prog 32= .slice none 0 0:=aB
theorem e1x {ρ:List Value} {y:SV} {k:Int} (hy:D prog ρ y=ii k):D prog ρ (.cat (.z 32) 1 (.cat (.z 3) 1 (.cat (.z 3) 1 y)))=bv (.slice none 0 0) 0 0 k:=by
 show Value.agg ((r8 prog 32).cells++(Value.agg ((r8 prog 3).cells++(Value.agg ((r8 prog 3).cells++(D prog ρ y).cells)).cells)).cells)=_;rw[e1w,Vd,hy];rfl
theorem c9F:∀n:Fin 10,card (2^n.val-1)=n.val:=aC
theorem d5h {n x:Nat}:bit (2^n-1) x=decide (x<n):=Nat.testBit_two_pow_sub_one n x
def It:List (Nat×Nat):=[(0,1),(0,2),(1,3),(2,3)]
theorem c9G:GV 4 It:=⟨aC,aC,aC,aC,by unfold It elt;simp⟩
theorem c9H:Cn It 15:=by
 have hb:∀x,bit 15 x=decide (x<4):=fun x=>d5h (n:=4);have h0:Rch It 15 0 0:= .base;have h1:Rch It 15 0 1:= .step h0 (by simp[adj,It]) (by rw[hb];rfl);have h2:Rch It 15 0 2:= .step h0 (by simp[adj,It]) (by rw[hb];rfl);have h3:Rch It 15 0 3:= .step h1 (by simp[adj,It]) (by rw[hb];rfl);refine⟨0,by rw[hb];rfl,fun y hy=> ?_⟩;rw[hb]at hy;have hy:=oDt hy
 match y,hy with
 |0,_=>exact h0
 |1,_=>exact h1
 |2,_=>exact h2
 |3,_=>exact h3
def e0s (H:PH) (r:Value):Prop:=∃(n:Nat) (w:Value) (es:List (Nat×Nat)) (wts:Value) (wl:List Int) (lo hi:Int) (k:Nat) (u:Value) (p:List Int),
 r= .tuple #[gv n w,bv wts lo hi (k:Nat),u]/\SG H w es/\GV n es/\n<=9/\Cn es (2^n-1)/\SI H wts wl/\wl.length=n/\1<=k/\k<=4/\SI H u p/\p.length=n/\∀x∈p,0<=x/\x<8
section
variable {H:PH} {s wv cu:Value} {more:List (Nat×Nat)} {wl0 cuts:List Nat} {da db dc dk s0 s1 tr:Nat}
set_option maxHeartbeats 4000000 in
theorem c0k (hs:SE H 2 bc s more) (hwv:SE H 1 c8 wv wl0) (hcu:SE H 1 c8 cu cuts) (wS:∀c∈cuts,c<256) (wG:tr<256):Con prog 8 [cv da db dc s wv cu dk s0 s1 tr] H fun r H'=>Pl H H'/\e0s H' r:=by
 refine i9 mixed c3Z ?_;refine d4 (QX (u0 hs) (u0 hwv) (u0 hcu) _ _ _ _ _ _ _) ?_;refine d9 ?_;refine g9 (c0j (da:=da%3) (db:=db) (dc:=dc) hs) (z8 (d5g rfl hs.cells)) ?_;rintro _ H1 ⟨l1,w0,es0,rfl,o1,rZ⟩;refine nmI ?_;simp only[cA,nA];have hn9:(1+da%3%4)*(1+db%3)<=9:=bU (show 1+da%3%4<=3 by omega) (show 1+db%3<=3 by omega);generalize (1+da%3%4)*(1+db%3)=n0 at rZ hn9;have vV:=rZ.n1;have rT:2^n0-1<2^n0:=pP (iQ n0) aC;have hpM:2^n0<M64:=Aq aA;refine d4 (t8 o1.se) ?_;refine y8 (Jl (n:=n0) aA) rfl ?_;simp only[cA,nA];have hD1:∀ρ,D prog ρ (.v 2)=uv (2^n0)->D prog ρ (.op2 .sub .u64 (.v 2) (.k (.int .u64 1)))=uv (2^n0-1):=fun ρ h=>Zg (B:=1) h rfl hpM (iQ n0);refine d9 ?_;refine y9 (zt o1.se rZ rT) (i7 rfl (hD1 _ rfl)) fun H2 l2=> ?_;simp only[cA,nA];refine d9 ?_;refine⟨(fun l H'=>Pl H H'/\∃n w es,l=[uv (2^n-1),gv n w]/\SG H' w es/\GV n es/\n<=9/\Cn es (2^n-1)),?_,?_⟩
 ·skip
  refine g7 (b:= !cnB es0 (2^n0-1)) rfl (fun h=> ?_) (fun h=> ?_)
  ·skip
   refine Fp el_edge (l:=It) (vs:=[ev2 (0,1),ev2 (0,2),ev2 (1,3),ev2 (2,3)]) rfl aC aC rfl rfl (Hz (Ky (a:=0) (b:=1) rfl rfl) (Ky (a:=0) (b:=2) rfl rfl) (Ky (a:=1) (b:=3) rfl rfl) (Ky (a:=2) (b:=3) rfl rfl)) fun v H4 l4 o4 _=> ?_;simp only[cA,nA];refine d4 o4.se.one ?_;exact⟨(l1.trans l2).trans l4,4,v,It,i7 rfl (by show Value.agg (#[ii 4]++v.cells)=_;rw[o4.se.cells];rfl),o4.se,c9G,aC,c9H⟩
  ·skip
   exact⟨l1.trans l2,n0,w0,es0,i7 (hD1 _ rfl) rfl,o1.se.mono l2,rZ,hn9,cnB_iff.1 (by simpa using h)⟩
 rintro _ H3 _ ⟨l3,n,w,es,rfl,hw,hg,hn,hC⟩;simp only[cA,nA];have vV:=hg.n1;have hes:=hg.len;have a3g:=c9F ⟨n,aA⟩;simp only at a3g;have qC:2^n-1≠0:=by have:=aR (n:=2) aC vV;omega
 have rT:2^n-1<2^n:=pP (iQ n) aC;refine g9 (c0g hw hg rT qC aA) rfl ?_;rintro v6 H4 ⟨l4,sl,⟨o6,a5p,hsl⟩,a0p⟩;refine nmI ?_;simp only[cA,nA];have zH:0<sl.length:=List.length_pos_iff.2 (a0p hC);refine d9 ?_;refine Ji Nq rfl rfl o6.se rfl ?_;refine d9 ?_;refine d4 (show((sl.length:Nat):Int)≠0 by omega) ?_;have htm:tr%sl.length<sl.length:=cO _ zH;have hsa:=aJ htm;refine Ey Nq rfl rfl rfl rfl aE o6.se hsa (i7 rfl (om rfl wG rfl)) aE fun _=> ?_;simp only[cA,nA];obtain⟨t0,ot,hT⟩:=a5p _ (aG hsa);have htl:=hT.len;refine d9 (d9 ?_);refine⟨(fun l H'=>H'=H4/\∃k:Nat,l=[ii (k:Nat)]/\1<=k/\k<=4/\k<=n),?_,?_⟩
 ·skip
  have hdk:=cO dk (show 0<4 by decide);have hDk:∀ρ:List Value,D prog ρ (.v 0)=cv da db dc s wv cu dk s0 s1 tr->D prog ρ (.op2 .add .i64 (.k (.int .i64 1)) (.cv .i64 (.op2 .rem .u8 (.cell (.v 0) 6 0 noI) (.k (.int .u8 4)))))=ii ((1+dk%4:Nat):Int):=fun ρ h=>oc (m:=4) (mi:=4) (by show(D prog ρ (.v 0)).cells.getD _ undef=_;rw[h];rfl) rfl aC aC;refine j8 (p:=(((1+dk%4:Nat):Int)>(n:Nat))) (by show Value.bool (decide (intOf (D prog _ (.op2 .add .i64 _ _))>_))=_;rw[hDk _ rfl];rfl) (fun h=> ?_) fun h=> ?_
  ·exact⟨rfl,n,rfl,vV,aA,aS _⟩
  ·exact⟨rfl,1+dk%4,z8 (hDk _ rfl),aA,aA,aA⟩
 rintro _ H4 _ ⟨rfl,k,rfl,vM,hk4,rX⟩;simp only[cA,nA];have lH4:=l3.trans l4;refine s8 (α:=List Int×Value×Nat) (fun⟨t,u,i⟩=>[u,ii (i:Nat)]) (fun⟨t,u,i⟩=>fun H'=>Pl H4 H'/\SI H' u t/\i<=k-1/\t.length+1+i=n/\∀z∈t,0<=z/\z.toNat<es.length) (fun⟨t,u,i⟩=>k-i) ((t0,vs sl[tr%sl.length],0)) rfl (⟨Pl.refl _,ot.se,bI _,aA,fun z hz=>⟨(hT.ok z hz).1,(hT.ok z hz).2.1⟩⟩) fun⟨t,u,i⟩ H' hQ=> ?_;simp only[cA,nA];obtain⟨l5,hu,hi,qD,hok⟩:=hQ;have a3h:=hcu.mono (lH4.trans l5);refine d9 (d9 ?_);refine j8 (p:=(((i:Nat):Int)<((k:Nat):Int)-1)) (by show Value.bool (decide (((i:Nat):Int)<wQ .i64 (((k:Nat):Int)-1)))=_;rw[show wQ .i64 (((k:Nat):Int)-1)=((k:Nat):Int)-1 by rw[IntKind.wrap_i64];omega]) (fun h=> ?_) fun h=> ?_
 ·refine j1 ol a3h ?_;refine d9 ?_;refine⟨(fun l H''=>H''=H'/\∃j:Nat,l=[ii (j:Nat)]/\j<t.length),?_,?_⟩
  ·skip
   refine g7 (b:=decide (((i:Nat):Int)<(cuts.length:Nat))) rfl (fun h2=> ?_) (fun h2=> ?_)
   ·replace h2:=oDt h2;have tA:i<cuts.length:=aA;refine j4 ol a3h (aJ tA) fun _=> ?_;simp only[cA,nA];refine d9 ?_;refine j1 el_int hu ?_;refine d9 ?_;refine d4 (show((t.length:Nat):Int)≠0 by omega) ?_;exact⟨rfl,cuts[i]%t.length,z8 (om rfl (wS _ (dS tA)) rfl),cO _ aA⟩
   ·replace h2:=oDf h2;exact⟨rfl,0,rfl,aA⟩
  rintro _ H' _ ⟨rfl,j,rfl,hj⟩;simp only[cA,nA];refine jw el_int rfl rfl fun v15 H6 l6 o6 _=> ?_;simp only[cA,nA];obtain⟨u2,vL,wX⟩:=LF el_int (vs:=[u,ii (j:Nat)]) (k:= .i64) (j:=j) b0j rfl rfl (hu.mono l6) aA;refine j7 (vL.rds _) rfl ?_;simp only[cA,nA];have rN:(t.take j).length<=64:=by rw[bM];omega
  refine Kr el_int rfl rfl rfl l6 o6 wX (by simp only[bX];omega) rfl rfl fun v17 H7 l7 o7 _=> ?_;simp only[cA,nA];obtain⟨u3,hy3,hs3⟩:=yb el_int (vs:=[u,ii ((j+1:Nat):Int)]) (k:= .i64) (j:=j+1) b0k rfl rfl (hu.mono l7) aA;refine d9 ?_;refine j7 (hy3.rds _) (i7 rfl (i6 rfl aA)) ?_;simp only[cA,nA];have tJ:(t.drop (j+1)).length<=64:=by rw[eU];omega
  refine Kr el_int rfl rfl rfl l7 o7 hs3 (by rw[cB];omega) rfl rfl fun v19 H8 l8 o8 _=> ?_;simp only[cA,nA];rw[cB]at o8;have a1c:(t.take j++t.drop (j+1)).length+1+(i+1)=n:=by rw[aM,bM,eU];omega
  have a3i:∀z∈t.take j++t.drop (j+1),0<=z/\z.toNat<es.length:=fun z hz=>hok z ((aQ.1 hz).elim cG List.mem_of_mem_drop);exact⟨(t.take j++t.drop (j+1),v19,i+1),by show k-(i+1)<k-i;omega,(i7 rfl (i6 rfl aA)),⟨l5.trans l8,o8.se,by show i+1<=k-1;omega,a1c,a3i⟩⟩
 ·have uZ:i=k-1:=aA;have hw5:SG H' w es:=hw.mono (l4.trans l5);obtain⟨e,he,hf,h0⟩:∃e:Nat×Nat,e.1<e.2/\(∀y,t[0]? =some y->Ed es y=e/\e.2<n)/\(t=[]->n<=e.1):=by
   cases t with
   |nil=>exact⟨(n,n+1),by show n<n+1;omega,fun y hy=>by simp at hy,fun _=>aS _⟩
   |cons y t=>
    obtain⟨h1,h2⟩:=hok y (List.mem_cons_self ..);have hm:=hg.ed _ (dS h2);have hE:Ed es y=es[y.toNat]:=by unfold Ed;rw[aK,aJ h2];rfl
    exact⟨Ed es y,by rw[hE];exact hm.1,fun z hz=>by simp at hz;subst hz;exact⟨rfl,by rw[hE];exact hm.2⟩,fun h=>nomatch h⟩
  refine g9 (c0h hw5 hg hu hok aA he (fun y hy=>(hf y hy).1) h0) rfl ?_;rintro v13 H9 ⟨l9,p,nx,hp,hL⟩;refine nmI ?_;simp only[cA,nA];have uY:nx<=8:=by
   have h1:=hL.nx;by_cases h9:n=9
   ·have ht:0<t.length:=aA;have:=hL.kb (hf _ (aJ ht)).2;omega
   ·omega
  have qS:=hL.len;have hp8:∀x∈p,0<=x/\x<8:=fun x hx=>by
   obtain⟨y,hy⟩:=cN.1 hx;have hyn:y<n:=by rw[<-qS];exact(aH.1 hy).1
   have h1:=hL.lo y x hy;have h2:=hL.done y x hyn hy;omega
  refine d4 (Kx _) ?_;have lH9:=(lH4.trans l5).trans l9;refine s8 (α:=Nat×Value×List Int) (fun⟨x,wt,wl⟩=>[ii (x:Nat),bv wt 0 0 (k:Nat)]) (fun⟨x,wt,wl⟩=>fun H'=>Pl H9 H'/\x<=n/\SO H9 H' 3 1 (fun z:Int=>[ii z]) wt wl/\wl.length=x) (fun⟨x,wt,wl⟩=>n-x) ((0,.slice none 0 0,[])) (i7 rfl (e1x rfl)) (⟨Pl.refl _,bI _,SO.nil _ _ _ _ _,rfl⟩) fun⟨x,wt,wl⟩ H10 a5q=> ?_;simp only[cA,nA];obtain⟨l10,hx,o10,zC⟩:=a5q;have a3j:=hwv.mono (lH9.trans l10);refine d9 ?_;refine g7 (b:=decide (((x:Nat):Int)<(n:Nat))) rfl (fun h2=> ?_) (fun h2=> ?_)
  ·replace h2:=oDt h2;refine j1 ol a3j ?_;refine d9 ?_;refine⟨(fun l H''=>H''=H10/\∃z:Int,l=[ii z]),?_,?_⟩
   ·skip
    refine g7 (b:=decide (((x:Nat):Int)<(wl0.length:Nat))) rfl (fun h3=> ?_) (fun h3=> ?_)
    ·replace h3:=oDt h3;refine j4 ol a3j (aJ (show x<wl0.length by omega)) fun _=> ?_;simp only[cA,nA];refine d9 ?_;exact⟨rfl,_,rfl⟩
    ·replace h3:=oDf h3;exact⟨rfl,_,rfl⟩
   rintro _ H10 _ ⟨rfl,z,rfl⟩;simp only[cA,nA];refine Dk el_int rfl rfl rfl aE aE l10 o10 aA rfl aE rfl fun q v19 H11 l11 o11=> ?_;simp only[cA,nA];refine d4 o11.se.one ?_;exact⟨(x+1,v19,wl++[z]),by show n-(x+1)<n-x;omega,(i7 (i6 rfl aA) (Qg rfl rfl o11.se.cells)),⟨l11,by show x+1<=n;omega,o11,by show(wl++[z]).length=x+1;rw[aM,zC];rfl⟩⟩
  ·replace h2:=oDf h2;have hxn:x=n:=aA;refine g9 (c0i (lo:=0) (hi:=0) (k:=k) (hp.mono l10) o10.se aA hp8 aA) rfl ?_;rintro _ _ ⟨rfl,a,b,rfl⟩;refine nmI ?_;simp only[cA,nA];refine i8 (i8 (d9 (d9 ?_)));refine j7 ((zo (vs:=[ii 0,ii (wQ .i64 (a-wQ .i64 (lC ((s0:Nat):Int) 6)))]) rfl rfl rfl).rds _) rfl ?_;simp only[cA,nA];have hB:∀(lo':Int) (ρ:List Value),D prog ρ (.v 0)=cv da db dc s wv cu dk s0 s1 tr->D prog ρ (.v 15)=bv wt 0 0 (k:Nat)->D prog ρ (.v 16)= .tuple #[ii a,ii b]->D prog ρ (.v 17)=ii lo'->D prog ρ (.cat (.sub (.v 15) 0 1 0 noI) 1 (.cat (.v 17) 1 (.cat (.op2 .add .i64 (.pj (.v 16) 1) (.cv .i64 (.op2 .rem .u8 (.cell (.v 0) 8 0 noI) (.k (.int .u8 6))))) 1 (.sub (.sub (.v 15) 2 2 0 noI) 1 1 0 noI))))=bv wt lo' (wQ .i64 (b+wQ .i64 (lC ((s1:Nat):Int) 6))) (k:Nat):=fun lo' ρ h0 h1 h2 h3=>d8t h1 h3 (by show Aa .add .i64 (intOf (match D prog ρ (.v 16)with| .tuple vs=>vs.getD 1 undef|_=>undef)) (wQ .i64 (lC (intOf ((D prog ρ (.v 0)).cells.getD (8+0*t6 (D prog ρ noI)) undef)) 6))=_;rw[h0,h2,cD];rfl);refine d9 (d9 ?_);refine d4 (Kx _) ?_;refine d4 (by show(D prog _ (.cat _ 1 (.cat _ 1 (.cat _ 1 _)))).cells.size=4/\_;rw[hB _ _ rfl rfl rfl rfl];exact Cj (u0 o10.se) _ _ _) ?_;exact g6 (by show Value.tuple #[_,D prog _ (.cat _ 1 (.cat _ 1 (.cat _ 1 _))),_]=_;rw[hB _ _ rfl rfl rfl rfl];rfl) ⟨lH9.trans l10,n,w,es,wt,wl,_,_,k,v13,p,rfl,hw5.mono (l9.trans l10),hg,hn,hC,o10.se,aA,vM,hk4,hp.mono l10,qS,hp8⟩
end
end Go.Z
namespace Go.RX
open RowKit
theorem QY {P:Program} {o:Oper} {x y:Operand} {vs:List Value} {t t' e:TypeId} {p:Option Addr} {n c:Nat} (ho:o.op= .binOp .eql t x y t') (hx:g8 [x,y] vs x= .slice p n c) (hy:g8 [x,y] vs y= .slice none 0 0) (hu:P.underlying t=some (.slice e)):Yld P o vs (.bool p.isNone):=fun w=>by
 have qK:o.op.operands.toList=[x,y]:=by simp[ho,Op.operands]
 rw[qK];have h:∀d:Nat,(Op.equalIn (d+1) t (.slice p n c) (.slice none 0 0)).run P w= .ok p.isNone w:=fun d=>by
  cases p<;>simp[Op.equalIn,run_underlying hu]
 have hb:(binOp .eql t (.slice p n c) (.slice none 0 0)).run P w= .ok (.bool p.isNone) w:=by
  simp only[binOp];simp[Op.equal,Op.maxDepth,h 9999]
 simp only[execOp,ho,hx,hy,Sem.run_bind,eqGuard];simp[hb]
end Go.RX
namespace Go.Z
open Proofs.Tryz RowKit RX GS
section
variable {H:PH} {u:Value} {l:List Int}
theorem QZ (hu:SI H u l) (hl:l.length<=1000000):Con prog 45 [u] H fun r H'=>Pl H H'/\SO H H' 3 1 (fun z:Int=>[ii z]) r l:=by
 refine i9 mixed d3o ?_;obtain⟨q1,a,c,rfl,q2,q3,q4⟩:=id hu;refine j7 ((QY (p:=a) (n:=l.length) (c:=c) rfl rfl rfl el_int.und).rds _) rfl ?_;refine d9 ?_;refine g7 (b:=a.isNone) rfl (fun h=> ?_) (fun h=> ?_)
 ·skip
  have h0:l.length=0:=by
   rcases q4 with h|⟨_,_,_,_,_,h,_⟩
   ·exact h
   ·subst h;cases h
  have a0p:l=[]:=aI h0;subst a0p;exact g6 rfl ⟨Pl.refl _,SO.nil _ _ _ _ _⟩
 ·skip
  refine jw el_int rfl rfl fun v2 H1 l1 o1 _=> ?_;refine Kr el_int rfl rfl rfl l1 o1 (hu.mono l1) (by simp only[bX];omega) rfl rfl fun v3 H2 l2 o2 _=> ?_;exact g6 rfl ⟨l2,by rw[cB]at o2;exact o2⟩
theorem RA (hu:SI H u l) (hl:l.length<=1000000):Con prog 18 [u] H fun r H'=>Pl H H'/\SO H H' 3 1 (fun z:Int=>[ii z]) r l:=by
 refine i9 mixed d3p ?_;obtain⟨q1,a,c,rfl,q2,q3,q4⟩:=id hu;refine j7 ((QY (p:=a) (n:=l.length) (c:=c) rfl rfl rfl el_plan.und).rds _) rfl ?_;refine d9 ?_;refine g7 (b:=a.isNone) rfl (fun h=> ?_) (fun h=> ?_)
 ·skip
  have h0:l.length=0:=by
   rcases q4 with h|⟨_,_,_,_,_,h,_⟩
   ·exact h
   ·subst h;cases h
  have a0p:l=[]:=aI h0;subst a0p;exact g6 rfl ⟨Pl.refl _,SO.nil _ _ _ _ _⟩
 ·skip
  refine jw el_plan rfl rfl fun v2 H1 l1 o1 _=> ?_;refine Kr el_plan rfl rfl rfl l1 o1 (hu.mono l1) (by simp only[bX];omega) rfl rfl fun v3 H2 l2 o2 _=> ?_;exact g6 rfl ⟨l2,by rw[cB]at o2;exact o2⟩
end
theorem apart {H H1 H2:PH} {e e':TypeId} {sz sz':Nat} {α β:Type} {ce:α->List Value} {ce':β->List Value} {v v':Value} {l:List α} {l':List β} (h1:SO H H1 e sz ce v l) (h2:SO H1 H2 e' sz' ce' v' l') (l1:Pl H H1) (l12:Pl H1 H2):∃X,Pl H X/\Pl X H2/\SO X H2 e sz ce v l/\SE X sz' ce' v' l':=by
 obtain⟨a1,⟨a2,a3⟩|⟨g,cap,cur,a2,a3,a4,a5,a6,a7,a8⟩⟩:=h1
 ·exact⟨H2,l1.trans l12,Pl.refl _,⟨a1,.inl ⟨a2,a3⟩⟩,h2.se⟩
 ·have hX:Pl (fun b=>if b=g then none else H2 b) H2:=fun b ob hb=>by
   simp only at hb;split at hb
   ·cases hb
   ·exact hb
  refine⟨fun b=>if b=g then none else H2 b,fun b ob hb=> ?_,hX,⟨a1,.inr ⟨g,cap,cur,a2,if_pos rfl,l12 _ _ a4,a5,a6,a7,a8⟩⟩,?_⟩
  ·show(if b=g then none else H2 b)=_;rw[if_neg (fun e=>by subst e;rw[a3]at hb;cases hb)];exact l12 _ _ (l1 _ _ hb)
  ·obtain⟨b1,⟨b2,b3⟩|⟨g',cap',cur',b2,b3,b4,b5,b6,b7,b8⟩⟩:=h2
   ·exact⟨b1,none,0,by rw[b2,b3],aA,by simp[maxLen],.inl b3⟩
   ·refine⟨b1,_,cap',b2,b5,b6,.inr ⟨g',0,cur',e',(0,0),rfl,?_,by rw[cH];exact b8⟩⟩;show(if g'=g then none else H2 g')=_;rw[if_neg (fun e=>by subst e;rw[b3]at a4;cases a4)];exact b4
theorem BI {ρ:List Value} {x:SV} {wts:Value} {lo hi k:Int} (h:D prog ρ x=bv wts lo hi k) (h1:Dm wts=true):(D prog ρ x).cells.size=4/\o0 (D prog ρ x).cells:=by rw[h];exact Cj h1 _ _ _
theorem Kz {ρ:List Value} {a b c:SV} {x y z:Value} (h1:D prog ρ a=x) (h2:D prog ρ b=y) (h3:D prog ρ c=z):Am ([a,b,c].map (D prog ρ))= .tuple #[x,y,z]:=by
 simp only[aN,bJ];rw[h1,h2,h3];rfl
section
variable {ρ:List Value} {x y v:SV} {wts u:Value} {lo hi k z:Int} (hx:D prog ρ x=u) (hy:D prog ρ y=ii z) (hv:D prog ρ v=bv wts lo hi k) (hc:u.cells= #[u])
include hx hy hv hc
omit hx hy hc in
theorem oo:D prog ρ (.sub v 1 3 0 noI)= .agg #[ii lo,ii hi,ii k]:=(Nw hv).trans rfl
theorem RB:D prog ρ (.cat x 1 (.cat y 1 (.sub (.sub v 1 3 0 noI) 1 2 0 noI)))=bv u z hi k:=by
 have h:D prog ρ (.sub (.sub v 1 3 0 noI) 1 2 0 noI)= .agg #[ii hi,ii k]:=(Nw (oo hv)).trans rfl;rw[Ib hx (Ib hy h),hc];rfl
theorem RD:D prog ρ (.cat x 1 (.cat (.sub (.sub v 1 3 0 noI) 0 1 0 noI) 1 (.cat y 1 (.sub (.sub v 1 3 0 noI) 2 1 0 noI))))=bv u lo z k:=by
 have h:D prog ρ (.sub (.sub v 1 3 0 noI) 0 1 0 noI)= .agg #[ii lo]:=(Nw (oo hv)).trans rfl;have h2:D prog ρ (.sub (.sub v 1 3 0 noI) 2 1 0 noI)= .agg #[ii k]:=(Nw (oo hv)).trans rfl;rw[Ib hx (Ib h (Ib hy h2)),hc];rfl
theorem RE:D prog ρ (.cat x 1 (.cat (.sub (.sub v 1 3 0 noI) 0 2 0 noI) 2 y))=bv u lo hi z:=by
 have h:D prog ρ (.sub (.sub v 1 3 0 noI) 0 2 0 noI)= .agg #[ii lo,ii hi]:=(Nw (oo hv)).trans rfl;rw[Ib hx (Ib h hy),hc];rfl
end
def bn (a b:Nat) (z:Int):Value:= .agg #[.int .u8 (a:Nat),.int .u8 (b:Nat),ii z]
def e0t (H:PH) (n:Nat) (r:Value):Prop:=∃(w:Value) (es:List (Nat×Nat)) (wts:Value) (wl:List Int) (lo hi k:Int) (u:Value) (p:List Int),
 r= .tuple #[gv n w,bv wts lo hi k,u]/\SG H w es/\GV n es/\SI H wts wl/\SI H u p/\wl.length<=64/\p.length<=65
section
variable {H:PH} {n:Nat} {w wts u:Value} {es:List (Nat×Nat)} {wl p:List Int} {lo hi k z:Int} {x y:Nat}
set_option maxHeartbeats 2000000 in
theorem c9J (hy:y<256) (hw:SG H w es) (hg:GV n es) (qO:SI H wts wl) (hu:SI H u p) (zC:1<=wl.length) (qS:1<=p.length) (vR:wl.length<=64) (wM:p.length<=64):Con prog 9 [bn x y z,gv n w,bv wts lo hi k,u] H fun r H'=>Pl H H'/\e0t H' n r:=by
 refine i9 mixed d4u ?_;refine d4 ⟨rfl,fun c hc=>by rw[show D prog _ _=bn x y z from rfl,bn,Fj]at hc;simp only[aP,bP,or_false]at hc;rcases hc with rfl|rfl|rfl<;>rfl⟩ ?_;refine d4 (t8 hw) ?_;refine d4 (Cj (u0 qO) _ _ _) ?_;refine g9 (QZ qO aA) rfl ?_;rintro v4 H1 ⟨l1,o1⟩;refine nmI ?_;simp only[cA,nA];refine g9 (RA (hu.mono l1) aA) rfl ?_;rintro v5 H2 ⟨l2,o2⟩;refine nmI ?_;simp only[cA,nA];have l12:=l1.trans l2;obtain⟨X,lX1,lX2,oX,sX⟩:=apart o1 o2 l1 l2;have o1':=o1;have hwH:=hw;have o1:=o1.mono l2;have hw:=hw.mono l12;obtain⟨q1,a1,c1,rfl,_⟩:=id o1.se;obtain⟨q1,a2,c2,rfl,_⟩:=id o2.se;refine d4 o1.se.one ?_;refine d9 ?_;refine g7 (b:=_) rfl (fun h0=> ?_) (fun h0=> ?_)
 ·skip
  refine d4 (Kx _) ?_;refine d4 (BI (RB rfl rfl rfl rfl) rfl) ?_;exact g6 (Kz (x:=gv n w) (y:=bv (.slice a1 wl.length c1) z hi k) rfl (RB rfl rfl rfl rfl) rfl) ⟨l12,w,es,.slice a1 wl.length c1,wl,z,hi,k,.slice a2 p.length c2,p,rfl,hw,hg,o1.se,o2.se,vR,aA⟩
 ·skip
  refine g7 (b:=_) rfl (fun h1=> ?_) (fun h1=> ?_)
  ·skip
   refine d4 (Kx _) ?_;refine d4 (BI (RD rfl rfl rfl rfl) rfl) ?_;exact g6 (Kz (x:=gv n w) (y:=bv (.slice a1 wl.length c1) lo z k) rfl (RD rfl rfl rfl rfl) rfl) ⟨l12,w,es,.slice a1 wl.length c1,wl,lo,z,k,.slice a2 p.length c2,p,rfl,hw,hg,o1.se,o2.se,vR,aA⟩
  ·skip
   refine g7 (b:=_) rfl (fun h2=> ?_) (fun h2=> ?_)
   ·skip
    refine d4 (Kx _) ?_;refine d4 (BI (RE rfl rfl rfl rfl) rfl) ?_;exact g6 (Kz (x:=gv n w) (y:=bv (.slice a1 wl.length c1) lo hi z) rfl (RE rfl rfl rfl rfl) rfl) ⟨l12,w,es,.slice a1 wl.length c1,wl,lo,hi,z,.slice a2 p.length c2,p,rfl,hw,hg,o1.se,o2.se,vR,aA⟩
   ·skip
    refine g7 (b:=_) rfl (fun h3=> ?_) (fun h3=> ?_)
    ·skip
     refine d9 ?_;refine Ji el_int rfl rfl o1.se rfl ?_;refine d9 ?_;refine d4 (show((wl.length:Nat):Int)≠0 by omega) ?_;have hm:y%wl.length<wl.length:=cO _ zC;refine Dp el_int (a:=z) rfl rfl rfl rfl aE aE lX2 oX hm (i7 rfl (om rfl hy rfl)) aE rfl fun q u' H3 l3 o3 _=> ?_;simp only[cA,nA];exact g6 (Kz (x:=gv n w) (y:=bv (.slice a1 wl.length c1) lo hi k) rfl (Qg rfl rfl rfl) rfl) ⟨lX1.trans l3,w,es,.slice a1 wl.length c1,wl.set (y%wl.length) z,lo,hi,k,.slice a2 p.length c2,p,rfl,hwH.mono (lX1.trans l3),hg,o3.se,sX.mono l3,by rw[cJ];exact vR,aA⟩
    ·skip
     refine g7 (b:=_) rfl (fun h4=> ?_) (fun h4=> ?_)
     ·skip
      refine d9 ?_;refine Ji el_plan rfl rfl o2.se rfl ?_;refine d9 ?_;refine d4 (show((p.length:Nat):Int)≠0 by omega) ?_;have hm:y%p.length<p.length:=cO _ qS;refine Dp el_plan (a:=z) rfl rfl rfl rfl aE aE l2 o2 hm (i7 rfl (om rfl hy rfl)) aE rfl fun q u' H3 l3 o3 _=> ?_;simp only[cA,nA];exact g6 (Kz (x:=gv n w) (y:=bv (.slice a1 wl.length c1) lo hi k) rfl (Qg rfl rfl rfl) rfl) ⟨l1.trans l3,w,es,.slice a1 wl.length c1,wl,lo,hi,k,.slice a2 p.length c2,p.set (y%p.length) z,rfl,hwH.mono (l1.trans l3),hg,(o1'.mono l3).se,o3.se,vR,by rw[cJ];omega⟩
     ·skip
      refine g7 (b:=_) rfl (fun h5=> ?_) (fun h5=> ?_)
      ·skip
       refine Dk el_plan rfl rfl rfl aE aE l2 o2 aA rfl aE rfl fun q v7 H3 l3 o3=> ?_;simp only[cA,nA];exact g6 (Kz (x:=gv n w) (y:=bv (.slice a1 wl.length c1) lo hi k) rfl (Qg rfl rfl rfl) rfl) ⟨l1.trans l3,w,es,.slice a1 wl.length c1,wl,lo,hi,k,v7,p++[0],rfl,hwH.mono (l1.trans l3),hg,(o1'.mono l3).se,o3.se,vR,by rw[aM];simp only[aO,bX];omega⟩
      ·skip
       refine g7 (b:=_) rfl (fun h6=> ?_) (fun h6=> ?_)
       ·skip
        obtain⟨v6,hy6,hs6⟩:=yb el_int (vs:=[.slice a1 wl.length c1,ii 1]) (k:= .i64) (j:=1) b4m rfl rfl o1.se zC;refine j7 (hy6.rds _) rfl ?_;simp only[cA,nA];refine d4 hs6.one ?_;exact g6 (Kz (x:=gv n w) (y:=bv (v6) lo hi k) rfl (Qg rfl rfl hs6.cells) rfl) ⟨l12,w,es,v6,wl.drop 1,lo,hi,k,.slice a2 p.length c2,p,rfl,hw,hg,hs6,o2.se,by rw[eU];omega,aA⟩
       ·skip
        refine g7 (b:=_) rfl (fun h7=> ?_) (fun h7=> ?_)
        ·skip
         refine j1 el_edge hw ?_;refine d9 ?_;refine g7 (b:=decide (((es.length:Nat):Int)>0)) rfl (fun h8=> ?_) (fun h8=> ?_)
         ·replace h8:=oDt h8;obtain⟨v7,hy7,hs7⟩:=yb el_edge (vs:=[w,ii 1]) (k:= .i64) (j:=1) b4n rfl rfl hw aA;refine j7 (hy7.rds _) rfl ?_;simp only[cA,nA];refine d4 hs7.one ?_;obtain⟨e,es',rfl⟩:∃e es',es=e::es':=by
           cases es with
           |nil=>simp at h8
           |cons e es'=>exact⟨e,es',rfl⟩
          exact g6 (Kz (x:=gv n v7) (y:=bv (.slice a1 wl.length c1) lo hi k) (QV rfl rfl hs7.cells) (Qg rfl rfl rfl) rfl) ⟨l12,v7,es',.slice a1 wl.length c1,wl,lo,hi,k,.slice a2 p.length c2,p,rfl,hs7,hg.tail,o1.se,o2.se,vR,aA⟩
         ·replace h8:=oDf h8;exact g6 (Kz (x:=gv n w) (y:=bv (.slice a1 wl.length c1) lo hi k) rfl (Qg rfl rfl rfl) rfl) ⟨l12,w,es,.slice a1 wl.length c1,wl,lo,hi,k,.slice a2 p.length c2,p,rfl,hw,hg,o1.se,o2.se,vR,aA⟩
        ·skip
         exact g6 (Kz (x:=gv n w) (y:=bv (.slice a1 wl.length c1) lo hi k) rfl (Qg rfl rfl rfl) rfl) ⟨l12,w,es,.slice a1 wl.length c1,wl,lo,hi,k,.slice a2 p.length c2,p,rfl,hw,hg,o1.se,o2.se,vR,aA⟩
end
end Go.Z

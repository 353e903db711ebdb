/- Chapter 32: the walk of odds. -/
import Derived.Test.YtmannekkmdockaaGreatDoorGzC
open List renaming foldl_cons->fV,length_singleton->eV
open List.Nodup renaming length_le_of_subset->jP
open Nat renaming succ_mul->lD
set_option maxRecDepth 100000
namespace Go.GS
def Ad (p:List Int) (pr:Nat×Nat) (a:Nat):List Int:=j6 (Ax p (pr.1:Nat) (pr.2:Nat) a)
def unP (p:List Int) (pr:Nat×Nat):Nat:=j0 p (pr.1:Nat)|||j0 p (pr.2:Nat)
end Go.GS
namespace Go.Z
open Proofs.Tryz RowKit RX GS RZ
open WD (BP Bt wd rs toI HM sgI Rb)
noncomputable def Lc (es:List (Nat×Nat)) (n m S:Nat):Rat:=((tN es S:Int):Rat)*((((n-1)*m:Nat):Int):Rat)
noncomputable def Gf (es:List (Nat×Nat)) (wl:List Int) (lo hi:Int) (n m:Nat) (p:List Int) (pr:Nat×Nat) (L:List (List Int×Rat)) (a:Nat):List (List Int×Rat):=
 if alB es wl lo hi a=true/\alB es wl lo hi (sdf (unP p pr) a)=true/\j5 p≠j5 (Ad p pr a)then Cb L (j5 (Ad p pr a)) ((((tN es a:Int):Rat)*((tN es (sdf (unP p pr) a):Int):Rat))/Lc es n m (unP p pr))else L
noncomputable def Eh (es:List (Nat×Nat)) (wl:List Int) (lo hi:Int) (n m:Nat) (p:List Int) (L:List (List Int×Rat)) (pr:Nat×Nat):List (List Int×Rat):=
 if tN es (unP p pr)=0 then L else(Aj (unP p pr)).foldl (Gf es wl lo hi n m p pr) L
noncomputable def Bc (es:List (Nat×Nat)) (wl:List Int) (lo hi:Int) (n k:Nat) (p:List Int):List (List Int×Rat):=(i0 k).foldl (Eh es wl lo hi n (i0 k).length p) []
def MR (B H:PH) (m:Value) (L:List (List Int×Rat)):Prop:=∃V,MKO okK kV B H m V/\V.map (·.1)=L.map (·.1)/\∀k v q,(k,v)∈V->(k,q)∈L->Rp H v q
theorem MR.mono {B H H':PH} {m:Value} {L:List (List Int×Rat)} (h:MR B H m L) (hl:Pl H H'):MR B H' m L:=by
 obtain⟨V,h1,h2,h3⟩:=h;exact⟨V,h1.mono hl,h2,fun k v q a b=>(h3 k v q a b).mono hl⟩
theorem SS {H:PH} {v:Value} {q:Rat} {r c:Nat} {E:Array MapEntry} {ob:Obj} (hr:H r=some (.map E c)) (h:Rp H v q):Rp (H.put r ob) v q:=by
 obtain⟨w1,w2,rfl,⟨l1,h1,h2⟩,⟨l2,h3,h4⟩⟩:=h;exact⟨w1,w2,rfl,⟨l1,⟨SA hr h1.1,h1.2⟩,h2⟩,⟨l2,⟨SA hr h3.1,h3.2⟩,h4⟩⟩
theorem c9W {p:List Int} (hl:p.length<=64):∀z∈j6 p,0<=z/\z<9223372036854775808:=fun z hz=>by
 rw[aa]at hz;obtain⟨y,hy,rfl⟩:=aY.1 hz;have h1:=List.idxOf_lt_length_of_mem ((Kv p [] y).2 (.inr hy));have h2:=jP (Zz p [] dG) (l₂:=p) fun x hx=>((Kv p [] x).1 hx).resolve_left aD;omega
theorem SX {α:Type} {H:PH} {r sz:Nat} {ce:α->List Value} {v:Value} {l:List α} (hr:∃E c,H r=some (.map E c)) (h:SE H sz ce v l):SE (j9 H r) sz ce v l:=by
 obtain⟨E,c,hr⟩:=hr;obtain⟨h1,a,c',h2,h3,h4,h5⟩:=h;refine⟨h1,a,c',h2,h3,h4,h5.imp id ?_⟩;rintro⟨b,o,cs,T,fz,g1,g2,g3⟩;exact⟨b,o,cs,T,fz,g1,by unfold j9;rw[if_neg (fun e=>by subst e;rw[hr]at g2;cases g2)];exact g2,g3⟩
theorem d5v {B H:PH} {r:Nat} {V:List (List Int×Value)} (h:MKO okK kV B H (.map (some r)) V):MKO okK kV (j9 H r) H (.map (some r)) V:=by
 obtain⟨r',es,c,h1,_,h3⟩:=h;obtain rfl:r=r':=by injection h1 with h1;injection h1
 exact⟨r,es,c,rfl,ns _ _,h3⟩
theorem MR.put {B H:PH} {r:Nat} {V:List (List Int×Value)} {L:List (List Int×Rat)} {k:List Int} {v:Value} {q:Rat} {ob:Obj} {E:Array MapEntry} {c:Nat} (hr:H r=some (.map E c)) (h2:V.map (·.1)=L.map (·.1)) (h3:∀k v q,(k,v)∈V->(k,q)∈L->Rp H v q) (hq:Rp H v q) (hm:MKO okK kV B (H.put r ob) (.map (some r)) (Cb V k v)):MR B (H.put r ob) (.map (some r)) (Cb L k q):=by
 refine⟨Cb V k v,hm,c5n h2 k v q,fun k' v' q' h4 h5=>SS hr ?_⟩;rcases ap h4 with⟨rfl,rfl⟩|⟨h6,h7⟩
 ·rcases ap h5 with⟨_,rfl⟩|⟨h8,_⟩
  ·exact hq
  ·exact absurd rfl h8
 ·rcases ap h5 with⟨h8,_⟩|⟨_,h9⟩
  ·exact absurd h8 h6
  ·exact h3 _ _ _ h7 h9
theorem d5w {B0 B H:PH} {m:Value} {L:List (List Int×Rat)} (h:MR B H m L) (hl:Pl B0 B):MR B0 H m L:=by
 obtain⟨V,⟨r,es,c,h1,h4,h2⟩,h3⟩:=h;refine⟨V,⟨r,es,c,h1,?_,h2⟩,h3⟩;cases e:B0 r with
 |none=>rfl
 |some o=>rw[hl _ _ e]at h4;cases h4
theorem Wm:prog.underlying 107=some (.map 112 118):=aB
theorem SY {p:List Int} {k d:Nat} (h:d<k):(masks p k)[d]? =some (j0 p (d:Nat)):=Zo p p.length h
section
variable {H:PH} {u w wts:Value} {p wl:List Int} {n k:Nat} {es:List (Nat×Nat)} {lo hi:Int}
theorem BY {S:Nat} (hg:GV n es) (hn:n<=12) (h:S<2^n):Rb 160 ((tN es S:Int):Rat):=by
 have h1:=BU hg hn h;have h2:=av es S;refine⟨?_,by show 1<2^160;decide⟩;show(tN es S).natAbs<2^160;have:(BP 5:Nat)=2^160:=by unfold BP;rfl
 omega
theorem d8H {m:Nat} (h:m<2^16):Rb 16 (((m:Nat):Int):Rat):=⟨by show((m:Nat):Int).natAbs<2^16;omega,by show 1<2^16;decide⟩
set_option maxHeartbeats 1000000 in
theorem c9X (hc:Chn H n w wts es wl) (hu:SI H u p) (hn:n<=12) (rX:k<=n) (qS:p.length=n) (vM:1<=k) (uM:k<=8) (hL:LabOk p (k:Nat)) (hU:Ai p k):
  Con prog 89 [chv wts lo hi (k:Nat) n w,u] H fun r H'=>Pl H H'/\MR H H' r (Bc es wl lo hi n k p):=by
 refine i9 mixed d4c ?_;have huc:=hu.cells;have hL8:LabOk p 8:=⟨fun x hx=>by have:=hL.1 x hx;omega,hL.2⟩;have hpz:∀z∈p,0<=z/\z<9223372036854775808:=fun z hz=>by have:=hL.1 z hz;omega
 have xT:=hc.ok.n64;have a3m:(i0 k).length<=64:=by have:=ae k k;have:k*k<=8*8:=bU uM uM;unfold i0;omega
 refine d4 (Vh (u0 hc.wt) (u0 hc.gr) _ _ _ _) ?_;refine d4 hu.one ?_;refine t7 (c5p (ok:=okK) (ke:=kV) ar rfl) rfl ?_;rintro v2 H1 ⟨l1,o1⟩;refine nmI ?_;obtain⟨r,rfl⟩:∃r,v2= .map (some r):=by obtain⟨r,_,_,h,_⟩:=o1;exact⟨r,h⟩
 refine d4 ⟨rfl,fun c hc=>by simp[D,Value.cells]at hc;subst hc;rfl⟩ ?_;refine g9 (MQ (hu.mono l1) k vM uM hL hU) (i7 (Vg rfl huc) rfl) ?_;rintro _ H2 ⟨l2,z,rfl,hz⟩;refine nmI ?_;refine i8 (i8 ?_);refine g9 (c9K uM) rfl ?_;rintro v4 H3 ⟨l3,h4⟩;refine nmI ?_;have hr3:∃E c,H3 r=some (.map E c):=by obtain⟨r',es',c',h,_,h2,_⟩:=(o1.mono (l2.trans l3));injection h with h;injection h with h;subst h;exact⟨_,_,h2⟩
 have hHr:H r=none:=by obtain⟨r',es',c',h,h2,_⟩:=o1;injection h with h;injection h with h;subst h;exact h2
 have hz3:SU (j9 H3 r) z (masks p k):=SX hr3 (hz.mono l3);have h43:SE (j9 H3 r) 2 ec v4 (i0 k):=SX hr3 h4.se;have hHB:Pl H (j9 H3 r):=fun b ob hb=>by unfold j9;rw[if_neg (fun e=>by subst e;rw[hHr]at hb;cases hb)];exact(l1.trans (l2.trans l3)) _ _ hb
 have o3:MR (j9 H3 r) H3 (.map (some r)) []:=⟨[],d5v (o1.mono (l2.trans l3)),rfl,fun k v q h=>by cases h⟩;have hB3:Pl (j9 H3 r) H3:=Vk H3 r;generalize hBe:j9 H3 r=B at hz3 h43 hHB o3 hB3;have hcB:=hc.mono hHB;have huB:=hu.mono hHB;refine j1 el_edge (h43.mono hB3) ?_;refine s8 (α:=Nat) (fun i=>[ii (i:Nat)]) (fun i=>fun H'=>i<=(i0 k).length/\Pl B H'/\MR B H' (.map (some r)) (((i0 k).take i).foldl (Eh es wl lo hi n (i0 k).length p) [])) (fun i=>(i0 k).length-i) (0) rfl (⟨bI _,hB3,o3⟩) fun i H5 ⟨hi5,b5,m5⟩=> ?_;refine d9 (d9 ?_);refine g7 (b:=decide (((i:Nat):Int)<((i0 k).length:Nat))) rfl (fun h=> ?_) (fun h=> ?_)
 ·replace h:=oDt h;have qB:i<(i0 k).length:=aA;obtain⟨pr,qF,_⟩:=m7 qB;have zP:=Su (aG qF);refine j4 el_edge (h43.mono b5) qF fun _=> ?_;have hA2:j0 p (pr.1:Nat)<2^n:=by rw[<-qS];exact Si p _ aA
  have hB2:j0 p (pr.2:Nat)<2^n:=by rw[<-qS];exact Si p _ aA
  have hAM:j0 p (pr.1:Nat)<M64:=By xT hA2;have hBM:j0 p (pr.2:Nat)<M64:=By xT hB2;have hS2:unP p pr<2^n:=Nat.or_lt_two_pow hA2 hB2;have hSM:unP p pr<M64:=By xT hS2;have hS0:unP p pr≠0:=fun e=>hU pr.1 aA (by unfold unP at e;exact(Nat.or_eq_zero_iff.1 e).1);refine d4 (el_edge.vcells pr) ?_;refine j4 el_u64 (hz3.mono b5) (SY (d:=pr.1) aA) fun _=> ?_;refine j4 el_u64 (hz3.mono b5) (SY (d:=pr.2) aA) fun _=> ?_;have hDS:∀ρ:List Value,D prog ρ (.v 10)=GS.uv (j0 p (pr.1:Nat))->D prog ρ (.v 12)=GS.uv (j0 p (pr.2:Nat))->D prog ρ (.op2 .or .u64 (.v 10) (.v 12))=GS.uv (unP p pr):=fun ρ h1 h2=>Du h1 h2 hAM hBM;simp only[cA,nA];refine d9 (d9 ?_);refine g9 (BV (lo:=lo) (hi:=hi) (ds:=(k:Nat)) (hcB.gr.mono b5) (u0 hcB.wt) hc.ok hn ⟨hS0,hS2⟩ (hcB.tb.mono b5)) (i7 rfl (hDS _ rfl rfl)) ?_;rintro v13 H6 ⟨l6,q13⟩;refine nmI ?_;refine d4 q13.rq ?_;obtain⟨w13,w13',a5w,a5x,-⟩:=q13.out;subst a5w;refine g9 (xp a5x) rfl ?_;rintro _ _ ⟨rfl,rfl⟩;refine nmI ?_;have vA:((i0 k).take (i+1)).foldl (Eh es wl lo hi n (i0 k).length p) []=Eh es wl lo hi n (i0 k).length p (((i0 k).take i).foldl (Eh es wl lo hi n (i0 k).length p) []) pr:=by rw[take_snoc qF,dZ];rfl
  simp only[cA,nA];refine d9 ?_;refine g7 (b:=(sgI (tN es (unP p pr)) 0==0)) rfl (fun yD=> ?_) (fun yD=> ?_)
  ·skip
   have yD:=sgI_zeroG.1 yD;exact⟨i+1,aA,(z8 (i6 rfl aA)),⟨qB,b5.trans l6,by rw[vA,show Eh es wl lo hi n (i0 k).length p (((i0 k).take i).foldl (Eh es wl lo hi n (i0 k).length p) []) pr=((i0 k).take i).foldl (Eh es wl lo hi n (i0 k).length p) []from if_pos yD];exact m5.mono l6⟩⟩
  ·skip
   have yD:tN es (unP p pr)≠0:=fun e=>by rw[sgI_zeroG.2 e]at yD;cases yD
   have b6:=b5.trans l6;refine d9 ?_;refine j1 el_edge (h43.mono b6) ?_;have hnk:2<=n:=aA;have hml:(n-1)*(i0 k).length<=11*64:=bU aA a3m;refine d9 ?_;refine g9 (BW (((n-1)*(i0 k).length:Nat):Int) aA aA) (z8 (od (a:=n-1) (b:=(i0 k).length) (RL rfl aA aA) rfl aA)) ?_;rintro v16 H7 ⟨l7,q16⟩;refine⟨(fun _=>l7),?_⟩;have rS:=BY hc.ok hn hS2;have rm:=d8H (m:=(n-1)*(i0 k).length) aA;simp only[cA,nA];refine g9 (KT (q13.mono l7) q16 rS rm aA) rfl ?_;rintro v17 H8 ⟨l8,q17⟩;refine⟨(fun _=>l8),?_⟩;refine d4 q17.rq ?_;obtain⟨w17,w17',a7e,-,-⟩:=q17.out;have hu0:Lc es n (i0 k).length (unP p pr)≠0:=by
    unfold Lc;have h1:((tN es (unP p pr):Int):Rat)≠0:=fun e=>yD (by exact_mod_cast e);have h2:((((n-1)*(i0 k).length:Nat):Int):Rat)≠0:=fun e=>by
     have h3:(((n-1)*(i0 k).length:Nat):Int)=0:=by exact_mod_cast e
     have h4:0<(n-1)*(i0 k).length:=eE aA aA;omega
    exact fun e=>(Rat.mul_eq_zero.1 e).elim h1 h2
   have b8:=b6.trans (l7.trans l8);have m8:=m5.mono (l6.trans (l7.trans l8));have rU:Rb 176 (Lc es n (i0 k).length (unP p pr)):=rS.mul rm aA;simp only[cA,nA];refine g9 (c9V (H:=H8) (s:=unP p pr)) (z8 (hDS _ rfl rfl)) ?_;rintro _ _ ⟨bp,hbp,rfl,rfl⟩;refine nmI ?_;refine jx (X:=H8) (K:=Df bp (unP p pr)) (Ro:=B) (fun pre vals X'=>Pl B X'/\vals=[]/\MR B X' (.map (some r)) (((Aj (unP p pr)).take pre.length).foldl (Gf es wl lo hi n (i0 k).length p pr) (((i0 k).take i).foldl (Eh es wl lo hi n (i0 k).length p) []))/\Rp X' v17 (Lc es n (i0 k).length (unP p pr))) (fun _ _ _=>False) (c3u hSM) c3s (yr _ hbp) rfl (fun _ _ _ h=>h.1) ⟨b8,rfl,m8,q17⟩ ?_ ?_ ?_
   ·rintro pre xs vals X2 ⟨a,ha,rfl⟩ _ ⟨x2,rfl,m2,q2⟩;refine⟨rfl,?_⟩;have rK:=aG ha;obtain⟨⟨a0,a2⟩,s0,s2⟩:=Tf hS2 xT hS0 rK;have haM:=By xT a2;have qI:((Aj (unP p pr)).take (pre.length+1)).foldl (Gf es wl lo hi n (i0 k).length p pr) (((i0 k).take i).foldl (Eh es wl lo hi n (i0 k).length p) [])=Gf es wl lo hi n (i0 k).length p pr (((Aj (unP p pr)).take pre.length).foldl (Gf es wl lo hi n (i0 k).length p pr) (((i0 k).take i).foldl (Eh es wl lo hi n (i0 k).length p) [])) a:=by rw[take_snoc ha,dZ];rfl
    generalize hL0:((Aj (unP p pr)).take pre.length).foldl (Gf es wl lo hi n (i0 k).length p pr) (((i0 k).take i).foldl (Eh es wl lo hi n (i0 k).length p) [])=L0 at m2 qI;simp only[cA,nA];refine g9 (c9L (i:=pr.1) (k:=pr.2) (huB.mono x2) hL8 aA aA haM) (Hz (Vg rfl huc) rfl rfl rfl) ?_;rintro v20 X3 ⟨l3',q20⟩;refine nmI ?_;have hql:(Ad p pr a).length=n:=by unfold Ad;rw[Fe,Ir];exact qS
    have hqz:=c9W (p:=Ax p (pr.1:Nat) (pr.2:Nat) a) (by rw[Ir];omega);refine y9 (Zr (hcB.mono (x2.trans l3')) a2) rfl fun X4 l4'=> ?_;refine d9 ?_;refine g7 (b:=alB es wl lo hi a) rfl (fun yH=> ?_) (fun yH=> ?_)
    ·skip
     simp only[cA,nA];refine d9 ?_;refine y9 (Zr (hcB.mono (x2.trans (l3'.trans l4'))) s2) (i7 rfl (Uy (hDS _ rfl rfl) rfl hSM haM)) fun X5 l5'=> ?_;have l35:=l3'.trans (l4'.trans l5');refine d9 ?_;refine g7 (b:=alB es wl lo hi (sdf (unP p pr) a)) rfl (fun rI=> ?_) (fun rI=> ?_)
     ·skip
      simp only[cA,nA];refine g9 (Wj (huB.mono (x2.trans l35)) aA) (z8 (Vg rfl huc)) ?_;rintro _ X6 ⟨l6',rfl⟩;refine nmI ?_;have q20':SI X6 v20 (Ad p pr a):=q20.mono (l4'.trans (l5'.trans l6'));simp only[cA,nA];refine g9 (Wj q20' aA) rfl ?_;rintro _ X7 ⟨l7',rfl⟩;refine nmI ?_;refine j7 (d8G (vs:=[kV (j5 p),kV (j5 (Ad p pr a))]) b2j rfl rfl (au aA hpz) (au aA hqz)) rfl ?_;refine d9 ?_;refine g7 (b:= !decide (j5 p=j5 (Ad p pr a))) rfl (fun wP=> ?_) (fun wP=> ?_)
      ·skip
       refine g9 (Wj (q20'.mono l7') aA) rfl ?_;rintro _ X8 ⟨l8',rfl⟩;refine⟨(fun _=>l8'),?_⟩;have l38:=l35.trans (l6'.trans (l7'.trans l8'));refine g9 (BV (lo:=lo) (hi:=hi) (ds:=(k:Nat)) (hcB.gr.mono (x2.trans l38)) (u0 hcB.wt) hc.ok hn ⟨a0,a2⟩ (hcB.tb.mono (x2.trans l38))) rfl ?_;rintro v27 X9 ⟨l9',q27⟩;refine⟨(fun _=>l9'),?_⟩;refine g9 (BV (lo:=lo) (hi:=hi) (ds:=(k:Nat)) (hcB.gr.mono (x2.trans (l38.trans l9'))) (u0 hcB.wt) hc.ok hn ⟨s0,s2⟩ (hcB.tb.mono (x2.trans (l38.trans l9')))) (i7 rfl (Uy (hDS _ rfl rfl) rfl hSM haM)) ?_;rintro v28 Xa ⟨la',q28⟩;refine⟨(fun _=>la'),?_⟩;have ra:=BY hc.ok hn a2;have rb:=BY hc.ok hn s2;refine g9 (KT (q27.mono la') q28 ra rb aA) rfl ?_;rintro v29 Xb ⟨lb',q29⟩;refine⟨(fun _=>lb'),?_⟩;have l3b:=l38.trans (l9'.trans (la'.trans lb'));refine g9 (W9 q29 (q2.mono l3b) (ra.mul rb (m:=320) aA) rU aA hu0) (i7 rfl (Wl q2)) ?_;rintro v30 Xc ⟨lc',q30⟩;refine⟨(fun _=>lc'),?_⟩;have l3c:=l3b.trans lc';obtain⟨V,mV,kVe,rV⟩:=m2.mono l3c;refine t7 (SD ar (k:=j5 (Ad p pr a)) (v:=v30) (vs:=[.map (some r),kV (j5 (Ad p pr a)),v30]) rfl rfl rfl rfl Wm (au aA hqz) (x2.trans l3c) mV) rfl ?_;rintro _ _ ⟨rfl,b9,m9,g,ob,E,cc,hmg,-,uU,rfl⟩;refine nmI ?_;obtain rfl:r=g:=by injection hmg with hmg;injection hmg
       exact⟨b9,rfl,by rw[aM,eV,qI];unfold Gf;rw[if_pos ⟨yH,rI,by simpa using wP⟩];exact MR.put uU kVe rV q30 m9,SS uU (q2.mono l3c)⟩
      ·skip
       exact⟨x2.trans (l35.trans (l6'.trans l7')),rfl,by rw[aM,eV,qI];unfold Gf;rw[if_neg (fun h=>h.2.2 (by simpa using wP))];exact m2.mono (l35.trans (l6'.trans l7')),q2.mono (l35.trans (l6'.trans l7'))⟩
     ·skip
      exact⟨x2.trans l35,rfl,by rw[aM,eV,qI];unfold Gf;rw[if_neg (fun h=>by rw[h.2.1]at rI;cases rI)];exact m2.mono l35,q2.mono l35⟩
    ·skip
     exact⟨x2.trans (l3'.trans l4'),rfl,by rw[aM,eV,qI];unfold Gf;rw[if_neg (fun h=>by rw[h.1]at yH;cases yH)];exact m2.mono (l3'.trans l4'),q2.mono (l3'.trans l4')⟩
   ·rintro xs vals X2 K2 uX hd _ ⟨x2,rfl,m2,q2⟩;simp only[cA,nA];have pY:=PH.le_or X2 K2;rw[aF (show(Aj (unP p pr)).length<=xs.length by omega)]at m2;exact⟨i+1,aA,(z8 (i6 rfl aA)),⟨qB,x2.trans pY,by rw[vA];unfold Eh;rw[if_neg yD];exact m2.mono pY⟩⟩
   ·exact fun _ _ _ _ _ _ _ h=>h.elim
 ·replace h:=oDf h;have uZ:i=(i0 k).length:=aA;rw[aF (show(i0 k).length<=i by omega)]at m5;exact g6 rfl ⟨hHB.trans b5,d5w m5 hHB⟩
end
end Go.Z
namespace Go.GS
def Qd (D B:Nat) (r:Rat):Prop:=∃A:Int,r=(A:Rat)/((D:Int):Rat)/\A.natAbs<=B
theorem Qd.sub {D B C:Nat} {r s:Rat} (h1:Qd D B r) (h2:Qd D C s):Qd D (B+C) (r-s):=by
 obtain⟨a,rfl,ha⟩:=h1;obtain⟨b,rfl,hb⟩:=h2;refine⟨a-b,?_,aA⟩;rw[Rat.intCast_sub];grind
theorem Qd.add {D B C:Nat} {r s:Rat} (h1:Qd D B r) (h2:Qd D C s):Qd D (B+C) (r+s):=by
 obtain⟨a,rfl,ha⟩:=h1;obtain⟨b,rfl,hb⟩:=h2;refine⟨a+b,?_,aA⟩;rw[Rat.intCast_add];grind
theorem Qd.le {D B C:Nat} {r:Rat} (h:Qd D B r) (hBC:B<=C):Qd D C r:=by
 obtain⟨a,h1,h2⟩:=h;exact⟨a,h1,aA⟩
theorem Qd.zero (D:Nat):Qd D 0 0:=⟨0,by rw[Rat.div_def];show(0:Rat)=0*_;rw[Rat.zero_mul],aD⟩
theorem Qd.one {D:Nat} (h:D≠0):Qd D D 1:=⟨(D:Int),by rw[Rat.div_def,Rat.mul_inv_cancel];exact_mod_cast h,aD⟩
def sQ:List Rat->Rat
 |[]=>0
 |a::l=>a+sQ l
theorem aw (l m:List Rat):sQ (l++m)=sQ l+sQ m:=by
 induction l with
 |nil=>simp[sQ,Rat.zero_add]
 |cons a l ih=>simp only[cL,sQ,ih,Rat.add_assoc]
theorem pq {D B:Nat}:∀{l:List Rat},(∀q∈l,Qd D B q)->Qd D (l.length*B) (sQ l)
 |[],_=>by simpa[sQ]using Qd.zero D
 |a::l,h=>by
  simp only[sQ,aO];exact((h a aD).add (pq fun q hq=>h q (by simp[hq]))).le (by rw[lD];omega)
end Go.GS
namespace Go.Z
open Proofs.Tryz RowKit RX GS RZ
open WD (BP Bt wd rs toI HM sgI Rb)
theorem ax {D B k:Nat} {r:Rat} (h:Qd D B r) (hD:D≠0) (hk:D<2^k) (hB:B<2^k):Rb k r:=by
 obtain⟨a,rfl,ha⟩:=h;rw[<-Rat.divInt_eq_div];exact Go.WD.low_bound aA aA aA
theorem ay {α β:Type} {f:β->α->β} {Q:β->Prop}:∀{l:List α} {b:β},(∀b x,x∈l->Q b->Q (f b x))->Q b->Q (l.foldl f b)
 |[],_,_,h=>h
 |x::l,b,hs,h=>by
  rw[fV];exact ay (fun b y hy=>hs b y (by simp[hy])) (hs b x aD h)
theorem BZ {α β:Type} {f:List β->α->List β} {m:Nat}:∀{l:List α} {b:List β},(∀b x,x∈l->(f b x).length<=b.length+m)->(l.foldl f b).length<=b.length+l.length*m
 |[],_,_=>by simp
 |x::l,b,hs=>by
  rw[fV];have h1:=BZ (f:=f) (m:=m) (l:=l) (b:=f b x) (fun b y hy=>hs b y (cF _ hy));have h2:=hs b x aD;rw[aO,lD];omega
theorem SZ {κ β:Type} (L:List (κ×β)) (k:κ) (v:β):(Cb L k v).length<=L.length+1:=by
 unfold Cb;split<;>simp
open Classical in
theorem TA {κ β:Type} {L:List (κ×β)} (h:(L.map (·.1)).Nodup) (k:κ) (v:β):((Cb L k v).map (·.1)).Nodup:=by
 unfold Cb;split
 ·rw[show(L.map fun p=>if p.1=k then(k,v)else p).map (·.1)=L.map (·.1)from by
   rw[cZ];refine bW fun p _=> ?_;simp only[Function.comp];split
   ·rename_i e;exact e.symm
   ·rfl]
  exact h
 ·rename_i hk;rw[aT,cQ];refine⟨h,aD,fun a ha b hb=> ?_⟩;simp only[aN,bJ,aL]at hb;subst hb;intro e;subst e;exact hk ha
theorem TB {rest least:Nat}:∀{n part:Nat},(Hj rest least n part).length<=n
 |0,_=>aS _
 |n+1,part=>by
  unfold Hj;split
  ·simp
  ·simp only[aO];have:=TB (rest:=rest) (least:=least) (n:=n) (part:=(part-1)&&&rest);omega
theorem TC {S n:Nat} (h:S<2^n):(Aj S).length<=2^n:=by
 unfold Aj;refine bD TB ?_;have:sdf S (Bh S)<2^n:=Ss h fun x hx=>by rw[z6]at hx;simp at hx;exact hx.1
 omega
section
variable {es:List (Nat×Nat)} {wl:List Int} {lo hi:Int} {n k:Nat} {p:List Int}
structure Frc (es:List (Nat×Nat)) (wl:List Int) (lo hi:Int) (n k:Nat) (p:List Int) (x:List Int×Rat):Prop where
 ex:∃pr∈i0 k,∃a∈Aj (unP p pr),tN es (unP p pr)≠0/\alB es wl lo hi a=true/\alB es wl lo hi (sdf (unP p pr) a)=true/\j5 p≠j5 (Ad p pr a)/\x.1=j5 (Ad p pr a)/\x.2=(((tN es a:Int):Rat)*((tN es (sdf (unP p pr) a):Int):Rat))/Lc es n (i0 k).length (unP p pr)
theorem bf:∀x∈Bc es wl lo hi n k p,Frc es wl lo hi n k p x:=by
 unfold Bc;refine ay (Q:=fun L=>∀x∈L,Frc es wl lo hi n k p x) (fun L pr qF hL=> ?_) (fun x hx=>by cases hx);unfold Eh;split
 ·exact hL
 ·rename_i h0;refine ay (Q:=fun L=>∀x∈L,Frc es wl lo hi n k p x) (fun L a ha hL=> ?_) hL;unfold Gf;split
  ·rename_i hc;intro x hx;obtain⟨x1,x2⟩:=x;rcases ap hx with⟨rfl,rfl⟩|⟨_,h⟩
   ·exact⟨pr,qF,a,ha,h0,hc.1,hc.2.1,hc.2.2,rfl,rfl⟩
   ·exact hL _ h
  ·exact hL
theorem CB:((Bc es wl lo hi n k p).map (·.1)).Nodup:=by
 unfold Bc;refine ay (b:=([]:List (List Int×Rat))) (Q:=fun L:List (List Int×Rat)=>(L.map (·.1)).Nodup) (fun L pr qF hL=> ?_) dG;unfold Eh;split
 ·exact hL
 ·refine ay (Q:=fun L:List (List Int×Rat)=>(L.map (·.1)).Nodup) (fun L a ha hL=> ?_) hL;unfold Gf;split
  ·exact TA hL _ _
  ·exact hL
theorem TD (hU:∀pr∈i0 k,unP p pr<2^n):(Bc es wl lo hi n k p).length<=(i0 k).length*2^n:=by
 unfold Bc;have:=BZ (f:=Eh es wl lo hi n (i0 k).length p) (l:=i0 k) (b:=[]) (m:=2^n) fun L pr qF=>by
  unfold Eh;split
  ·exact Nat.le_add_right _ _
  ·refine bD (BZ (f:=Gf es wl lo hi n (i0 k).length p pr) (l:=Aj (unP p pr)) (b:=L) (m:=1) fun L a ha=> ?_) ?_
   ·unfold Gf;split
    ·exact SZ _ _ _
    ·omega
   ·have h2:=TC (hU pr qF);omega
 simpa using this
end
noncomputable def Gt (es:List (Nat×Nat)) (n m:Nat) (p:List Int) (pr:Nat×Nat):Nat:=if tN es (unP p pr)=0 then 1 else(tN es (unP p pr)).natAbs*((n-1)*m)
noncomputable def Bv (es:List (Nat×Nat)) (n m:Nat) (p:List Int):List (Nat×Nat)->Nat
 |[]=>1
 |pr::l=>Gt es n m p pr*Bv es n m p l
section
variable {es:List (Nat×Nat)} {n m:Nat} {p:List Int}
theorem CC:∀{l:List (Nat×Nat)} {pr:Nat×Nat},pr∈l->Gt es n m p pr ∣ Bv es n m p l
 |x::l,pr,h=>by
  rcases aP.1 h with rfl|h
  ·exact⟨_,rfl⟩
  ·exact Nat.dvd_trans (CC h) ⟨Gt es n m p x,by simp only[Bv];rw[cX]⟩
theorem Wn (h:0<(n-1)*m):∀l:List (Nat×Nat),0<Bv es n m p l
 |[]=>by simp[Bv]
 |x::l=>by
  simp only[Bv];refine eE ?_ (Wn h l);unfold Gt;split
  ·decide
  ·exact eE aA h
theorem TE {K:Nat} (h:∀pr,Gt es n m p pr<=2^K):∀l:List (Nat×Nat),Bv es n m p l<=2^(K*l.length)
 |[]=>by simp[Bv]
 |x::l=>by
  simp only[Bv,aO];rw[Nat.mul_succ,Nat.pow_add,cX (2^(K*l.length))];exact bU (h x) (TE h l)
end
end Go.Z

/- EnsembleKnown: the walk. MADE BY mkGjP.py -/
import Derived.Test.YtlmbepjdokomkaaGreatDoorGjL
import Derived.WalkKit
import Derived.ProofKit
import Derived.OpenShut
import Derived.ShutString
import Derived.ChangeOld
import Derived.MakeChecks
import Derived.Deep.Slices
import Derived.Deep.Strs
import Derived.Test.YtlmbepjdokomkaaGreatDoorCards
import Derived.Test.YtlmbepjdokomkaaGreatDoorTie
import Derived.Lay
import Derived.LaidOnce
import Derived.SevenTiedAt
import Derived.HandedShaped
open Array renaming mem_of_getElem?->lL,mem_toList_iff->gV
open Option renaming some->fG
set_option linter.all false
set_option maxRecDepth 100000
namespace Go.Proofs.YtlmbepjdokomkaaGreatDoor
open Go.Z
open Proofs.Tryz RowKit RX GS RZ WD
section
variable {H:PH} {ρ:List Value} {x y:SV}
def VD:(Value.slice none 0 0).cells.size=1/\i8 (Value.slice none 0 0).cells:=⟨rfl,fun c hc=>by simp[Value.cells]at hc;subst hc;rfl⟩
def VE:(chV 0).cells.size=1/\i8 (chV 0).cells:=Hh 0
def CH:D prog ρ (.z 51)=chV 0:=UH
set_option maxHeartbeats 8000000 in
def c9m (hT:Tb H):Con prog 3 [] H fun r H'=>Pl H H'/\r= .bool true:=by
 refine g9 mixed d5L ?_;refine i9 (c9j hT) rfl fun Hw lw=> ?_;simp only[cA,nA];refine b9 ?_;refine b4 rfl ?_;refine g5 (RQ (hT.mono lw)) (rfl) ?_;rintro _ H0 ⟨l0,w,rw',rfl,hM⟩;refine nmI ?_;simp only[cA,nA];obtain⟨ul,hu,pB,hur⟩:=id hM.ro;have hS4:=so4 (lo:=10) (hi:=30) (.inl rfl);have hz4:(2:Nat)=1->s8 us4 4=true:=fun h=>by cases h
 have hl4:us4.length=4:=rfl;have c1:=t7 hM.gr;have c2:=hM.ro.one;have cw:w.cells= #[w]:=hM.gr.cells;obtain⟨u0,hu0,_⟩:=u6 (l:=ul) (i:=0) aA;refine b4 (Ep c1 c2) ?_;refine g5 (VA hu aA) (rfl) ?_;rintro v2 H1 ⟨l1,o2⟩;refine nmI ?_;simp only[cA,nA];refine b4 o2.se.one ?_;refine c7D el_unit (a':={u0 with ppl:= -1}) d7D sc_int aC (by exact rfl) rfl rfl rfl rfl rfl rfl rfl aF aF aF l1 o2 hu0 (j0 (VC (S_u (Bm (n:=4) (k:=2) (ms:=2) (lv:=0) (who:=0) (w:=w) (rw:=rw') (lo:=10) (hi:=30) (dm:=dm0) rfl) rfl o2.se.cells)) rfl) aF (fun _ _=>rfl) rfl fun q1 q2 q3 H2 l2 o3=> ?_;simp only[cA,nA];refine g5 (VA (hu.mono l2) aA) (rfl) ?_;rintro v6 H3 ⟨l3,o6⟩;refine nmI ?_;simp only[cA,nA];refine Hy el_unit rfl rfl rfl aF aF l3 o6 aA (j7 (Wh (nm:=[101]) rfl)) aF rfl fun q4 v8 H4 l4 o8=> ?_;simp only[cA,nA];refine b4 o8.se.one ?_;have rJ:=hM.mono (l2.trans l4);have hB4:=e2V (o3.se.mono l4) hu0 pB fun i u x a b=>(hur i u x a b).mono (l2.trans l4);have hL4:=e2U o8.se pB fun i u x a b=>(hur i u x a b).mono (l2.trans l4);have c3:=hB4.one;have c4:=hL4.one;have k2:v2.cells= #[v2]:=o2.se.cells;have k8:v8.cells= #[v8]:=o8.se.cells;clear hur hu;have m4:Pl H4 H4:=Pl.refl _;refine g5 (Ip (e:=0) c1 c2 (Rw (rJ.mono m4) gv4 rv4 aC (bd4 aC aC) (me2 _))) (j7 (Bm (n:=4) (k:=2) (ms:=2) (lv:=0) (who:=0) (w:=w) (rw:=rw') (lo:=10) (hi:=30) (dm:=dm0) rfl)) ?_;rintro _ H5 ⟨l5,rfl⟩;refine nmI ?_;simp only[cA,nA];refine b9 ?_;have m5:=m4.trans l5;refine b4 rfl ?_;refine g5 (Ip (e:=180) c1 c2 (CC c1 c2 aC)) (j7 (S_n (Bm (n:=4) (k:=2) (ms:=2) (lv:=0) (who:=0) (w:=w) (rw:=rw') (lo:=10) (hi:=30) (dm:=dm0) rfl) (a:= -1) rfl)) ?_;rintro _ H6 ⟨l6,rfl⟩;refine nmI ?_;simp only[cA,nA];refine b9 ?_;have m6:=m5.trans l6;refine b4 rfl ?_;refine g5 (Ip (e:=161) c1 c3 (UU (rJ.mono m6).gr gv4 (hB4.mono m6))) (j7 (Wg (S_u (Bm (n:=4) (k:=2) (ms:=2) (lv:=0) (who:=0) (w:=w) (rw:=rw') (lo:=10) (hi:=30) (dm:=dm0) rfl) rfl k2) (a:=0) rfl)) ?_;rintro _ H7 ⟨l7,rfl⟩;refine nmI ?_;simp only[cA,nA];refine b9 ?_;have m7:=m6.trans l7;refine b4 rfl ?_;refine g5 (Ip (e:=161) c1 c3 (UU (rJ.mono m7).gr gv4 (hB4.mono m7))) (j7 (Wg (S_u (Bm (n:=4) (k:=2) (ms:=2) (lv:=0) (who:=0) (w:=w) (rw:=rw') (lo:=10) (hi:=30) (dm:=dm0) rfl) rfl k2) (a:=0) rfl)) ?_;rintro _ H8 ⟨l8,rfl⟩;refine nmI ?_;simp only[cA,nA];refine b9 ?_;have m8:=m7.trans l8;refine b4 rfl ?_;refine g5 (Ip (e:=5) c1 c4 (c9i ⟨(rJ.mono m8).tb,(rJ.mono m8).gr,hL4.mono m8⟩ gv4 rv5 aC)) (j7 (Wg (S_u (Bm (n:=4) (k:=2) (ms:=2) (lv:=0) (who:=0) (w:=w) (rw:=rw') (lo:=10) (hi:=30) (dm:=dm0) rfl) rfl k8) (a:=0) rfl)) ?_;rintro _ H9 ⟨l9,rfl⟩;refine nmI ?_;simp only[cA,nA];refine b9 ?_;have m9:=m8.trans l9;refine b4 rfl ?_;refine g5 (Ip (e:=2) c1 c2 (d5P (rJ.mono m9) gv4 rv4 aC aC aC aC aC aC aC)) (j7 (Wg (e2W (Bm (n:=4) (k:=2) (ms:=2) (lv:=0) (who:=0) (w:=w) (rw:=rw') (lo:=10) (hi:=30) (dm:=dm0) rfl) (a:=9) rfl) (a:=0) rfl)) ?_;rintro _ H10 ⟨l10,rfl⟩;refine nmI ?_;simp only[cA,nA];refine b9 ?_;have m10:=m9.trans l10;refine b4 rfl ?_;refine g5 (Ip (e:=2) c1 c2 (Rw (rJ.mono m10) gv4 rv4 aC (bd4 aC aC) (me9 _))) (j7 (Rx (Bm (n:=4) (k:=2) (ms:=2) (lv:=0) (who:=0) (w:=w) (rw:=rw') (lo:=10) (hi:=30) (dm:=dm0) rfl) (a:=9) rfl)) ?_;rintro _ H11 ⟨l11,rfl⟩;refine nmI ?_;simp only[cA,nA];refine b9 ?_;have m11:=m10.trans l11;refine b4 rfl ?_;refine g5 (Ip (e:=2) c1 c2 (Rw (rJ.mono m11) gv4 rv4 aC (bd4 aC aC) (me8 _))) (j7 (Rx (Bm (n:=4) (k:=2) (ms:=2) (lv:=0) (who:=0) (w:=w) (rw:=rw') (lo:=10) (hi:=30) (dm:=dm0) rfl) (a:=8) rfl)) ?_;rintro _ H12 ⟨l12,rfl⟩;refine nmI ?_;simp only[cA,nA];refine b9 ?_;have m12:=m11.trans l12;refine b4 rfl ?_;refine g5 (Ip (e:=2) c1 c2 (Rw (rJ.mono m12) gv4 rv4 aC (bd4 aC aC) (me5 _))) (j7 (e2X (Wg (Rx (Bm (n:=4) (k:=2) (ms:=2) (lv:=0) (who:=0) (w:=w) (rw:=rw') (lo:=10) (hi:=30) (dm:=dm0) rfl) (a:=8) rfl) (a:=5) rfl) (a:= -1) rfl)) ?_;rintro _ H13 ⟨l13,rfl⟩;refine nmI ?_;simp only[cA,nA];refine b9 ?_;have m13:=m12.trans l13;refine Ba el_unit (l:=ucE) (vs:=[veU (ucM [97] 0),veU (ucM [98] 0),veU (ucM [99] 0),veU (ucM [100] 0)]) rfl aC aC rfl rfl (Ie (Wh (nm:=[97]) rfl) (Wh (nm:=[98]) rfl) (Wh (nm:=[99]) rfl) (Wh (nm:=[100]) rfl)) fun v18 H14 l14 o18 _=> ?_;simp only[cA,nA];have m14:=m13.trans l14;refine b4 o18.se.one ?_;have a1j:StM H14 w v18 es4 usE:=⟨(rJ.mono m14).tb,(rJ.mono m14).gr,e2T o18.se⟩;have c5:=a1j.ro.one;have k18:v18.cells= #[v18]:=o18.se.cells;refine b4 rfl ?_;refine g5 (Ip (e:=7) c1 c5 (Rw a1j gv4 rvE aC (e2R aC aC) me1)) (j7 (Rx (VB (S_u (Bm (n:=4) (k:=2) (ms:=2) (lv:=0) (who:=0) (w:=w) (rw:=rw') (lo:=10) (hi:=30) (dm:=dm0) rfl) rfl k18) (a:=0) rfl) (a:=1) rfl)) ?_;rintro _ H15 ⟨l15,rfl⟩;refine nmI ?_;simp only[cA,nA];refine b9 ?_;have m15:=m14.trans l15;refine g5 (c4p c1 c2 ((CC (dm:=dm0) (H:=H15) (k:=2) (ms:=2) (lv:=0) (who:=0) (lo:=10) (hi:=30) c1 c2 (n:= -1) aC).x aC)) (j7 (S_n (Bm (n:=4) (k:=2) (ms:=2) (lv:=0) (who:=0) (w:=w) (rw:=rw') (lo:=10) (hi:=30) (dm:=dm0) rfl) (a:= -1) rfl)) ?_;rintro _ H16 ⟨l16,rfl⟩;refine nmI ?_;simp only[cA,nA];have m16:=m15.trans l16;refine g7 (g7 ?_);refine g5 (c4q c1 c2 VD ((Rw (dm:=dm0) (ms:=9) (lv:=0) (who:=0) (k:=2) (lo:=10) (hi:=30) (rJ.mono m16) gv4 rv4 aC (bd4 aC aC) (me9 _)).x aC)) (j0 (Rx (Bm (n:=4) (k:=2) (ms:=2) (lv:=0) (who:=0) (w:=w) (rw:=rw') (lo:=10) (hi:=30) (dm:=dm0) rfl) (a:=9) rfl) rfl) ?_;rintro _ H17 ⟨l17,rfl⟩;refine nmI ?_;simp only[cA,nA];have m17:=m16.trans l17;refine g7 (g7 (g7 ?_));refine b4 Zv ?_;refine b4 Zv ?_;refine Ba y6 (N:=4) (l:=[0,1,0,1]) (vs:=[ii 0,ii 1,ii 0,ii 1]) rfl aC aC rfl rfl rfl fun v22 H18 l18 o22 _=> ?_;simp only[cA,nA];have m18:=m17.trans l18;refine g5 (c4s (st:=0) (ch:=chV 0) aC o22.se.one VE (rJ.mono m18) hS4 hz4) (Ie (Bm (n:=4) (k:=2) (ms:=2) (lv:=0) (who:=0) (w:=w) (rw:=rw') (lo:=10) (hi:=30) (dm:=dm0) rfl) rfl rfl CH) ?_;rintro _ H19 ⟨l19,ex,ey,ez,rfl,he1,he2⟩;refine nmI ?_;simp only[cA,nA];have m19:=m18.trans l19;refine g7 (g7 (g7 (g7 ?_)));refine b4 ⟨he1,he2⟩ ?_;refine Ba y6 (N:=4) (l:=[0,1,0,1]) (vs:=[ii 0,ii 1,ii 0,ii 1]) rfl aC aC rfl rfl rfl fun v24 H20 l20 o24 _=> ?_;simp only[cA,nA];have m20:=m19.trans l20;refine g5 (d5K (c0:=0) (rJ.mono m20) o24.se aC) (Ie (Bm (n:=4) (k:=2) (ms:=2) (lv:=0) (who:=0) (w:=w) (rw:=rw') (lo:=10) (hi:=30) (dm:=dm0) rfl) rfl rfl CH) ?_;rintro _ H21 ⟨l21,fx,fy,fs,rfl⟩;refine nmI ?_;simp only[cA,nA];have m21:=m20.trans l21;refine g7 (g7 (g7 (g7 ?_)));refine b4 (Hh fs) ?_;refine g5 (c4r (st:=0) (ch:=chV 0) c1 c2 VD VE ((Rw (dm:=dm0) (ms:=9) (lv:=0) (who:=0) (k:=2) (lo:=10) (hi:=30) (rJ.mono m21) gv4 rv4 aC (bd4 aC aC) (me9 _)).x aC)) (Ie (Rx (Bm (n:=4) (k:=2) (ms:=2) (lv:=0) (who:=0) (w:=w) (rw:=rw') (lo:=10) (hi:=30) (dm:=dm0) rfl) (a:=9) rfl) rfl rfl CH) ?_;rintro _ H22 ⟨l22,gx,gy,gz,rfl,ge1,ge2⟩;refine nmI ?_;simp only[cA,nA];have m22:=m21.trans l22;refine g7 (g7 (g7 (g7 ?_)));refine b4 ⟨ge1,ge2⟩ ?_;refine Ba el_edge (l:=esA) (vs:=[ev2 (0,1),ev2 (2,3)]) rfl aC aC rfl rfl (j0 (Vr (a:=0) (b:=1) rfl rfl) (Vr (a:=2) (b:=3) rfl rfl)) fun v27 H23 l23 o27 _=> ?_;simp only[cA,nA];have m23:=m22.trans l23;refine b4 o27.se.one ?_;have k27:v27.cells= #[v27]:=o27.se.cells;refine Ba y6 (N:=4) (l:=[1,1,0,0]) (vs:=[ii 1,ii 1,ii 0,ii 0]) rfl aC aC rfl rfl rfl fun v28 H24 l24 o28 _=> ?_;simp only[cA,nA];have m24:=m23.trans l24;refine g5 (d5J (c0:=5) (w:=v27) ⟨(rJ.mono m24).tb,o27.se.mono l24,(rJ.mono m24).ro⟩ o28.se aC) (Ie (S_e (Bm (n:=4) (k:=2) (ms:=2) (lv:=0) (who:=0) (w:=w) (rw:=rw') (lo:=10) (hi:=30) (dm:=dm0) rfl) rfl k27) rfl rfl rfl) ?_;rintro _ H25 ⟨l25,ax,ay,aw,rfl,hay,hax⟩;refine nmI ?_;simp only[cA,nA];have m25:=m24.trans l25;refine g7 (g7 (g7 (g7 ?_)));refine b4 (Hh aw) ?_;refine t6 (α:=Nat×Value×Value) (fun⟨i,wv,uv⟩=>[ii (i:Nat),stV dm0 12 6 3 0 0 wv uv 0 12]) (fun⟨i,wv,uv⟩=>fun K=>i<=12/\Pl H25 K/\SO H25 K 35 6 ceU uv (uc12.take i)/\SO H25 K 54 2 ec wv (Wc i)) (fun⟨i,wv,uv⟩=>12-i) ((0,.slice none 0 0,.slice none 0 0)) (j0 rfl d9x) (⟨bJ _,Pl.refl _,SO.nil _ _ _ _ _,SO.nil _ _ _ _ _⟩) fun⟨i,wv,uv⟩ K hQ=> ?_;simp only[cA,nA];obtain⟨hi1,lK,oU,oE⟩:=hQ;refine b9 ?_;refine g8 (b:=decide (((i:Nat):Int)<12)) rfl (fun pT=> ?_) (fun pT=> ?_)
 ·replace pT:=oDt pT;have tH:i<12:=aA;refine j6 ((c9l (k:= .i32) (k2:= .i32) (c:=97+i) aA rfl rfl aB aB).rds _) (j7 (d9y rfl tH)) ?_;simp only[cA,nA];refine j6 ((L3 (l:=[117]) (m:=[(97+i).toUInt8]) (vs:=[st [117],st [(97+i).toUInt8]]) rfl rfl rfl aD).rds _) rfl ?_;simp only[cA,nA];refine b4 (st_one _) ?_;obtain⟨X,lX1,lX2,oX,hX⟩:=Uu oU lK;have oE':=Yv oE hX (show(54:TypeId)≠35 by decide);refine Hy el_unit rfl rfl rfl aF aF lX2 oX (by rw[bD];omega) (j7 (e1s (nm:=[117,(97+i).toUInt8]) rfl)) (fun _=>j0 (VC (dm:=dm0) (n:=12) (k:=6) (ms:=3) (lv:=0) (who:=0) (w:=wv) (rw:=uv) (lo:=0) (hi:=12) rfl) rfl) rfl fun q6 u' K3 l3' o3'=> ?_;simp only[cA,nA];rw[c4D tH]at o3';refine b4 o3'.se.one ?_;have oU3:=o3'.less lX1;have oE3:=oE'.mono l3';have lK3:=lX1.trans l3';refine g8 (b:=decide (((i:Nat):Int)>0)) rfl (fun hg=> ?_) (fun hg=> ?_)
  ·replace hg:=oDt hg;have rI:0<i:=aA;refine b4 (el_int.vcells _) ?_;obtain⟨Y,lY1,lY2,oY,hY⟩:=Uu oE3 lK3;have oU3':=Yv oU3 hY (show(35:TypeId)≠54 by decide);refine Hy el_edge rfl rfl rfl aF aF lY2 oY (by unfold Wc;rw[bD];omega) (j7 (Vr (a:=i-1) (b:=i) (e1t rfl rI tH) rfl)) (fun _=>j0 (d5R (dm:=dm0) (n:=12) (k:=6) (ms:=3) (lv:=0) (who:=0) (w:=wv) (rw:=uv) (lo:=0) (hi:=12) rfl) rfl) rfl fun q7 w' K4 l4' o4'=> ?_;simp only[cA,nA];rw[c4C rI tH]at o4';refine b4 o4'.se.one ?_;exact⟨(i+1,w',u'),by show 12-(i+1)<12-i;omega,(j0 (p6 rfl aA) (P_e (S_u (n:=12) (k:=6) (ms:=3) (lv:=0) (who:=0) (w:=wv) (rw:=uv) (lo:=0) (hi:=12) (dm:=dm0) rfl rfl o3'.se.cells) rfl o4'.se.cells)),⟨by show i+1<=12;omega,lY1.trans l4',oU3'.mono l4',o4'.less lY1⟩⟩
  ·replace hg:=oDf hg;obtain rfl:i=0:=aA;exact⟨(1,wv,u'),by show 12-1<12-0;omega,(j0 (p6 rfl aA) (S_u (n:=12) (k:=6) (ms:=3) (lv:=0) (who:=0) (w:=wv) (rw:=uv) (lo:=0) (hi:=12) (dm:=dm0) rfl rfl o3'.se.cells)),⟨by show 1<=12;omega,lK3,oU3,oE3⟩⟩
 ·replace pT:=oDf pT;obtain rfl:i=12:=aA;have m26:=m25.trans lK;have hK:StM K wv uv es12 Lt:=⟨(rJ.mono m26).tb,oE.se,e1r oU.se⟩;have a1k:(3:Nat)=1->s8 Lt 12=true:=fun h=>by cases h
  refine g5 (SB (e:=3) hK BX a1k (.inr ⟨BZ,rfl⟩)) (j7 (Bm (n:=12) (k:=6) (ms:=3) (lv:=0) (who:=0) (w:=wv) (rw:=uv) (lo:=0) (hi:=12) (dm:=dm0) rfl)) ?_;rintro _ H27 ⟨l27,rfl⟩;refine nmI ?_;simp only[cA,nA];refine g7 (g7 ?_);refine g5 (c4t (e:=3) (hK.mono l27) BX a1k (.inr ⟨BZ,rfl⟩)) (j7 (Bm (n:=12) (k:=6) (ms:=3) (lv:=0) (who:=0) (w:=wv) (rw:=uv) (lo:=0) (hi:=12) (dm:=dm0) rfl)) ?_;rintro _ H28 ⟨l28,rfl⟩;refine nmI ?_;simp only[cA,nA];refine g7 (g7 ?_);refine g5 (c4u (gb:=true) (e:=3) (hK.mono (l27.trans l28)) BX a1k (.inr ⟨BZ,rfl⟩)) (j0 (Bm (n:=12) (k:=6) (ms:=3) (lv:=0) (who:=0) (w:=wv) (rw:=uv) (lo:=0) (hi:=12) (dm:=dm0) rfl) rfl) ?_;rintro _ H29 ⟨l29,xx,rfl⟩;refine nmI ?_;simp only[cA,nA];refine g7 (g7 (g7 ?_));refine b4 Zv ?_;have m29:=m26.trans (l27.trans (l28.trans l29));refine b4 rfl ?_;refine i9 of1 rfl fun H30 l30=> ?_;simp only[cA,nA];refine i9 CG rfl fun H31 l31=> ?_;simp only[cA,nA];refine b4 (r4 _ _) ?_;refine b4 (r4 _ _) ?_;refine Ba Vf (N:=1) (l:=[k11]) (vs:=[veM k11]) rfl aC aC rfl rfl (j7 (aa rfl rfl)) fun v37 H32 l32 o37 _=> ?_;simp only[cA,nA];refine g5 (ku o37.se) (rfl) ?_;rintro _ H33 ⟨l33,ca,rfl,hca⟩;refine⟨(fun _=>l33),?_⟩;simp only[cA,nA];have m33:=m29.trans (l30.trans (l31.trans (l32.trans l33)));refine s7 (c9k c1 c5) (j7 (Wg (Rx (VB (S_u (Bm (n:=4) (k:=2) (ms:=2) (lv:=0) (who:=0) (w:=w) (rw:=rw') (lo:=10) (hi:=30) (dm:=dm0) rfl) rfl k18) (a:=0) rfl) (a:=1) rfl) (a:=3) rfl)) ?_;simp only[cA,nA];have a5j:=a1j.mono (show Pl H14 H33 from l15.trans (l16.trans (l17.trans (l18.trans (l19.trans (l20.trans (l21.trans (l22.trans (l23.trans (l24.trans (l25.trans (lK.trans (l27.trans (l28.trans (l29.trans (l30.trans (l31.trans (l32.trans (l33)))))))))))))))))));have hzE:(3:Nat)=1->s8 usE 4=true:=fun h=>by cases h
  refine g5 (jx a5j soE hzE (by rw[pNE];decide) (by rw[pNE];decide) (AD soE hzE)) (rfl) ?_;rintro _ H34 ⟨l34,t34,mm,rfl,a1h,a1i⟩;refine⟨(fun _=>l34),?_⟩;simp only[cA,nA];obtain rfl:=e2Y a1i;refine g7 (g7 ?_);refine j4 (Bh (f:=47) (caps:= #[.pointer (some ⟨ca,0,none⟩)]) (vs:=[t34,ii 0]) rfl rfl rfl ab (Zu (l34 _ _ hca) a1h (o37.se.mono (l33.trans l34)))) rfl ?_;rintro _ _ ⟨rfl,rfl⟩;refine⟨(fun _=>Pl.refl _),?_⟩;simp only[cA,nA];refine b4 rfl ?_;refine g5 (Ip (dm:=dm0) (e:=180) c1 c2 (CC c1 c2 aC)) (j7 (S_n (Bm (n:=4) (k:=2) (ms:=2) (lv:=0) (who:=0) (w:=w) (rw:=rw') (lo:=10) (hi:=30) (dm:=dm0) rfl) (a:= -1) rfl)) ?_;rintro _ H35 ⟨l35,rfl⟩;refine⟨(fun _=>l35),?_⟩;simp only[cA,nA];refine b9 (b9 ?_);refine b4 rfl ?_;refine b9 ?_;refine b4 rfl ?_;refine b9 ?_;refine b4 rfl ?_;refine b9 ?_;refine b4 rfl ?_;refine b9 ?_;refine b4 rfl ?_;refine b9 ?_;refine b4 rfl ?_;refine i9 mz rfl fun H36 l36=> ?_;simp only[cA,nA];refine i9 CG rfl fun H37 l37=> ?_;simp only[cA,nA];refine b4 (r4 _ _) ?_;refine b4 (r4 _ _) ?_;refine Ba Vf (N:=1) (l:=[k21]) (vs:=[veM k21]) rfl aC aC rfl rfl (j7 (aa rfl rfl)) fun v45 H38 l38 o45 _=> ?_;simp only[cA,nA];refine g5 (ku o45.se) (rfl) ?_;rintro _ H39 ⟨l39,cb,rfl,zI⟩;refine⟨(fun _=>l39),?_⟩;simp only[cA,nA];have l2539:Pl H25 H39:=lK.trans (l27.trans (l28.trans (l29.trans (l30.trans (l31.trans (l32.trans (l33.trans (l34.trans (l35.trans (l36.trans (l37.trans (l38.trans l39))))))))))));refine j4 (Bh (f:=47) (caps:= #[.pointer (some ⟨cb,0,none⟩)]) (vs:=[ax,ii 0]) rfl rfl rfl ab (Zu zI (hax.mono l2539) (o45.se.mono l39))) rfl ?_;rintro _ _ ⟨rfl,rfl⟩;refine⟨(fun _=>Pl.refl _),?_⟩;simp only[cA,nA];refine b4 rfl ?_;refine Ba y6 (N:=4) (l:=[0,0,1,1]) (vs:=[ii 0,ii 0,ii 1,ii 1]) rfl aC aC rfl rfl rfl fun v48 H40 l40 o48 _=> ?_;simp only[cA,nA];refine s7 (mh (hay.mono (l2539.trans l40)) o48.se) rfl ?_;simp only[cA,nA];refine b4 rfl ?_;refine b9 ?_;refine b4 rfl ?_;refine b9 ?_;refine b4 rfl ?_;refine b9 ?_;exact c9 rfl ⟨lw.trans (l0.trans ((l2.trans l4).trans (m25.trans (l2539.trans l40)))),rfl⟩
end
end Go.Proofs.YtlmbepjdokomkaaGreatDoor
namespace Go.OP
open ChangeShapes WideShapes ChangeAt RowKit RX
def d5T {P:Program} {f:FuncId} {args:List Value} {H:PH} {W:World} (h:Con P f args H fun v H'=>v= .bool true/\Pl H H') (hW:H.In W):Calls P f args.toArray W fun e W'=>e= .returned (.bool true)/\Below W.heap.size W W':=
 (h W hW).mono fun _ _ ⟨_,_,he,hs,hv,hl⟩=>⟨by rw[he,hv],(hs.toExt hW hl).os,(hs.toExt hW hl).tape,(hs.toExt hW hl).output,(hs.toExt hW hl).size,(hs.toExt hW hl).blk⟩
open Go.ChangeShapes Go.WideShapes Go.ChangeAt Go.RowKit Go.RX
def b3M {H:Type} {enc:TypeId×Value->H} {P:Program} {W:World} {base:Nat} {sp:Nat->Bool} {a5k:Bool} {fuel n:Nat} {t e:TypeId} {k:IntKind} {cs:List Value} {vals:List Int} {q:List MemPlace}
  (hu:P.underlying t=some (.array n e)) (he:P.underlying e=some (.int k)) (hc:P.cellsOf e=1) (hct:P.cellsOf t=n) (h:DataW.trod enc P W base sp a5k fuel t cs=some (.agg (vals.map fun n=> .lit (.int k n)),q)):cs=vals.map fun n=> .int k n:=by
 obtain⟨xs,m,_,hx,hl,rK,hi⟩:=DataW.trod_array hu h;rw[hct]at hl;rw[hc]at hi;have hx:=congrArg Prod.fst hx;simp only[DataW.agg.injEq]at hx;have hvl:vals.length=n:=by have:=congrArg List.length hx;simp only[aW]at this;omega
 apply bG;intro i;by_cases h1:i<n
 ·have h2:=hi i h1;rw[Nat.mul_one]at h2;have hxi:i<xs.length:=aA;rw[aG hxi]at h2;obtain⟨z,h3,h4,_⟩:=DataW.trod_int he h2;have h5:=congrArg (fun l:List Value=>l[0]?) h3;simp only[dG,dI,cP,dY]at h5;have h6:=congrArg (fun l:List (DataW H)=>l[i]?) hx;simp only[aY,aG hxi,cJ,h4]at h6;have hvi:i<vals.length:=aA;rw[aG hvi]at h6;simp only[cJ,dF,DataW.lit.injEq,Lit.int.injEq,true_and]at h6;rw[aY,aG hvi,cJ,h6];simpa using h5
 ·rw[aP aA,aP (by simp;omega)]
end Go.OP
namespace Go.Proofs.YtlmbepjdokomkaaGreatDoor
open Go.Z
open Proofs.Tryz ChangeShapes WideShapes ChangeAt RowKit RX GS OP
def c4I:ownKnob prog.godebug=none:=aB
def b8H {W:World} (h:laidMet prog Rows.ensembleKnownRow.laid W):Tb (fun b=>W.heap[b]?):=by
 obtain⟨ps,⟨_,_,_,_,_,_,_,_,_,_,⟨g,t,cs,fuel,p,q,hg,ht,rU,hd,_,_⟩,_⟩,_⟩:=h;have rI:prog.globalNamed "math/bits.deBruijn64tab" =some 0:=aB;obtain rfl:=fG.inj (rI.symm.trans hg);have ht0:(prog.globals[0]?).map (·.type)=some 322:=aB;obtain rfl:=fG.inj (ht0.symm.trans ht);have pM:=b3M (k:= .u8) (e:=5) (n:=64) (vals:=tabL.map fun n:Nat=>(n:Int)) aB aB aB aB hd;unfold World.var? at rU;rw[rI]at rU;simp only[Option.bind_some]at rU;split at rU
 ·rename_i c T fz hh;simp only[dF]at rU;subst rU;refine⟨T,fz,?_⟩;show W.heap[0]? =_;rw[hh];congr 2;rw[<-cF,pM,List.map_map];rfl
 ·cases rU
def a2O {H:Type} {enc:TypeId×Value->H} {a:Assume} {C:Checked} {os:Os} {f:FuncId} {fn:Func} {s:ChangeSpec} {conds:List PathCond} {apart fresh vE again:Bool} {X:World->Array Value->Prop}
  (hX:∀(w w':World) (args:Array Value),w.heap=w'.heap->X w args->X w' args)
  (own:ownKnob C.prog.godebug=none) (started:os.Started) (noInit:C.prog.inits.idxOf? f=none) (hfn:C.prog.funcs[f]? =some fn)
  (witness:∃(w:World) (tape:Tape) (i:Input),w.os=os/\(w.forCall tape i).Shaped C.prog/\i.vars=[]/\Input.okWide C.prog (w.forCall tape i) .any w.heap.size f i/\
   ((s.pre enc C.prog fn conds apart (w.forCall tape i).memory i.args/\X (w.forCall tape i).memory i.args)/\sizedMet enc C.prog fn (OpenSpec.ofChange s) apart (w.forCall tape i).memory i.args)/\a.holds C.prog (lone (Frame.enter C.prog f i.args .normal) [] (w.forCall tape i)))
  (contract:∀(W:World) (base:Nat) (args:Array Value) (ds gs:List (DataW H)) (before:List MemPlace),
   (∀(j:Nat) t v,fn.params[j]? =some t->args[j]? =some v->Value.okWide C.prog W .any base t v)->
   DataW.Whole enc C.prog fn.params.toList s.vars apart W args.toList ds gs before->
   X W args->W.ShapedOpen C.prog->
   Calls C.prog f args W fun e W'=>∃v,e= .returned v/\s.post enc C.prog fn apart fresh vE again W args v W'):
  ReturnsInHanded a C os f .any (fun w args=>(s.pre enc C.prog fn conds apart w args/\X w args)/\sizedMet enc C.prog fn (OpenSpec.ofChange s) apart w args) (s.post enc C.prog fn apart fresh vE again):=by
 refine returnsInHanded_of_calls own started noInit witness ?_;intro w tape i _ hsh _ pK pA _;obtain⟨_,_,_,fn',a5l,_,_,_,_,a5m⟩:=pK;have e:fn'=fn:=fG.inj (a5l.symm.trans hfn);subst e;obtain⟨⟨⟨ds,gs,before,hw,_⟩,hx⟩,_⟩:=pA;have qS:=DataW.Whole.of_heap (w':=w.forCall tape i) (by rfl) hw;refine(contract (w.forCall tape i) w.heap.size i.args ds gs before a5m qS (hX _ _ _ (by rfl) hx) hsh).mono fun e W' ⟨v,he,hp⟩=> ?_;subst he;exact ChangeSpec.post_blind hp
def a4F (os:Os) (started:os.Started) (H:Type) (enc:TypeId×Value->H):
  ReturnsInHanded {} Tryz.checked os 3 .any (fun w args=>(Rows.ensembleKnownSpec.pre enc prog f3 [] false w args/\laidMetH prog Rows.ensembleKnownRow.laid w)/\sizedMet enc prog f3 (OpenSpec.ofChange Rows.ensembleKnownSpec) false w args)
   (Rows.ensembleKnownSpec.post enc prog f3 false true false false):=by
 refine a2O (C:=Tryz.checked) (X:=fun w _=>laidMetH prog Rows.ensembleKnownRow.laid w) (fun _ _ _ hh h=>h.of_heap hh) c4I started aB Tryz.func3
  (ChangeSpec.witness_shaped (enc:=enc) (C:=Tryz.checked) (os:=os) (X:=fun w _=>laidMetH prog Rows.ensembleKnownRow.laid w) false (World.laidAll prog os Rows.ensembleKnownRow.laid) #[] 8 (World.laidAll_os _ _ _)
   (World.shaped_of_ZipB aB aB) aB aB aB
   (by rw[MakeChecks.laidMetH_plain _ _ _ aB];exact laidMet_laidAll _ aB aB)) ?_
 intro W base args ds gs before _ hW hX hSh;have hTb:=b8H (W:=W) (by rw[<-MakeChecks.laidMetH_plain _ _ _ aB];exact hX);have hW':=hW;obtain⟨p,q,hA0,hV,rfl,hfz,uE⟩:=hW;have hA:DataW.TrodAll enc prog W 0 (fun _=>true) true f3.params.toList args.toList ds p:=hA0;rw[Tryz.params3]at hA;obtain⟨pQ,rfl,rfl⟩:=trodAll_nil hA;obtain rfl:args= #[]:=by cases args;simp_all
 obtain⟨rfl,rfl⟩:=trodVars_none hV;clear hA0;have a1d:Con prog 3 [] (fun b=>W.heap[b]?) fun v H'=>v= .bool true/\Pl (fun b=>W.heap[b]?) H':=(c9m hTb).mono fun u H' ⟨g1,g2⟩=>⟨g2,g1⟩;refine(d5T a1d (W:=W) (H:=fun b=>W.heap[b]?) (fun b o hb=>hb)).mono fun e W' ⟨he,bel⟩=> ?_;subst he;exact⟨_,rfl,_,_,_,[],_,[],hW',trodAll_mk1 (shut_bool aB _),trodAll_mk0,rfl,bel.frame _,fun h=>by cases h⟩
open Go.ChangeShapes Go.WideShapes Go.ChangeAt Go.RowKit Go.RX Go.GS Go.OP
def kf1:Rows.ensembleKnownRow.wf (OpenSpec.ofChange Rows.ensembleKnownSpec)=true:=aB
def kf2:laidOutB prog=true:=aB
def kf3:mapsRowed prog=true:=aB
def kf4:(f3.params.all (prog.readableRec ·))=true:=aB
def kf5:namedTie prog Rows.ensembleKnownRow.named Rows.ensembleKnownSpec.vars=true:=aB
def kf6:(Rows.ensembleKnownRow.stops==[])=true:=aB
def kf7:(prog.stops==[])=true:=aB
def kf8:(Rows.ensembleKnownRow.knobs==[])=true:=aB
def kf9:(prog.stopKnobs==[])=true:=aB
def e2Z:(Rows.ensembleKnownRow.inPlace==prog.inPlace 3)=true:=aB
def e3a:(Rows.ensembleKnownRow.unfollowed==prog.unfollowed 3)=true:=aB
def e3b:(Rows.ensembleKnownRow.recurses==prog.recurses 3)=true:=aB
def e3c:(Rows.ensembleKnownRow.named==prog.varsNamed 3)=true:=aB
def e3d:(Rows.ensembleKnownRow.maps==(f3.params.toList++Rows.ensembleKnownSpec.plain.varTypes prog).any (prog.mapsRec ·))=true:=aB
def e3e:(Rows.ensembleKnownRow.ifaces==(f3.params.toList++Rows.ensembleKnownSpec.plain.varTypes prog).any (prog.ifacesRec ·))=true:=aB
def e3f:(Rows.ensembleKnownRow.mapsOut==prog.mapsAmong f3.resultTypes.toList)=true:=aB
def e3g:(Rows.ensembleKnownRow.loops==(f3.params.toList++Rows.ensembleKnownSpec.plain.varTypes prog).any (prog.loopsFrom ·))=true:=aB
def e1u:(Rows.ensembleKnownRow.wideKeys==(f3.params.toList++Rows.ensembleKnownSpec.plain.varTypes prog++f3.resultTypes.toList).any (prog.wideKeysFrom ·))=true:=aB
def e3h:(Rows.ensembleKnownSpec.vars.all (prog.varReadable ·))=true:=aB
def e3i:f3.resultTypes.all (fun t=>prog.readableRec t&&decide (t<prog.types.size))=true:=aB
def e3j:(Rows.ensembleKnownRow.ifacesOut==f3.resultTypes.toList.any (prog.ifacesRec ·))=true:=aB
def e3k:(Rows.ensembleKnownRow.loopsOut==f3.resultTypes.toList.any (prog.loopsFrom ·))=true:=aB
def e3l:(Rows.ensembleKnownRow.plainKeys==prog.plainKeys)=true:=aB
def e3m:Rows.ensembleKnownRow.shortTexts.isNone=true:=aB
def e1v:prog.stopsHeard=true:=aB
def e3n:prog.mayEnter=true:=aB
def e1w:(Rows.ensembleKnownRow.lifted==prog.liftsFinal)=true:=aB
def e1x:(prog.make==some Rows.ensembleKnownRow.make)=true:=aB
def e3o:(Rows.ensembleKnownRow.kinds==(if Rows.ensembleKnownRow.domain.isEmpty then[]else f3.params.toList.map fun t=>match prog.underlying t with|some (.int k)=>some k|_=>none))=true:=aB
def e3p:(Rows.ensembleKnownRow.pinned==Rows.ensembleKnownRow.pinnedBy)=true:=aB
def e3q:(Rows.ensembleKnownRow.veiled==(f3.params.toList++Rows.ensembleKnownSpec.plain.varTypes prog++f3.resultTypes.toList).any (prog.veiledRec ·))=true:=aB
def e3r:Rows.ensembleKnownRow.veiledFits prog f3.params.toList (f3.params.toList++Rows.ensembleKnownSpec.plain.varTypes prog++f3.resultTypes.toList)=true:=aB
def d9z:joinedFacts prog 3 f3 Rows.ensembleKnownSpec Rows.ensembleKnownRow=true:=by
 unfold joinedFacts;simp only[aT];exact⟨⟨⟨⟨⟨⟨⟨⟨⟨⟨⟨⟨⟨⟨⟨⟨⟨⟨⟨⟨⟨⟨⟨⟨⟨⟨⟨⟨⟨⟨⟨kf1,kf2⟩,kf3⟩,kf4⟩,kf5⟩,kf6⟩,kf7⟩,kf8⟩,kf9⟩,e2Z⟩,e3a⟩,e3b⟩,e3c⟩,e3d⟩,e3e⟩,e3f⟩,e3g⟩,e1u⟩,e3h⟩,e3i⟩,e3j⟩,e3k⟩,e3l⟩,e3m⟩,e1v⟩,e3n⟩,e1w⟩,e1x⟩,e3o⟩,e3p⟩,e3q⟩,e3r⟩
def a5X:Rows.ensembleKnownRow.holds Tryz.pinned (OpenSpec.ofChange Rows.ensembleKnownSpec):=
 OpenClaim.holds_of_wide 3 f3 rfl rfl rfl rfl rfl rfl rfl ⟨rfl,rfl,rfl,rfl,rfl⟩ rfl rfl rfl rfl rfl aB Tryz.func3 d9z
  (oDt aB) (by unfold Func.isWrapper;first|(rw[if_pos (by decide+kernel)];kernel_rfl)|(rw[if_neg (by decide+kernel)];exact⟨rfl,rfl⟩))
  (fun os started H enc _=>a4F os started H enc)
open Go.ChangeShapes Go.WideShapes Go.ChangeAt Go.RowKit Go.RX Go.GS Go.OP
def c4J {P:Program} (h:P.funcs.toList.all (fun f=> !f.goes)=true) (f:FuncId):P.goes f=false:=by
 have hg:∀fn:Func,fn∈P.funcs->fn.goes=false:=fun fn hm=>by
  have:=dC.1 h fn (gV.2 hm);simpa using this
 have h1:((P.closure f).any fun g=>(P.funcs[g]?).any Func.goes)=false:=by
  rw[List.any_eq_false];intro g _;cases e:P.funcs[g]? with
  |none=>simp
  |some fn=>simp[hg fn (lL e)]
 have h2:P.funcs.any Func.goes=false:=by
  rw[Array.any_eq_false];intro i hi;simp[hg _ (Array.getElem_mem hi)]
 unfold Program.goes;rw[h1,h2];simp
def b5i {P:Program} {c:OpenClaim} (hs:c.start= .entering) (h:P.funcs.toList.all (fun f=> !f.goes)=true):false=c.goesBy P:=by
 unfold OpenClaim.goesBy Program.goesAt Program.goesFrom;rw[hs];cases P.funcNamed c.func with
 |none=>rfl
 |some f=>simp[c4J h f]
def d5U:false=Rows.ensembleKnownRow.goesBy prog:=b5i rfl aB
theorem ensembleKnown_card:Rows.EnsembleKnownCardSaid:=
 Claim7.holds_tied_plain_at .later [] [.data,.data,.data,.pinned] true (true, "8fedb49b4f57e4313cd111cc48c3284b3e544a99b4f8387e9f0a67e8495debea") true a5X (fun _ h=>by cases h) aB (fun _ h=>by cases h) ensembleKnown_row_tie rfl ⟨rfl,rfl⟩ aB rfl
  (fun f fn hf hfn=>by
   obtain rfl:f=3:=fG.inj ((show prog.funcNamed "wardmote/wardmotelaw37.EnsembleKnown" =some 3 by kernel_rfl).symm.trans hf)|>.symm;obtain rfl:fn=f3:=(fG.inj (Tryz.func3.symm.trans hfn)).symm;exact⟨aB,fun j t ht=>by
    have hm:t∈f3.params.toList:=gV.2 (lL ht);have qM:(f3.params.toList.all fun u=> !prog.wantsStandIn u)=true:=aB;exact(show prog.wantsStandIn t=false by simpa using dC.1 qM t hm)⟩)
  (by exact d5U)
#print axioms ensembleKnown_card
end Go.Proofs.YtlmbepjdokomkaaGreatDoor

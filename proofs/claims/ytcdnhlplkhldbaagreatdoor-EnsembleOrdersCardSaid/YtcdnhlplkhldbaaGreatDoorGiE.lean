/- Lemmas of the proof. -/
import Derived.Test.YtcdnhlplkhldbaaGreatDoorGiC
import Derived.Laws.Build
open Array renaming ext'->fZ,replicate->eV
open Bool renaming false_and->jG,false_or->jJ,not_false->jF,not_true->lY,or_false->pD,true_and->iV
open Go.Result renaming andThen_ok->eJ
open Go.Sem renaming run_bind->eK
open List renaming cons->lW,countP_le_length->gV,length_range->gY
open Nat renaming lt_irrefl->iZ,zero_min->nJ
set_option linter.all false
set_option maxRecDepth 100000
namespace Go.GS
def Be (g:Bool) (v b:Rat):Bool:=(g&&decide (b<v))||(!g&&decide (v<b))
end Go.GS
namespace Go.Z
open Proofs.Tryz RowKit RX GS RZ WD
section
variable {dm:Dm} {H B:PH} {n k ms lv who:Nat} {es:List (Nat×Nat)} {us:List Un} {w rw wts u v:Value} {lo hi:Int} {b i:Nat} {p:List Int} {l:List Rat}
def e4S (a c:Rat):Value.agg ((shw a++shw c).extract 0 16)=shR a:=by
 rw[Di];congr 1;apply fZ;have:=Az a;simp[aI,this]
def e4T (a c:Rat):Value.agg ((shw a++shw c).extract 16 32)=shR c:=by
 rw[Di];congr 1;apply fZ;have h1:=Az a;have h2:=Az c;simp[aI,h1,h2]
def qc (hu:SI H u p) (ho:dc n k es us lo hi p) (hM:StM H w rw es us) (hS:StOk dm n k ms lv who es us lo hi) (hz:ms=1->s5 us n=true) (hp:0<p7 n k es us lo hi) (hN:p7 n k es us lo hi<=400) (hr:∀r∈vlL dm n k ms lv who es us lo hi,Rg r) (tN:Rg (An dm n es us k ms lv who p)):
  Con prog 9 [stV dm n k ms lv who w rw lo hi,u] H fun r H'=>Pl H H'/\∃m,TalP (vlL dm n k ms lv who es us lo hi) m/\r= .tuple #[shR (rkA dm n k ms lv who es us lo hi p m),shR (rkB dm n k ms lv who es us lo hi p m),ii 0]:=by
 refine g5 mixed UF ?_;refine b4 (En (t8 hM.gr) hM.ro.one) ?_;refine o0 (cs:=(stC dm n k ms lv who w rw lo hi).toArray) rfl fun a ha=> ?_;have la:=PH.le_put ha (.cells (stC dm n k ms lv who w rw lo hi).toArray 38 (0,0));refine b4 (hu.one) ?_;refine o0 (cs:= #[u]) hu.cells fun c hc=> ?_;have lc:=PH.le_put hc (.cells #[u] 40 (0,0));refine y8 (Ai (vs:=[.pointer (some ⟨a,0,none⟩),.pointer (some ⟨c,0,none⟩)]) rfl rfl) rfl ?_;refine f0 (Px (caps:=[.pointer (some ⟨a,0,none⟩),.pointer (some ⟨c,0,none⟩)]) mixed EG VJ VI (c5y (lc _ _ (PH.put_self _ _ _)) (PH.put_self _ _ _) (hu.mono (la.trans lc)) ho (hM.mono (la.trans lc)) hS hz hp hN hr tN) (fun _ _ h=>by obtain⟨_,_,_,rfl⟩:=h;exact e4R _ _)) rfl ?_;rintro _ H4 ⟨t,⟨l4,m,hT,rfl⟩,rfl⟩;refine nmI ?_;refine g7 (g7 ?_);refine b4 (EH _ _) ?_;exact d4 rfl ⟨(la.trans lc).trans l4,m,hT,by show Value.tuple #[_,_,_]=_;rw[<-e4S (rkA dm n k ms lv who es us lo hi p m) (rkB dm n k ms lv who es us lo hi p m),<-e4T (rkA dm n k ms lv who es us lo hi p m) (rkB dm n k ms lv who es us lo hi p m)];rfl⟩
def foC (pl:Value) (r:Rat):Array Value:= #[pl]++shw r
def e1B:FA prog 115 0 0:=⟨aB,oDt aB,aB,aB,oDt aB⟩
def e1C:FA prog 115 1 1:=⟨aB,oDt aB,aB,aB,oDt aB⟩
def c5Y:n8 prog 44=true:=aB
def d0T (pl:Value) (r:Rat):((foC pl r).toList.drop (0+1)).take (shw r).toList.length=(shw r).toList:=by
 have h:(shw r).toList.length=16:=aD;unfold foC;rw[h];simp[aI]
def sgR_pos {a b:Rat}:sgR a b>0↔b<a:=by
 unfold sgR;split
 ·rename_i h;exact⟨fun e=>absurd e aC,fun e=>absurd e (Rat.not_lt.2 (Rat.le_of_lt h))⟩
 ·rename_i h;split
  ·rename_i e;subst e;exact⟨fun e=>absurd e aC,fun e=>absurd e Rat.lt_irrefl⟩
  ·rename_i e;exact⟨fun _=>Rat.lt_of_le_of_ne (Rat.not_lt.1 h) (fun h2=>e h2.symm),fun _=>aC⟩
def b9w {f g:Nat} {T T2:TypeId} {pl:Value} {r q:Rat} {gb:Bool} (hf:H f=some (.cells (foC pl q) T (0,0))) (hg:H g=some (.cells #[.bool gb] T2 (0,0))) (hr:Rg r) (hq:Rg q):j4 prog 44 [shR r,.pointer (some ⟨f,0,none⟩),.pointer (some ⟨g,0,none⟩)] H (.bool (Be gb r q)):=by
 refine g5 mixed d0D ?_;refine b4 (j7 _ _) ?_;refine g8 e1C ?_;simp only[cA,nA];refine x5 (vs:=(shw q).toList) (Xi q) rfl rfl hf (d0T pl q) (by unfold foC;simp) rfl ?_;simp only[cA,nA];refine i8 (UJ hr hq) (i0 rfl (Di q).symm) fun H1 l1=> ?_;simp only[cA,nA];refine g7 (g7 ?_);refine j9 (UI _) rfl ?_;simp only[cA,nA];refine g9 Hw rfl rfl (l1 _ _ hg) rfl rfl ?_;simp only[cA,nA];refine b9 ?_;refine g6 (b:=gb) rfl (fun h1=> ?_) (fun h1=> ?_)
 ·skip
  refine b9 ?_;refine g6 (b:=decide (sgR r q>0)) rfl (fun h2=> ?_) (fun h2=> ?_)
  ·replace h2:=oDt h2;exact d4 rfl ⟨l1,by unfold Be;rw[h1,oDd (sgR_pos.1 h2)];rfl⟩
  ·replace h2:=oDf h2;refine g9 Hw rfl rfl (l1 _ _ hg) rfl rfl ?_;simp only[cA,nA];refine b9 ?_;refine i7 (by rw[h1];rfl) ?_;exact d4 rfl ⟨l1,by unfold Be;rw[h1,decide_eq_false (fun e=>h2 (sgR_pos.2 e))];rfl⟩
 ·skip
  refine g9 Hw rfl rfl (l1 _ _ hg) rfl rfl ?_;simp only[cA,nA];refine b9 ?_;refine Aq (by rw[h1];rfl) ?_;refine b9 ?_;exact d4 rfl ⟨l1,by unfold Be;rw[h1];show Value.bool (decide (sgR r q<0))= .bool (false||decide (r<q));rw[jJ];congr 1;exact decide_eq_decide.2 sgR_neg⟩
end
end Go.Z
namespace Go.RX
open RowKit
section
variable {P:Program} {ρ:List Value} {x y:SV} {o n:Nat} {l m:List Value} {v w:Value}
def Cj (hx:D P ρ x= .agg l.toArray):D P ρ (.sub x o n 0 noI)= .agg ((l.drop o).take n).toArray:=by
 show Value.agg ((D P ρ x).cells.extract (o+0*t6 (D P ρ noI)) (o+0*t6 (D P ρ noI)+n))=_;rw[hx,bV,cJ];congr 1;apply fZ;show(l.toArray.extract o (o+n)).toList=_;simp[List.extract_eq_take_drop]
def Kr (hx:D P ρ x= .agg l.toArray) (hy:D P ρ y= .agg m.toArray):D P ρ (.cat x n y)= .agg (l++m).toArray:=by
 show Value.agg ((D P ρ x).cells++(D P ρ y).cells)=_;rw[hx,hy];congr 1;apply fZ;show(l.toArray++m.toArray).toList=_;simp
def Bt (hx:D P ρ x=v) (hv:v.cells= #[v]) (hy:D P ρ y= .agg m.toArray):D P ρ (.cat x n y)= .agg (v::m).toArray:=by
 show Value.agg ((D P ρ x).cells++(D P ρ y).cells)=_;rw[hx,hy,hv];congr 1;apply fZ;show(#[v]++m.toArray).toList=_;simp
def qd (hx:D P ρ x=v) (hv:v.cells= #[v]) (hy:D P ρ y=w) (hw:w.cells= #[w]):D P ρ (.cat x n y)= .agg [v,w].toArray:=by
 show Value.agg ((D P ρ x).cells++(D P ρ y).cells)=_;rw[hx,hy,hv,hw];rfl
def Ya:List Value->Nat->List Value->List Value
 |l,_,[]=>l
 |l,o,y::ys=>Ya (l.set o y) (o+1) ys
def ES:∀(m l:List Value) (o:Nat),spl l.toArray o m=(Ya l o m).toArray
 |[],_,_=>rfl
 |y::ys,l,o=>by
  show spl (l.toArray.setIfInBounds o y) (o+1) ys=(Ya (l.set o y) (o+1) ys).toArray;rw[<-ES ys];congr 1;simp
def WA (hx:D P ρ x= .agg l.toArray) (hy:D P ρ y= .agg m.toArray):D P ρ (.put x o n y 0 noI)= .agg (Ya l o m).toArray:=by
 show Value.agg (spl (D P ρ x).cells (o+0*t6 (D P ρ noI)) (D P ρ y).cells.toList)=_;rw[hx,hy,bV,cJ,<-ES];rfl
def Np (hx:D P ρ x= .agg l.toArray) (hy:D P ρ y=v) (hv:v.cells= #[v]):D P ρ (.put x o n y 0 noI)= .agg (l.set o v).toArray:=by
 show Value.agg (spl (D P ρ x).cells (o+0*t6 (D P ρ noI)) (D P ρ y).cells.toList)=_;rw[hx,hy,hv,bV,cJ];exact congrArg Value.agg (ES [v] l o)
def Gv (hx:D P ρ x= .agg l.toArray):D P ρ (.cell x o 0 noI)=l.getD o undef:=by
 show(D P ρ x).cells.getD (o+0*t6 (D P ρ noI)) undef=_;rw[hx,bV,cJ];show l.toArray.getD o undef=_;simp[bD,aJ]
end
end Go.RX
namespace Go.GS
def d7N {us:List Un} {n:Nat} (h:n<=us.length):(wlU us n).length=n:=by
 unfold wlU;rw[aR,bH];omega
end Go.GS
namespace Go.Z
open Proofs.Tryz RowKit RX GS RZ WD
def e3A {dm:Dm} {us:List Un} {n k:Nat} {lo hi:Int} (hv:RoV dm n us) (hk:1<=k/\k<=8) (h0:0<=lo) (h1:lo<=hi):av n (wlU us n) lo hi (k:Nat):=by
 refine⟨d7N hv.le,h0,h1,aA,aA,fun x hx=> ?_⟩;obtain⟨y,hy,rfl⟩:=aZ.1 hx;have:=Iy hv y (cM hy);exact this
section
variable {H:PH} {a b c s:Value} {ps ls xs:List Nat} {ms:List (Nat×Nat)} {nn kk g p l wa un le mo me lv wh:Nat}
def b9x (hs:SE H 1 cU8 s xs) (h8:∀x∈xs,x<256) {n:Nat} (hn:n<=6):Con prog 25 [Nn g p l wa s,ii (n:Nat)] H fun r H'=>Pl H H'/\∃u,r=rov d232 u/\RoR H' u (usF xs n (wa%2)):=by
 refine g5 mixed c5K ?_;refine b4 (pq (t8 hs) g p l wa) ?_;refine f0 (b9v (wa:=wa) hs h8 hn) (i0 (Bt (v:= .int .u8 2) rfl rfl (Bt (v:= .int .u8 3) rfl rfl (Bt (v:= .int .u8 2) rfl rfl (Cj (Cj (Cj (l:=[.int .u8 (g:Nat),.int .u8 (p:Nat),.int .u8 (l:Nat),.int .u8 (wa:Nat),s]) rfl)))))) rfl) ?_;rintro _ H2 ⟨l2,u,rfl,hr⟩;refine nmI ?_;refine b4 (Gp hr.one) ?_;exact d4 rfl ⟨l2,u,rfl,hr⟩
def Gw (nn kk:Nat) (a b c:Value) (g p l wa:Nat) (s:Value) (un le mo me lv wh:Nat):Value:= .agg #[.int .u8 (nn:Nat),a,b,c,.int .u8 (kk:Nat),.int .u8 (g:Nat),.int .u8 (p:Nat),.int .u8 (l:Nat),.int .u8 (wa:Nat),s,.int .u8 (un:Nat),.int .u8 (le:Nat),.int .u8 (mo:Nat),.int .u8 (me:Nat),.int .u8 (lv:Nat),.int .u8 (wh:Nat)]
def WB (h:D21 H a b c ps ls ms) (hs:y6 s=true):(Gw nn kk a b c g p l wa s un le mo me lv wh).cells.size=16/\j0 (Gw nn kk a b c g p l wa s un le mo me lv wh).cells:=by
 refine⟨rfl,fun x hx=> ?_⟩;rw[Gw,Gh]at hx;simp only[bG,cF,or_false]at hx;have h1:=t8 h.pr;have h2:=t8 h.mo;have h3:=t8 h.la;rcases hx with rfl|rfl|rfl|rfl|rfl|rfl|rfl|rfl|rfl|rfl|rfl|rfl|rfl|rfl|rfl|rfl<;>first|rfl|assumption
def ET {ρ:List Value} {x y:SV} (hx:D prog ρ x=Gw nn kk a b c g p l wa s un le mo me lv wh) (hy:D prog ρ y=ii 6) (hu:un<256):D prog ρ (.sub (.cat (.cv .u8 (.op2 .rem .i64 (.cv .i64 (.cell x 10 0 noI)) y)) 1 (.sub x 1 15 0 noI)) 0 5 0 noI)=Je (un%6) kk a b c:=by
 have e0:D prog ρ (.cell x 10 0 noI)= .int .u8 (un:Nat):=by
  show(D prog ρ x).cells.getD (10+0*t6 (D prog ρ noI)) undef=_;rw[hx,bV];rfl
 have e1:D prog ρ (.cv .u8 (.op2 .rem .i64 (.cv .i64 (.cell x 10 0 noI)) y))= .int .u8 ((un%6:Nat):Int):=by
  show Value.int .u8 (IntKind.u8.wrap (intOf (D prog ρ (.op2 .rem .i64 (.cv .i64 (.cell x 10 0 noI)) y))))=_;rw[Hz (Kq e0 hu) (m:=6) hy];show Value.int .u8 (IntKind.u8.wrap ((un%6:Nat):Int))=_;rw[show IntKind.u8.wrap ((un%6:Nat):Int)=((un%6:Nat):Int) by rw[IntKind.wrap_u8];omega]
 exact Cj (Bt e1 rfl (Cj (l:=[.int .u8 (nn:Nat),a,b,c,.int .u8 (kk:Nat),.int .u8 (g:Nat),.int .u8 (p:Nat),.int .u8 (l:Nat),.int .u8 (wa:Nat),s,.int .u8 (un:Nat),.int .u8 (le:Nat),.int .u8 (mo:Nat),.int .u8 (me:Nat),.int .u8 (lv:Nat),.int .u8 (wh:Nat)]) hx))
def e3B {ρ:List Value} {x:SV} (hx:D prog ρ x=Gw nn kk a b c g p l wa s un le mo me lv wh):D prog ρ (.sub (.sub x 1 15 0 noI) 4 5 0 noI)=Nn g p l wa s:=by
 exact Cj (Cj (l:=[.int .u8 (nn:Nat),a,b,c,.int .u8 (kk:Nat),.int .u8 (g:Nat),.int .u8 (p:Nat),.int .u8 (l:Nat),.int .u8 (wa:Nat),s,.int .u8 (un:Nat),.int .u8 (le:Nat),.int .u8 (mo:Nat),.int .u8 (me:Nat),.int .u8 (lv:Nat),.int .u8 (wh:Nat)]) hx)
def du {ρ:List Value} {x:SV} (hx:D prog ρ x=Gw nn kk a b c g p l wa s un le mo me lv wh):D prog ρ (.cell (.sub x 1 15 0 noI) 10 0 noI)= .int .u8 (le:Nat)/\D prog ρ (.cell (.sub x 1 15 0 noI) 11 0 noI)= .int .u8 (mo:Nat)/\D prog ρ (.cell (.sub x 1 15 0 noI) 12 0 noI)= .int .u8 (me:Nat)/\D prog ρ (.cell (.sub x 1 15 0 noI) 13 0 noI)= .int .u8 (lv:Nat)/\D prog ρ (.cell (.sub x 1 15 0 noI) 14 0 noI)= .int .u8 (wh:Nat):=by
 have e2:∀j,D prog ρ (.cell (.sub x 1 15 0 noI) j 0 noI)=[a,b,c,.int .u8 (kk:Nat),.int .u8 (g:Nat),.int .u8 (p:Nat),.int .u8 (l:Nat),.int .u8 (wa:Nat),s,.int .u8 (un:Nat),.int .u8 (le:Nat),.int .u8 (mo:Nat),.int .u8 (me:Nat),.int .u8 (lv:Nat),.int .u8 (wh:Nat)].getD j undef:=fun j=>Gv (Cj (l:=[.int .u8 (nn:Nat),a,b,c,.int .u8 (kk:Nat),.int .u8 (g:Nat),.int .u8 (p:Nat),.int .u8 (l:Nat),.int .u8 (wa:Nat),s,.int .u8 (un:Nat),.int .u8 (le:Nat),.int .u8 (mo:Nat),.int .u8 (me:Nat),.int .u8 (lv:Nat),.int .u8 (wh:Nat)]) hx);exact⟨e2 10,e2 11,e2 12,e2 13,e2 14⟩
def d7P:j3 prog 36= .agg [ii 0,ii 0,ii 0,.slice none 0 0].toArray:=aB
section
variable {ρ:List Value} {n k:Nat} {w rw q:Value}
def d7Q:D prog ρ (.z 36)= .agg [ii 0,ii 0,ii 0,.slice none 0 0].toArray:=d7P
def Yb:D prog ρ (.z 3)=ii 0:=dj
def WC (h3:D prog ρ (.v 3)=gv n w) (h5:D prog ρ (.v 5)=rov d232 rw):D prog ρ EJ= .agg [ii (n:Nat),w,ii (d232.g:Nat),ii (d232.p:Nat),ii (d232.l:Nat),rw,ii 0,ii 0,ii 0,ii 0,ii 0,ii 0].toArray:=
 WA (l:=[ii (n:Nat),w,ii 0,ii 0,ii 0,.slice none 0 0,ii 0,ii 0,ii 0,ii 0,ii 0,ii 0]) (m:=[ii (d232.g:Nat),ii (d232.p:Nat),ii (d232.l:Nat),rw]) (Kr (l:=[ii (n:Nat),w]) h3 (Kr d7Q (Bt Yb rfl (Bt Yb rfl (Bt Yb rfl (Bt Yb rfl (qd Yb rfl Yb rfl))))))) h5
def WE (h0:D prog ρ (.v 0)=Gw nn kk a b c g p l wa s un le mo me lv wh) (h2:D prog ρ (.v 2)= .tuple #[q,ii (k:Nat)]) (h3:D prog ρ (.v 3)=gv n w) (h5:D prog ρ (.v 5)=rov d232 rw):D prog ρ EK= .agg [ii (n:Nat),w,ii (d232.g:Nat),ii (d232.p:Nat),ii (d232.l:Nat),rw,ii (k:Nat),ii 0,ii 0,ii ((1+me%8:Nat):Int),ii 0,ii 0].toArray:=
 Np (Kr (Cj (WC h3 h5)) (Bt (v:=ii (k:Nat)) (by show Ks 1 (D prog ρ (.v 2))=_;rw[h2];rfl) rfl (Cj (WC h3 h5)))) (EM (m:=8) (mi:=8) (du h0).2.2.1 rfl aC aC) rfl
def qe (h0:D prog ρ (.v 0)=Gw nn kk a b c g p l wa s un le mo me lv wh) (h2:D prog ρ (.v 2)= .tuple #[q,ii (k:Nat)]) (h3:D prog ρ (.v 3)=gv n w) (h5:D prog ρ (.v 5)=rov d232 rw):D prog ρ Ur=stV d232 n k (1+me%8) (lv%2) (wh%2) w rw 0 0:=
 Np (Kr (Cj (WE h0 h2 h3 h5)) (Bt (ER (m:=2) (mi:=2) (du h0).2.2.2.1 rfl aC aC) rfl (Cj (WE h0 h2 h3 h5)))) (ER (m:=2) (mi:=2) (du h0).2.2.2.2 rfl aC aC) rfl
def WF {lo hi:Int} (h0:D prog ρ (.v 0)=Gw nn kk a b c g p l wa s un le mo me lv wh) (h2:D prog ρ (.v 2)= .tuple #[q,ii (k:Nat)]) (h3:D prog ρ (.v 3)=gv n w) (h5:D prog ρ (.v 5)=rov d232 rw) (xX:mo<256) (h7:D prog ρ (.v 7)=ii hi) (h9:D prog ρ (.v 9)=ii lo) (hb:0<=hi/\hi<1000000000000):D prog ρ Xv=stV d232 n k (1+me%8) (lv%2) (wh%2) w rw lo (hi+(mo:Nat)):=
 Kr (Cj (l:=stC d232 n k (1+me%8) (lv%2) (wh%2) w rw 0 0) (qe h0 h2 h3 h5)) (Bt h9 rfl (Bt (Hm h7 (Kq (du h0).2.1 xX) aA aA) rfl (Cj (Cj (l:=stC d232 n k (1+me%8) (lv%2) (wh%2) w rw 0 0) (qe h0 h2 h3 h5)))))
end
end
section
variable {H:PH} {a b c s:Value} {ps ls xs:List Nat} {ms:List (Nat×Nat)} {nn kk g p l wa un le mo me lv wh:Nat}
def e4U (H:PH) (r:Value):Prop:=∃(n k ms lv who:Nat) (w rw u:Value) (lo hi:Int) (es:List (Nat×Nat)) (us:List Un) (p:List Int),r= .tuple #[stV d232 n k ms lv who w rw lo hi,u]/\StM H w rw es us/\StOk d232 n k ms lv who es us lo hi/\SI H u p/\dc n k es us lo hi p/\0<p7 n k es us lo hi
def c6b {us:List Un} {p:List Int} {i d:Nat} {x:Int} {u:Un} (hp:p[i]? =some x) (hu:us[i]? =some u):i9 Un.ppl us p (i+1) d=i9 Un.ppl us p i d+if x=(d:Nat)then u.ppl else 0:=by
 show i9 Un.ppl us p i d+(match p[i]?,us[i]? with|some x,some u=>if x=(d:Nat)then Un.ppl u else 0|_,_=>0)=_;rw[hp,hu]
set_option maxHeartbeats 8000000 in
def b9z (hT:Tb H) (h:D21 H a b c ps ls ms) (hs:SE H 1 cU8 s xs) (h8:∀x∈xs,x<256) (rT:un<256) (pY:le<256) (xX:mo<256):Con prog 5 [Gw nn kk a b c g p l wa s un le mo me lv wh,ii 6] H fun r H'=>Pl H H'/\e4U H' r:=by
 refine g5 mixed c5L ?_;have hn6:=cI un (show 0<6 by decide);refine b4 (WB h (t8 hs)) ?_;refine b9 (b9 ?_);refine b4 (show(6:Int)≠0 by decide) ?_;refine f0 (b9u (nn:=un%6) (kk:=kk) h hn6) (p6 (ET rfl rfl rT)) ?_;rintro _ H1 ⟨l1,u,q,k,rfl,hu,hP,hql⟩;refine nmI ?_;refine g7 (g7 (b9 (b9 (b9 ?_))));refine f0 (b9s (nn:=un%6) (kk:=kk) (h.mono l1) hn6) (p6 (ET rfl rfl rT)) ?_;rintro _ H2 ⟨l2,w,es,rfl,hw,hg,hpe⟩;refine⟨(fun _=>l2),?_⟩;have l12:=l1.trans l2;refine j9 (de (nn:=un%6) (kk:=kk) (h.mono l12)) (p6 (ET rfl rfl rT)) ?_;rw[show 1+un%6%9=1+un%6 by omega];generalize hn:1+un%6=n at hql hg hpe⊢;refine f0 (b9x (n:=n) (hs.mono l12) h8 aA) (i0 (e3B rfl) rfl) ?_;rintro _ H3 ⟨l3,rw',rfl,tN⟩;refine⟨(fun _=>l3),?_⟩;have hk1:=hP.k1;have hk4:=hP.km;have hwa:=cI wa (show 0<2 by decide);have hv:RoV d232 n (usF xs n (wa%2)):=d7M h8 aA aA hwa;generalize usF xs n (wa%2)=us at tN hv;have vO:=hu.mono (l2.trans l3);have tQ:(r6 q).length=n:=by rw[Qn];exact hql
 have pY:=hv.le;obtain⟨ul,sW,qC,hur⟩:=id tN;refine b4 (Ci hw) ?_;refine b4 (Gp tN.one) ?_;refine b4 (el_int.vcells _) ?_;refine b4 (by show(D prog _ Ur).cells.size=12/\j0 (D prog _ Ur).cells;rw[qe rfl rfl rfl rfl];exact En (t8 hw) tN.one) ?_;refine Df (α:=Nat×Int×Int) (fun⟨i,lo,hi⟩=>[ii lo,ii hi,ii (i:Nat)]) (fun⟨i,lo,hi⟩=>i<=k/\(i=0->lo= -1)/\(0<i->0<=lo)/\0<=hi/\hi<=6000000000/\lo<=6000000000/\∀d,d<i->lo<=i9 Un.ppl us (r6 q) n d/\i9 Un.ppl us (r6 q) n d<=hi) (fun⟨i,lo,hi⟩=>k-i) ((0,-1,0)) rfl (⟨bK _,fun _=>rfl,fun h=>absurd h aA,aC,aC,aC,fun d h=>absurd h aA⟩) fun⟨i,lo,hi⟩ hQ=> ?_;obtain⟨hi1,tJ,hi3,hi4,hi5,hi6,hi7⟩:=hQ;refine b9 (b9 ?_);refine g6 (b:=decide (((i:Nat):Int)<((k:Nat):Int))) rfl (fun yJ=> ?_) (fun yJ=> ?_)
 ·replace yJ:=oDt yJ;have hT0:∀j,j<=n->0<=i9 Un.ppl us (r6 q) j i/\i9 Un.ppl us (r6 q) j i<=6000000000:=fun j hj=>by
   have:=Wz (p:=r6 q) (f:=Un.ppl) aC (Iy hv) i j;omega
  refine Df (α:=Nat×Int) (fun⟨j,sm⟩=>[ii sm,ii (j:Nat)]) (fun⟨j,sm⟩=>j<=n/\sm=i9 Un.ppl us (r6 q) j i) (fun⟨j,sm⟩=>n-j) ((0,0)) rfl (⟨bK _,rfl⟩) fun⟨j,sm⟩ hQ=> ?_;obtain⟨hj1,rfl⟩:=hQ;refine m9 z6 vO ?_;refine b9 (b9 ?_);refine g6 (b:=decide (((j:Nat):Int)<((r6 q).length:Nat))) rfl (fun vM=> ?_) (fun vM=> ?_)
  ·replace vM:=oDt vM;have hjn:j<n:=aA;have hpj:(r6 q)[j]? =some ((q.getD j 0:Nat):Int):=EA aA;obtain⟨ux,hux,_⟩:=q8 (show j<us.length by omega);obtain⟨uy,huy,_⟩:=q8 (show j<ul.length by omega);have hpp:=(hur j uy ux huy hux).ppl;have wG:=Iy hv ux (aK hux);have hTj:=hT0 j hj1;have hTs:=c6b (d:=i) hpj hux;refine n9 z6 vO hpj fun _=> ?_;refine b9 ?_;refine⟨(fun l' K=>K=H3/\l'=[ii (i9 Un.ppl us (r6 q) (j+1) i)]),?_,?_⟩
   ·skip
    refine y5 (p:=(q.getD j 0=i)) (bEk _ _) (fun hqi=> ?_) fun hqi=> ?_
    ·refine CN Cb oa sc_int rfl rfl rfl rfl rfl rfl aF aF sW huy (i0 (by rw[Gv (l:=stC d232 n k (1+me%8) (lv%2) (wh%2) w rw' 0 0) (qe rfl rfl rfl rfl)];rfl) rfl) aF (fun _ _=>rfl) fun _ _=> ?_;refine b9 (b9 ?_);exact⟨rfl,by rw[hTs,if_pos (by rw[hqi]),<-hpp];exact p6 (Hm rfl rfl aA aA)⟩
    ·exact⟨rfl,by rw[hTs,if_neg aA,Int.add_zero];rfl⟩
   rintro _ H3 _ ⟨rfl,rfl⟩;simp only[cA,nA];exact⟨(j+1,i9 Un.ppl us (r6 q) (j+1) i),by show n-(j+1)<n-j;omega,(i0 rfl (j5 rfl aA)),⟨⟨by show j+1<=n;omega,rfl⟩,rfl⟩⟩
  ·replace vM:=oDf vM;have hjn:j=n:=aA;subst hjn;have hTn:=hT0 j (aS _);refine⟨(fun l' K=>K=H3/\l'=[.bool (decide (lo<0\/i9 Un.ppl us (r6 q) j i<lo))]),?_,?_⟩
   ·skip
    refine b9 ?_;refine g6 (b:=decide (lo<0)) rfl (fun h0=> ?_) (fun h0=> ?_)
    ·replace h0:=oDt h0;exact⟨rfl,by rw[oDd (Or.inl h0)];rfl⟩
    ·replace h0:=oDf h0;refine b9 ?_;exact⟨rfl,by show[Value.bool (decide (i9 Un.ppl us (r6 q) j i<lo))]=_;congr 2;exact decide_eq_decide.2 ⟨.inr,fun h=>h.resolve_left h0⟩⟩
   rintro _ H3 _ ⟨rfl,rfl⟩;simp only[cA,nA];refine⟨(fun l' K=>K=H3/\l'=[ii (if lo<0\/i9 Un.ppl us (r6 q) j i<lo then i9 Un.ppl us (r6 q) j i else lo)]),?_,?_⟩
   ·skip
    refine b9 ?_;refine g6 (b:=decide ((lo<0\/i9 Un.ppl us (r6 q) j i<lo))) rfl (fun h0=> ?_) (fun h0=> ?_)
    ·replace h0:=oDt h0;exact⟨rfl,by rw[if_pos h0];rfl⟩
    ·replace h0:=oDf h0;exact⟨rfl,by rw[if_neg h0];rfl⟩
   rintro _ H3 _ ⟨rfl,rfl⟩;simp only[cA,nA];refine j8 ((xp (vs:=[ii hi,ii (i9 Un.ppl us (r6 q) j i)]) rfl rfl rfl).rds _) rfl ?_;have a0g:0<=(if lo<0\/i9 Un.ppl us (r6 q) j i<lo then i9 Un.ppl us (r6 q) j i else lo)/\(if lo<0\/i9 Un.ppl us (r6 q) j i<lo then i9 Un.ppl us (r6 q) j i else lo)<=i9 Un.ppl us (r6 q) j i/\(0<=lo->(if lo<0\/i9 Un.ppl us (r6 q) j i<lo then i9 Un.ppl us (r6 q) j i else lo)<=lo):=by split<;>omega
   have a1u:i9 Un.ppl us (r6 q) j i<=(if i9 Un.ppl us (r6 q) j i>hi then i9 Un.ppl us (r6 q) j i else hi)/\hi<=(if i9 Un.ppl us (r6 q) j i>hi then i9 Un.ppl us (r6 q) j i else hi)/\(if i9 Un.ppl us (r6 q) j i>hi then i9 Un.ppl us (r6 q) j i else hi)<=6000000000:=by split<;>omega
   generalize (if lo<0\/i9 Un.ppl us (r6 q) j i<lo then i9 Un.ppl us (r6 q) j i else lo)=lo' at a0g⊢;generalize (if i9 Un.ppl us (r6 q) j i>hi then i9 Un.ppl us (r6 q) j i else hi)=qG at a1u⊢;have a1l:∀d,d<i+1->lo'<=i9 Un.ppl us (r6 q) j d/\i9 Un.ppl us (r6 q) j d<=qG:=fun d hd=>by
    by_cases e:d=i
    ·subst e;exact⟨a0g.2.1,a1u.1⟩
    ·have h1:=hi7 d aA;have h2:=a0g.2.2 (hi3 aA);omega
   exact⟨(i+1,lo',qG),by show k-(i+1)<k-i;omega,(By rfl rfl (j5 rfl aA)),⟨⟨by show i+1<=k;omega,fun h=>absurd h (by show ¬i+1=0;omega),fun _=>a0g.1,by show 0<=qG;omega,a1u.2.2,by show lo'<=6000000000;omega,a1l⟩,rfl⟩⟩
 ·replace yJ:=oDf yJ;have yJ:i=k:=aA;subst yJ;have zF:=hi3 aA;have hd0:=hi7 0 aA;refine b9 (b9 ?_);refine j8 ((xp (vs:=[ii 0,ii (lo-(le:Nat))]) rfl rfl rfl).rds _) (i0 rfl (Tc rfl (Kq (du rfl).1 (by assumption)) aA aA)) ?_;have hlm:0<=(if lo-((le:Nat):Int)>0 then lo-((le:Nat):Int)else 0)/\(if lo-((le:Nat):Int)>0 then lo-((le:Nat):Int)else 0)<=lo:=by split<;>omega
  refine b4 (el_int.vcells _) ?_;refine b9 (b9 ?_);refine b4 (by show(D prog _ Xv).cells.size=12/\j0 (D prog _ Xv).cells;rw[WF rfl rfl rfl rfl xX rfl rfl aA];exact En (t8 hw) tN.one) ?_;have rG:∀d,d<i->(if lo-((le:Nat):Int)>0 then lo-((le:Nat):Int)else 0)<=i9 Un.ppl us (r6 q) n d/\i9 Un.ppl us (r6 q) n d<=hi+(mo:Nat):=fun d hd=>by have:=hi7 d hd;omega
  have a3d:∀v,1<=v->v<q.length->(Bn ps v,v)∈es:=fun v h1 h2=>hpe v h1 aA;exact d4 (by show Value.tuple #[D prog _ Xv,_]=_;rw[WF rfl rfl rfl rfl xX rfl rfl aA];rfl) ⟨l12.trans l3,n,i,1+me%8,lv%2,wh%2,w,rw',u,_,_,es,us,r6 q,rfl,⟨hT.mono (l12.trans l3),hw.mono l3,tN⟩,⟨aA,hg,hv,⟨aA,aA⟩,aA,aA,fun _=>cI _ aC,fun _=>cI _ aC,fun _=>Nat.lt_trans (cI _ (show 0<2 by decide)) aC,e3A hv ⟨aA,aA⟩ hlm.1 aA⟩,vO,⟨hP.plOk hql,hP.fit aC a3d hql aA pY rG⟩,hP.pos a3d hql aA pY rG⟩
end
end Go.Z
namespace Go.GS
def z8 (g:Bool) (l:List Rat):Nat->Rat
 |0=>0
 |i+1=>if i=0 then(l[0]?).getD 0 else if Be g ((l[i]?).getD 0) (z8 g l i)then(l[i]?).getD 0 else z8 g l i
def Dy (g:Bool) (l:List Rat):Nat->Nat
 |0=>0
 |i+1=>if i=0 then 0 else if Be g ((l[i]?).getD 0) (z8 g l i)then i else Dy g l i
def WG {g:Bool} {l:List Rat}:∀i,0<i->Dy g l i<i
 |0,h=>absurd h (iZ 0)
 |i+1,_=>by
  show(if i=0 then 0 else if Be g ((l[i]?).getD 0) (z8 g l i)then i else Dy g l i)<i+1;split
  ·omega
  ·split
   ·omega
   ·have:=WG (g:=g) (l:=l) i aA;omega
def WH {g:Bool} {l:List Rat}:∀i,0<i->i<=l.length->l[Dy g l i]? =some (z8 g l i)
 |0,h,_=>absurd h (iZ 0)
 |i+1,_,hi=>by
  have rV:∀j,j<l.length->l[j]? =some ((l[j]?).getD 0):=fun j hj=>by rw[aG hj];rfl
  show l[if i=0 then 0 else if Be g ((l[i]?).getD 0) (z8 g l i)then i else Dy g l i]? =some (if i=0 then(l[0]?).getD 0 else if Be g ((l[i]?).getD 0) (z8 g l i)then(l[i]?).getD 0 else z8 g l i);split
  ·exact rV 0 aA
  ·split
   ·exact rV i aA
   ·exact WH i aA aA
end Go.GS
namespace Go.Z
open Proofs.Tryz RowKit RX GS RZ WD
def WI {g:Bool} {l:List Rat}:∀i,0<i->i<=l.length->z8 g l i∈l:=by
 intro i;induction i with
 |zero=>intro h;omega
 |succ i ih=>
  intro _ hi;have rV:∀j,j<l.length->(l[j]?).getD 0∈l:=fun j hj=>by rw[aG hj];exact dL hj
  show(if i=0 then _ else _)∈l;split
  ·exact rV 0 aA
  ·split
   ·exact rV i aA
   ·exact ih aA aA
section
variable {dm:Dm} {H B:PH} {n k ms lv who:Nat} {es:List (Nat×Nat)} {us:List Un} {w rw wts u v:Value} {lo hi:Int} {b i:Nat} {p:List Int} {l:List Rat}
def d7R:∃rc:Array Value,rc.size=16/\j0 rc/\(j3 prog 115).cells= #[.slice none 0 0]++rc:=⟨eV 16 (.int .u64 0),rfl,fun c hc=>by rw[Array.toList_replicate]at hc;rw[List.eq_of_mem_replicate hc];rfl,aB⟩
def d0U:(j3 prog 53).cells.size=16:=aB
def e3C {ρ:List Value} {a c:SV} {x:Value} {r:Rat} (ha:D prog ρ a=x) (hx:x.cells= #[x]) (hc:D prog ρ c=shR r):D prog ρ (.put (.cat a 1 (.z 53)) 1 16 (.ag c) 0 noI)= .agg (x::(shw r).toList).toArray:=by
 show Value.agg (spl (Value.agg ((D prog ρ a).cells++(j3 prog 53).cells)).cells (1+0*t6 (D prog ρ noI)) (Value.agg (D prog ρ c).cells).cells.toList)=_;have hz:=d0U;rw[ha,hx,hc,Jb];generalize (j3 prog 53).cells=z at hz;show Value.agg (spl (#[x]++z) (1+0*t6 (D prog ρ noI)) (shw r).toList)=_;have hs:=Az r;rw[bV,cJ,Yq (by simp;omega)];congr 1;apply fZ;simp[hs,hz]
def FoS (R H:PH) (f n:Nat) (gb:Bool) (pf:Nat->List Int) (l:List Rat) (i:Nat):Prop:=∃(pl:Value) (rc:Array Value) (q:List Int),H f=some (.cells (#[pl]++rc) 115 (0,0))/\rc.size=16/\j0 rc/\SI R pl q/\(q.length=0↔i=0)/\(0<i->rc=shw (z8 gb l i)/\q=pf (Dy gb l i))
def WJ:Ag prog 115 17:=⟨aB,aB,aB⟩
def d7S (f:FuncId) (caps:Array Value):(Value.func (.func f) #[] caps).cells.size=1/\j0 (Value.func (.func f) #[] caps).cells:=⟨rfl,fun c hc=>by simp[Value.cells]at hc;subst hc;rfl⟩
def EU (x:Value) (rc:Array Value):(x::rc.toList).toArray= #[x]++rc:=by apply fZ;simp
def c6e {gp c0:Nat} {gb:Bool} (hg:H gp=some (.cells #[.bool gb] 4 (0,0))) (hs:H c0=some (.cells (stC dm n k ms lv who w rw lo hi).toArray 38 (0,0))) (hM:StM H w rw es us) (hS:StOk dm n k ms lv who es us lo hi) (hz:ms=1->s5 us n=true) (hp:0<p7 n k es us lo hi) (hN:p7 n k es us lo hi<=400) (hr:∀r∈vlL dm n k ms lv who es us lo hi,Rg r):
  Con prog 43 [.pointer (some ⟨gp,0,none⟩),.pointer (some ⟨c0,0,none⟩)] H fun r H'=>Pl H H'/\∃pl,r= .agg (pl::(shw (z8 gb (vlL dm n k ms lv who es us lo hi) (p7 n k es us lo hi))).toList).toArray/\SI H' pl (Aa n k es us lo hi (Dy gb (vlL dm n k ms lv who es us lo hi) (p7 n k es us lo hi))):=by
 refine g5 mixed d0C ?_;obtain⟨rc0,hrc,a3e,hzf⟩:=d7R;refine o0 (cs:= #[Value.slice none 0 0]++rc0) hzf fun f hf=> ?_;simp only[cA,nA];have lf:=PH.le_put hf (.cells (#[.slice none 0 0]++rc0) 115 (0,0));have hff:=PH.put_self H f (.cells (#[.slice none 0 0]++rc0) 115 (0,0));generalize H.put f (.cells (#[.slice none 0 0]++rc0) 115 (0,0))=H1 at lf hff⊢;refine y8 (Ai (vs:=[.pointer (some ⟨f,0,none⟩),.pointer (some ⟨gp,0,none⟩)]) rfl rfl) rfl ?_;simp only[cA,nA];refine b4 (d7S _ _) ?_;refine x5 (vs:=(stC dm n k ms lv who w rw lo hi)) Nj rfl rfl (lf _ _ hs) rfl (show 0+12<=12 by decide) rfl ?_;simp only[cA,nA];refine Ft (Uk hM hS hz) lf rfl fun v5 X1 H2 a1 w1 b1 c1 d1=> ?_;simp only[cA,nA];obtain⟨b,wts,rfl,hW⟩:=w1;refine Ft (EC hW hS hp) b1 rfl fun v6 X2 H3 a2 w2 b2 c2 d2=> ?_;simp only[cA,nA];obtain⟨z,c,lv',m,rfl,hA⟩:=w2;have zS:X1 f=none:=d1 f (by rw[hff];exact fun h=>nomatch h) hf;have xR:X2 f=none:=d2 f (by rw[c1 _ _ hff];exact fun h=>nomatch h) zS;have hg2:X2 gp=some (.cells #[.bool gb] 4 (0,0)):=a2 _ _ (a1 _ _ hg);have hF0:FoS X2 H3 f n gb (Aa n k es us lo hi) (vlL dm n k ms lv who es us lo hi) 0:=⟨.slice none 0 0,rc0,[],c2 _ _ (c1 _ _ hff),hrc,a3e,SE.nil _ _ _,aD,fun h=>absurd h aA⟩;have hml:m.length=p7 n k es us lo hi:=hA.len;rw[<-PH.or_nil H3];refine Hi (X:=H3) (K:=PH.nil) (Ro:=X2) (fun pre vals X'=>vals=[]/\Pl X2 X'/\FoS X2 X' f n gb (Aa n k es us lo hi) (vlL dm n k ms lv who es us lo hi) pre.length) (fun _ _ _=>False) (ED hA hS hz (fun i hi=>Xr hi) aA) EB (Sm _) rfl (fun _ _ _ h=>h.2.1) ⟨rfl,b2,hF0⟩ ?_ ?_ ?_
 ·rintro pre xs vals X' ⟨s,hs,rfl⟩ _ ⟨rfl,lX,hF⟩;refine⟨rfl,?_⟩;simp only[cA,nA];have rJ:pre.length<p7 n k es us lo hi:=by have:=(aH.1 hs).1;omega
  have rV:=cy (dm:=dm) (ms:=ms) (lv:=lv) (who:=who) rJ;have hrv:=hr _ (aK rV);have wF:=hA.at' _ s hs;have vN:=Xr rJ;have hn1:=hS.gv.n1;generalize hvv:An dm n es us k ms lv who (Aa n k es us lo hi pre.length)=vv at rV hrv;obtain⟨pl,rc,q,hfX,hrs,tN,hq,zG,hrb⟩:=hF;have qU:z8 gb (vlL dm n k ms lv who es us lo hi) (pre.length+1)=if pre.length=0 then vv else if Be gb vv (z8 gb (vlL dm n k ms lv who es us lo hi) pre.length)then vv else z8 gb (vlL dm n k ms lv who es us lo hi) pre.length:=by
   show(if pre.length=0 then _ else _)=_;by_cases h:pre.length=0
   ·rw[if_pos h,if_pos h];rw[h]at rV;rw[rV];rfl
   ·rw[if_neg h,if_neg h,rV];rfl
  have sN:Dy gb (vlL dm n k ms lv who es us lo hi) (pre.length+1)=if pre.length=0 then 0 else if Be gb vv (z8 gb (vlL dm n k ms lv who es us lo hi) pre.length)then pre.length else Dy gb (vlL dm n k ms lv who es us lo hi) pre.length:=by
   show(if pre.length=0 then 0 else if Be gb (((vlL dm n k ms lv who es us lo hi)[pre.length]?).getD 0) _ then _ else _)=_;rw[rV];rfl
  refine b4 (j7 _ _) ?_;refine⟨(fun vals H2=>vals=[.bool (decide (pre.length=0)||Be gb vv (z8 gb (vlL dm n k ms lv who es us lo hi) pre.length))]/\Pl X' H2),?_,?_⟩
  ·skip
   refine g8 e1B ?_;simp only[cA,nA];refine g9 (u:=pl) Fb rfl rfl hfX (by rw[dW aD];rfl) rfl ?_;simp only[cA,nA];refine m9 z6 (hq.mono lX) ?_;simp only[cA,nA];refine b9 ?_;refine y5 (p:=(q.length=0)) (bE0 _) (fun h0=> ?_) fun h0=> ?_
   ·exact⟨by rw[oDd (zG.1 h0)];rfl,Pl.refl _⟩
   ·have uX:0<pre.length:=Nat.pos_of_ne_zero fun e=>h0 (zG.2 e);refine j1 (Aj (f:=44) (caps:= #[.pointer (some ⟨f,0,none⟩),.pointer (some ⟨gp,0,none⟩)]) (vs:=[shR vv]) rfl rfl rfl c5Y (b9w (pl:=pl) (by rw[hfX,(hrb uX).1];rfl) (lX _ _ hg2) hrv (hr _ (WI _ uX (by rw[Gu];omega))))) (i0 (Bc rfl rfl) rfl) ?_;rintro _ H5 ⟨l5,rfl⟩;refine nmI ?_;simp only[cA,nA];exact⟨by rw[decide_eq_false (show ¬pre.length=0 by omega)];rfl,l5⟩
  rintro vals H4 _ ⟨rfl,l4⟩;simp only[cA,nA];refine b9 ?_;refine g6 (b:=decide (pre.length=0)||Be gb vv (z8 gb (vlL dm n k ms lv who es us lo hi) pre.length)) rfl (fun hbt=> ?_) (fun hbt=> ?_)
  ·skip
   refine b4 ((wF.mono lX).one) ?_;refine Sz (vs:=(lW (vs s) (shw vv).toList)) (by rw[aP,bA,Az];exact WJ) rfl rfl rfl (l4 _ _ hfX) (by simp[hrs]) (fun c hc=>(bG.1 hc).elim (fun e=>by rw[e];rfl) (fun h=>Qj vv c h)) (i0 rfl (e3C rfl rfl rfl)) (fun h=>nomatch h) ?_;simp only[cA,nA];have e9:=EU (vs s) (shw vv);rw[e9];have yP:z8 gb (vlL dm n k ms lv who es us lo hi) (pre.length+1)=vv:=by
    rw[qU];by_cases h:pre.length=0
    ·rw[if_pos h]
    ·rw[if_neg h];rw[decide_eq_false h,jJ]at hbt;rw[if_pos hbt]
   have hxe:Dy gb (vlL dm n k ms lv who es us lo hi) (pre.length+1)=pre.length:=by
    rw[sN];by_cases h:pre.length=0
    ·rw[if_pos h,h]
    ·rw[if_neg h];rw[decide_eq_false h,jJ]at hbt;rw[if_pos hbt]
   have lP:Pl X2 (H4.put f (.cells (#[vs s]++shw vv) 115 (0,0))):=fun b' ob' qM=>by rw[PH.put_ne _ _ (fun e=>by subst e;rw[xR]at qM;cases qM)];exact l4 _ _ (lX _ _ qM)
   exact⟨rfl,lP,by rw[aL];exact⟨vs s,shw vv,_,PH.put_self _ _ _,Az _,Qj _,wF,⟨fun h=>by have:=vN.len;omega,fun h=>by simp at h⟩,fun _=>⟨by show shw vv=shw (z8 gb _ (pre.length+1));rw[yP],by show _=Aa n k es us lo hi (Dy gb _ (pre.length+1));rw[hxe]⟩⟩⟩
  ·skip
   have hbf:¬pre.length=0/\Be gb vv (z8 gb (vlL dm n k ms lv who es us lo hi) pre.length)=false:=by
    rw[Bool.or_eq_false_iff]at hbt;exact⟨oDf hbt.1,hbt.2⟩
   have yP:z8 gb (vlL dm n k ms lv who es us lo hi) (pre.length+1)=z8 gb (vlL dm n k ms lv who es us lo hi) pre.length:=by rw[qU,if_neg hbf.1,hbf.2];rfl
   have hxe:Dy gb (vlL dm n k ms lv who es us lo hi) (pre.length+1)=Dy gb (vlL dm n k ms lv who es us lo hi) pre.length:=by rw[sN,if_neg hbf.1,hbf.2];rfl
   exact⟨rfl,lX.trans l4,by rw[aL];exact⟨pl,rc,q,l4 _ _ hfX,hrs,tN,hq,⟨fun h=>absurd (zG.1 h) hbf.1,fun h=>by simp at h⟩,fun _=>⟨by show rc=shw (z8 gb _ (pre.length+1));rw[yP];exact(hrb aA).1,by show q=Aa n k es us lo hi (Dy gb _ (pre.length+1));rw[hxe];exact(hrb aA).2⟩⟩⟩
 ·rintro xs vals X' K' hxn hd _ ⟨rfl,lX,hF⟩;simp only[cA,nA];have sQ:xs.length=p7 n k es us lo hi:=aA;rw[sQ]at hF;obtain⟨pl,rc,q,hfX,hrs,tN,hq,zG,hrb⟩:=hF;have hfK:(X'.or K') f=some (.cells (#[pl]++rc) 115 (0,0)):=PH.le_or X' K' _ _ hfX;have hlr:(pl::rc.toList).length=17:=by simp[hrs]
  have a1v:Ag prog 115 (pl::rc.toList).length:=by rw[hlr];exact WJ
  obtain⟨_,ap,cp,rfl,_⟩:=id hq;refine x5 (vs:=(lW (Value.slice ap q.length cp) rc.toList)) a1v rfl rfl hfK (by simp[aI]) (by simp;omega) rfl ?_;simp only[cA,nA];refine Sz (vs:=(lW (Value.slice ap q.length cp) rc.toList)) a1v rfl rfl rfl hfK (by simp;omega) (fun c hc=>(bG.1 hc).elim (fun e=>by rw[e];rfl) (fun h=>tN c h)) rfl (fun h=>nomatch h) ?_;simp only[cA,nA];have hf9:=PH.put_self (X'.or K') f (.cells (.slice ap q.length cp::rc.toList).toArray 115 (0,0));refine x5 (vs:=(lW (Value.slice ap q.length cp) rc.toList)) a1v a7d rfl hf9 (by simp[aI]) aD rfl ?_;simp only[cA,nA];have lE:Pl X2 ((X'.or K').put f (.cells (.slice ap q.length cp::rc.toList).toArray 115 (0,0))):=fun b' ob' qM=>by rw[PH.put_ne _ _ (fun e=>by subst e;rw[xR]at qM;cases qM)];exact PH.le_or X' K' _ _ (lX _ _ qM)
  have hqe:=(hrb hp).2;exact d4 rfl ⟨a1.trans (a2.trans lE),.slice ap q.length cp,by rw[<-(hrb hp).1];rfl,by rw[<-hqe];exact hq.mono lE⟩
 ·exact fun _ _ _ _ _ _ _ h=>h.elim
end
section
variable {dm:Dm} {H B:PH} {n k ms lv who:Nat} {es:List (Nat×Nat)} {us:List Un} {w rw wts u v:Value} {lo hi:Int} {b i:Nat} {p:List Int} {l:List Rat}
def c6f:n8 prog 43=true:=aB
def e3D:Hu prog 42 96 115 45 20 ((prog.funcs[42]?).getD default) ((prog.funcs[96]?).getD default) (Iu ((prog.funcs[96]?).getD default).body):=⟨aB,aB,aB,aB,aB,aB,aB,aB,aB,aB⟩
def e4V:CcT prog 115 45 (.agg (#[.slice none 0 0]++eV 16 (.int .u64 0))):=⟨aB,aB,aB,aB,aB,aB,aB,fun h=>absurd (show r8 prog 115=true by kernel_rfl) (by rw[h];decide)⟩
def foV (pl:Value) (r:Rat):Value:= .agg (#[pl]++shw r)
def EV {pl:Value} (h:y6 pl=true) (r:Rat):(foV pl r).cells.size=17/\j0 (foV pl r).cells:=⟨by show(#[pl]++shw r).size=17;rw[dN,Az];rfl,fy (fun c hc=>by simp at hc;subst hc;exact h) (Qj r)⟩
def e4W {pl:Value} (h:y6 pl=true) (r:Rat):(foV pl r).cells.size=prog.cellsOf 115/\j0 (foV pl r).cells/\rdV prog 115 (foV pl r).cells=foV pl r:=by
 have h1:r8 prog 115=true:=aB;have h2:prog.cellsOf 115=17:=aB;refine⟨by rw[h2];exact(EV h r).1,(EV h r).2,?_⟩;unfold rdV;rw[h1];rfl
def e3E (pl:Value) (r:Rat):Value.agg ((#[pl]++shw r).extract 1 17)=shR r:=by
 rw[Di];congr 1;apply fZ;have:=Az r;simp[aI,this]
def e4X {ρ:List Value} {x:SV} {pl t:Value} {r:Rat} (hx:D prog ρ x= .tuple #[.agg (#[pl]++shw r),t]):[SV.cell (.pj x 0) 0 0 noI,.sub (.pj x 0) 1 16 0 noI,.pj x 1].map (D prog ρ)=[pl,shR r,t]:=by
 have e0:D prog ρ (.pj x 0)= .agg (#[pl]++shw r):=by
  simp only[D,hx];rfl
 have e1:D prog ρ (.pj x 1)=t:=by
  simp only[D,hx];rfl
 have e2:D prog ρ (.cell (.pj x 0) 0 0 noI)=pl:=by
  show(D prog ρ (.pj x 0)).cells.getD (0+0*t6 (D prog ρ noI)) undef=_;rw[e0,bV,Gh];simp
 have e3:D prog ρ (.sub (.pj x 0) 1 16 0 noI)=shR r:=by
  show Value.agg ((D prog ρ (.pj x 0)).cells.extract (1+0*t6 (D prog ρ noI)) (1+0*t6 (D prog ρ noI)+16))=_;rw[e0,bV,<-e3E pl r];rfl
 rw[bI,bI,bI,bR,e2,e3,e1]
def qf {gb:Bool} (hM:StM H w rw es us) (hS:StOk dm n k ms lv who es us lo hi) (hz:ms=1->s5 us n=true) (hp:0<p7 n k es us lo hi) (hN:p7 n k es us lo hi<=400) (hr:∀r∈vlL dm n k ms lv who es us lo hi,Rg r):
  Con prog 8 [stV dm n k ms lv who w rw lo hi,.bool gb] H fun r H'=>Pl H H'/\∃pl,r= .tuple #[pl,shR (z8 gb (vlL dm n k ms lv who es us lo hi) (p7 n k es us lo hi)),ii 0]/\SI H' pl (Aa n k es us lo hi (Dy gb (vlL dm n k ms lv who es us lo hi) (p7 n k es us lo hi))):=by
 refine g5 mixed d7A ?_;refine b4 (En (t8 hM.gr) hM.ro.one) ?_;refine o0 (cs:=(stC dm n k ms lv who w rw lo hi).toArray) rfl fun a ha=> ?_;simp only[cA,nA];have la:=PH.le_put ha (.cells (stC dm n k ms lv who w rw lo hi).toArray 38 (0,0));refine b4 (Uc rfl rfl) ?_;refine o0 (cs:= #[.bool gb]) rfl fun c hc=> ?_;simp only[cA,nA];have lc:=PH.le_put hc (.cells #[.bool gb] 4 (0,0));refine y8 (Ai (vs:=[.pointer (some ⟨c,0,none⟩),.pointer (some ⟨a,0,none⟩)]) rfl rfl) rfl ?_;simp only[cA,nA];refine f0 (Px (caps:=[.pointer (some ⟨c,0,none⟩),.pointer (some ⟨a,0,none⟩)]) mixed e3D e4V c6f (c6e (gb:=gb) (PH.put_self _ _ _) (lc _ _ (PH.put_self _ _ _)) (hM.mono (la.trans lc)) hS hz hp hN hr) (fun _ _ h=>by obtain⟨_,pl,rfl,hq⟩:=h;rw[EU];exact e4W (t8 hq) _)) rfl ?_;rintro _ H4 ⟨t,⟨l4,pl,rfl,hq⟩,rfl⟩;refine nmI ?_;simp only[cA,nA];rw[EU pl (shw _)];refine g7 (g7 ?_);refine b4 (EV (t8 hq) _) ?_;exact d4 (by rw[e4X rfl];rfl) ⟨(la.trans lc).trans l4,pl,rfl,hq⟩
end
section
variable {dm:Dm} {H B:PH} {n k ms lv who:Nat} {es:List (Nat×Nat)} {us:List Un} {lo hi:Int} {p:List Int}
def d7T (hv:RoV dm n us) (hk:1<=k/\k<=8) (hz:Aw us n≠0):Rb 100 (Nc us p k n):=by
 have sM:=hv.l64;have pY:=hv.le;have uH:=bn hv.un n;have hmx:=nl _ _ (Ue (p:=p) hv 0) (Xd (p:=p) (k:=k) hv);have hmn:=nj _ _ (Ue (p:=p) hv 0) (Xd (p:=p) (k:=k) hv);unfold Nc;generalize Dx (i9 Un.ppl us p n 0) (s0 Un.ppl us p k n)=g at hmx;generalize Em (i9 Un.ppl us p n 0) (s0 Un.ppl us p k n)=l at hmn;have a5l:(2:Nat)^40=1099511627776:=aC;have b1:Rb 40 ((g-l:Int):Rat):=⟨by rw[Rat.num_intCast];omega,by rw[Rat.den_intCast];omega⟩;have b2:Rb 40 (Rat.divInt (Aw us n) (k:Nat)):=jg aA aA aA;exact SC b1 b2 (RS hz aA) aC
def qg (hv:RoV dm n us) (hg:GV n es) (hk:1<=k/\k<=8) (hM:Xe dm n us ms lv who):Rg (An dm n es us k ms lv who p):=by
 have a6r:(2:Nat)^62=4611686018427387904:=aC;obtain⟨h1,h8,_,_,_,hz⟩:=hM
 match ms,h1,h8,hz with
 |1,_,_,hz=>exact Si (d7T hv hk (hz rfl)) aC
 |2,_,_,_=>
  have:=nl _ _ (Ue (p:=p) hv 0) (Xd (p:=p) (k:=k) hv);exact Kp aA
 |3,_,_,_=>
  have:=CJ (es:=es) (p:=p);have:=hg.len;exact Kp aA
 |4,_,_,_=>
  have:=nj _ _ (Ue (p:=p) hv 0) (Xd (p:=p) (k:=k) hv);exact Kp aA
 |5,_,_,_=>
  have:=TO (us:=us) (p:=p) (lv:=lv) (n:=n);exact Kp aA
 |6,_,_,_=>
  have:=TP (us:=us) (p:=p) (lv:=lv) (n:=n);exact Kp aA
 |7,_,_,_=>
  have hmb:Qe us p k n who<=k:=by
   unfold Qe;refine cK gV ?_;rw[gY];exact aS _
  exact Kp aA
 |8,_,_,_=>
  have hmb:Qf dm us p k n who<=k:=by
   unfold Qf;refine cK gV ?_;rw[gY];exact aS _
  exact Kp aA
def qh (hS:StOk dm n k ms lv who es us lo hi) (hz:ms=1->s5 us n=true):∀r∈vlL dm n k ms lv who es us lo hi,Rg r:=fun r hr=>by
 obtain⟨i,_,rfl⟩:=aZ.1 hr;exact qg hS.rv hS.gv hS.hk (hS.mok hz)
def WL (hS:StOk dm n k ms lv who es us lo hi):p7 n k es us lo hi<=400:=RE hS.n6 hS.hk.2
def d7U {g:Bool} {l:List Rat}:∀i,i<=l.length->∀j,j<i->Be g ((l[j]?).getD 0) (z8 g l i)=false:=by
 intro i;induction i with
 |zero=>intro _ j h;omega
 |succ i ih=>
  intro hi j hj;have irr:∀a,Be g a a=false:=fun a=>by unfold Be;cases g<;>simp[Rat.lt_irrefl]
  have tr:∀a b c,Be g a b=false->Be g c b=true->Be g a c=false:=fun a b c h1 h2=>by
   unfold Be at*;cases g with
   |true=>
    simp only[iV,lY,jG,pD,decide_eq_false_iff_not,oDi]at*;exact fun e=>h1 (by grind)
   |false=>
    simp only[jG,jF,iV,jJ,decide_eq_false_iff_not,oDi]at*;exact fun e=>h1 (by grind)
  have e:z8 g l (i+1)=if i=0 then(l[0]?).getD 0 else if Be g ((l[i]?).getD 0) (z8 g l i)then(l[i]?).getD 0 else z8 g l i:=rfl;rw[e];by_cases h0:i=0
  ·rw[if_pos h0];have:j=0:=aA;subst this;exact irr _
  ·rw[if_neg h0];by_cases hb:Be g ((l[i]?).getD 0) (z8 g l i)=true
   ·rw[if_pos hb];by_cases hji:j=i
    ·subst hji;exact irr _
    ·exact tr _ _ _ (ih aA j aA) hb
   ·rw[if_neg hb];by_cases hji:j=i
    ·subst hji;simpa using hb
    ·exact ih aA j aA
def d0V {l:List Rat} {m:List MaT} (hT:TalP l m) (h0:l≠[]):(∀x,m[0]? =some x->x.1.1=z8 false l l.length)/\∀x,m[m.length-1]? =some x->x.1.1=z8 true l l.length:=by
 have hl:0<l.length:=eD.2 h0;have qL:∀g,z8 g l l.length∈m.map fun q=>q.1.1:=fun g=>hT.mem.2 (WI _ hl (aS _));have a0n:∀g r,r∈l->Be g r (z8 g l l.length)=false:=fun g r hr=>by
  obtain⟨j,hj⟩:=dB hr;have:=d7U (g:=g) (l:=l) l.length (aS _) j (aH.1 hj).1;rw[hj]at this;exact this
 have a3f:∀i j (x y:MaT),m[i]? =some x->m[j]? =some y->i<j->x.1.1<y.1.1:=fun i j x y hx hy uS=>by
  obtain⟨h1,rfl⟩:=aH.1 hx;obtain⟨h2,rfl⟩:=aH.1 hy;exact cV.1 hT.1 i j h1 h2 uS
 constructor
 ·intro x hx;obtain⟨y,hy,hye⟩:=aZ.1 (qL false);obtain⟨j,hj⟩:=dB hy;have hb:=a0n false x.1.1 (hT.mem.1 (aZ.2 ⟨x,aK hx,rfl⟩));unfold Be at hb;simp only[jG,jF,iV,jJ,decide_eq_false_iff_not]at hb;by_cases h:j=0
  ·subst h;rw[hx]at hj;injection hj with hj;rw[hj];exact hye
  ·exact absurd (hye ▸ a3f 0 j x y hx hj aA) hb
 ·intro x hx;obtain⟨y,hy,hye⟩:=aZ.1 (qL true);obtain⟨j,hj⟩:=dB hy;have hjl:=(aH.1 hj).1;have hb:=a0n true x.1.1 (hT.mem.1 (aZ.2 ⟨x,aK hx,rfl⟩));unfold Be at hb;simp only[iV,lY,jG,pD,decide_eq_false_iff_not]at hb;by_cases h:j=m.length-1
  ·subst h;rw[hx]at hj;injection hj with hj;rw[hj];exact hye
  ·exact absurd (hye ▸ a3f j (m.length-1) y x hj hx aA) hb
end
end Go.Z
namespace Go.RX
open RowKit
def b5X {P:Program} {o:Oper} {x:Operand} {v:Value} {T:TypeId} (ho:o.op= .makeInterface T x) (hx:e8 [x] [v] x=v) (hc:P.concrete T=true):Yld P o [v] (.iface T v):=fun w=>by
 have qE:o.op.operands.toList=[x]:=by simp[ho,Op.operands]
 rw[qE];simp only[execOp,ho,hx,eK,Go.run_makeInterface _ _ _ hc,eJ];rfl
end Go.RX
namespace Go.Z
open Proofs.Tryz RowKit RX GS RZ WD
section
variable {dm:Dm} {H B:PH} {n k ms lv who:Nat} {es:List (Nat×Nat)} {us:List Un} {w rw wts:Value} {lo hi:Int} {b:Nat} {lived:Bool}
def Fe (e:Int):Value:= .iface 168 (.agg #[ii e])
def c6g {e:Int} (he:e≠0):Gg prog 54 [ii e] H (fun _ _=>False) fun x H'=>Pl H H'/\x=Fe e:=by
 refine Lc mixed UA aB rfl ?_;refine b9 ?_;refine Aq (by show Value.bool (e !=0)=_;rw[bN];exact bT he) ?_;refine b4 (el_int.vcells _) ?_;refine j8 ((b5X (v:= .agg #[ii e]) rfl rfl aB).rds _) rfl ?_;exact D9 (E0 (T:=168) (u:= .agg #[ii e]) rfl rfl) rfl (fun _ _ h=>h.elim) ((fun x H' h=>⟨by rw[h.2];exact Pl.refl _,h.1⟩))
def qi {e:Int} (he:e≠0):Gg prog 49 [.bool true,ii e] H (fun _ _=>False) fun x H'=>Pl H H'/\x=Fe e:=by
 refine Lc mixed TZ aB rfl ?_;refine b9 ?_;refine Aq rfl ?_;exact Og (c6g he) rfl (fun _ _ h=>h.elim) ((fun x H' h=>h))
def c6h (hb:H b=some (.cells (woC dm n k 1 lv who w rw lo hi wts false) 132 (0,0))):Gg prog 82 [.pointer (some ⟨b,0,none⟩)] H (fun _ _=>False) fun x H'=>Pl H H'/\x=Fe 7:=by
 refine Lc mixed UD aB rfl ?_;refine j6 ?_;simp only[cA,nA];refine g8 Cd ?_;simp only[cA,nA];refine g8 cm ?_;simp only[cA,nA];refine g9 sc_int rfl rfl hb rfl rfl ?_;simp only[cA,nA];refine j1 (Aj (f:=132) (caps:= #[]) (vs:=[ii ((1:Nat):Int),ii ((9:Nat):Int)]) rfl rfl rfl Xl (Xm (b:=9) aA)) rfl ?_;rintro _ _ ⟨rfl,rfl⟩;refine nmI ?_;simp only[cA,nA];refine j6 ?_;simp only[cA,nA];refine g8 Cd ?_;simp only[cA,nA];refine g8 cm ?_;simp only[cA,nA];refine g9 sc_int rfl rfl hb rfl rfl ?_;simp only[cA,nA];refine b9 ?_;refine i7 rfl ?_;refine Aq rfl ?_;refine j6 ?_;simp only[cA,nA];refine g8 Qm ?_;simp only[cA,nA];refine g9 Hw rfl rfl hb rfl rfl ?_;simp only[cA,nA];refine b9 ?_;exact Og (qi (e:=7) aC) rfl (fun _ _ h=>h.elim) ((fun x H' h=>h))
set_option maxHeartbeats 400000 in
def c6i (hM:StM H w rw es us) (hS:StOk dm n k ms lv who es us lo hi) (hms:ms=1) (hlf:s5 us n=false):Gg prog 29 [stV dm n k ms lv who w rw lo hi] H (fun _ _=>False) fun x H'=>Pl H H'/\x=Fe 7:=by
 refine Lc mixed UB aB rfl ?_;have hv:=hS.rv;have pY:=hv.le;have sM:=hv.l64;have hn6:=hS.n6;obtain⟨ul,sW,qC,rT⟩:=id hM.ro;refine b4 (En (t8 hM.gr) hM.ro.one) ?_;refine i8 (Lu hM.gr hS.gv) rfl fun H1 l1=> ?_;simp only[cA,nA];refine j9 (Ui) rfl ?_;simp only[cA,nA];refine i8 (ay (hM.ro.mono l1) hv) rfl fun H2 l2=> ?_;simp only[cA,nA];refine j9 (Ui) rfl ?_;simp only[cA,nA];have l02:=l1.trans l2;refine b4 (el_int.vcells _) ?_;refine b4 (el_int.vcells _) ?_;refine b4 (el_int.vcells _) ?_;refine b4 (DZ (lo:=lo) (hi:=hi) (k:=k) rfl rfl rfl) ?_;refine o0 (cs:=woC dm n k ms lv who w rw lo hi (.slice none 0 0) false) (VA (ms:=ms) (lv:=lv) (who:=who) (w:=w) (rw:=rw) (n:=n) (lo:=lo) (hi:=hi) (k:=k) rfl rfl rfl rfl) fun b hb=> ?_;simp only[cA,nA];have lb:=PH.le_put hb (.cells (woC dm n k ms lv who w rw lo hi (.slice none 0 0) false) 132 (0,0));have qM:=PH.put_self H2 b (.cells (woC dm n k ms lv who w rw lo hi (.slice none 0 0) false) 132 (0,0));generalize H2.put b (.cells (woC dm n k ms lv who w rw lo hi (.slice none 0 0) false) 132 (0,0))=H3 at lb qM⊢;have vK:H b=none:=by
  cases e:H b with
  |none=>rfl
  |some o=>rw[l02 _ _ e]at hb;cases hb
 have l03:=l02.trans lb;refine m9 Cb (sW.mono l03) ?_;simp only[cA,nA];refine r7 (α:=Nat×Value) (fun⟨i,out⟩=>[ii (i:Nat)]) (fun⟨i,out⟩=>fun H'=>i<=us.length/\Pl H H'/\H' b=some (.cells (woC dm n k ms lv who w rw lo hi out (s5 us (min i n))) 132 (0,0))/\SO H H' 3 1 (fun z:Int=>[ii z]) out (wlU us (min i n))) (fun⟨i,out⟩=>us.length-i) ((0,.slice none 0 0)) rfl (⟨bK _,l03,by rw[nJ];exact qM,by rw[nJ];exact SO.nil _ _ _ _ _⟩) fun⟨i,out⟩ H' hQ=> ?_;simp only[cA,nA];obtain⟨hiI,lX,uE,oX⟩:=hQ;refine b9 (b9 ?_);refine g6 (b:=decide (((i:Nat):Int)<(ul.length:Nat))) rfl (fun h=> ?_) (fun h=> ?_)
 ·replace h:=oDt h;have xC:i<ul.length:=aA;obtain⟨u,hu,_⟩:=q8 xC;obtain⟨x,hx,_⟩:=q8 (show i<us.length by omega);have yK:=rT i u x hu hx;have rG:u.wat=decide (n<=i):=yK.wat.trans (hv.wat i x hx);have hxp:=Iy hv x (aK hx);have hup:=yK.ppl;refine n9 Cb (sW.mono lX) hu fun _=> ?_;simp only[cA,nA];refine b4 (Gn u) ?_;refine b9 ?_;refine g6 (b:= !u.wat) rfl (fun qZ=> ?_) (fun qZ=> ?_)
  ·skip
   have wZ:¬n<=i:=fun hh=>by rw[rG,oDd hh]at qZ;cases qZ
   rw[show min i n=i by omega]at uE oX;have sG:min (i+1) n=i+1:=aA;refine j6 ?_;simp only[cA,nA];refine g8 Hy ?_;simp only[cA,nA];refine g8 Xo ?_;simp only[cA,nA];refine g9 Dt rfl rfl uE rfl rfl ?_;simp only[cA,nA];obtain⟨XB,xb1,xb2,xb3,xb4⟩:=It oX lX;refine Cf el_int rfl rfl rfl aF aF xb2 xb3 (by unfold wlU;rw[aR,bH];omega) (show _=[ii u.ppl]from rfl) aF rfl fun pv2 v15 H7 l7 o7=> ?_;simp only[cA,nA];obtain⟨_,a2,c2,rfl,_⟩:=id o7.se;have hb7:=l7 _ _ ((xb4 b (fun cs=>by rw[uE];simp only[ne_eq,cN,Obj.cells.injEq,not_and];intro _ e;exact absurd e.symm aC)).trans uE);refine j6 ?_;simp only[cA,nA];refine g8 Hy ?_;simp only[cA,nA];refine g8 Xo ?_;simp only[cA,nA];refine Bq (u:= .slice a2 (wlU us i++[u.ppl]).length c2) Dt rfl rfl rfl hb7 (by show 0+12+0<17;decide) rfl rfl rfl (fun h=>(nomatch h)) ?_;simp only[cA,nA];change den _ _ _ _ _ _ (H7.put b (.cells (woC dm n k ms lv who w rw lo hi (.slice a2 (wlU us i++[u.ppl]).length c2) (s5 us i)) 132 (0,0)));have wI:∀{Y:PH} {ob:Obj},Pl H Y->Pl H (Y.put b ob):=fun hy b' ob' wJ=>by rw[PH.put_ne _ _ (fun e=>by subst e;rw[vK]at wJ;cases wJ)];exact hy _ _ wJ
   have l8:=wI (ob:= .cells (woC dm n k ms lv who w rw lo hi (.slice a2 (wlU us i++[u.ppl]).length c2) (s5 us i)) 132 (0,0)) (xb1.trans l7);have o8:=(Ej (o7.less xb1) hb7 (show 3≠132 by decide)).mono (PH.cut_put H7 b (.cells (woC dm n k ms lv who w rw lo hi (.slice a2 (wlU us i++[u.ppl]).length c2) (s5 us i)) 132 (0,0)));have wK:=PH.put_self H7 b (.cells (woC dm n k ms lv who w rw lo hi (.slice a2 (wlU us i++[u.ppl]).length c2) (s5 us i)) 132 (0,0));generalize H7.put b (.cells (woC dm n k ms lv who w rw lo hi (.slice a2 (wlU us i++[u.ppl]).length c2) (s5 us i)) 132 (0,0))=H8 at l8 o8 wK⊢;have a1r:wlU us i++[u.ppl]=wlU us (i+1):=by rw[DX hx,hup]
   rw[a1r]at wK o8;refine j6 ?_;simp only[cA,nA];refine g8 Qm ?_;simp only[cA,nA];refine g9 Hw rfl rfl wK rfl rfl ?_;simp only[cA,nA];refine b9 ?_;refine g6 (b:=s5 us i) rfl (fun wL=> ?_) (fun wL=> ?_)
   ·skip
    refine j6 ?_;simp only[cA,nA];refine g8 Qm ?_;simp only[cA,nA];refine Bq (u:= .bool true) Hw rfl rfl rfl wK (by show 0+16<17;decide) rfl rfl rfl (fun h=>(nomatch h)) ?_;simp only[cA,nA];change den _ _ _ _ _ _ (H8.put b (.cells (woC dm n k ms lv who w rw lo hi (.slice a2 (wlU us (i+1)).length c2) true) 132 (0,0)));exact⟨(i+1,.slice a2 (wlU us (i+1)).length c2),by show us.length-(i+1)<us.length-i;omega,(p6 (j5 rfl aA)),⟨by show i+1<=us.length;omega,wI l8,by rw[sG,cu hx,wL];exact PH.put_self _ _ _,by rw[sG];exact(Ej o8 wK (show 3≠132 by decide)).mono (PH.cut_put _ _ _)⟩⟩
   ·skip
    refine b9 ?_;refine j6 ?_;simp only[cA,nA];refine g8 Qm ?_;simp only[cA,nA];refine Bq (u:= .bool (decide (u.ppl>0))) Hw rfl rfl rfl wK (by show 0+16<17;decide) rfl rfl rfl (fun h=>(nomatch h)) ?_;simp only[cA,nA];change den _ _ _ _ _ _ (H8.put b (.cells (woC dm n k ms lv who w rw lo hi (.slice a2 (wlU us (i+1)).length c2) (decide (u.ppl>0))) 132 (0,0)));exact⟨(i+1,.slice a2 (wlU us (i+1)).length c2),by show us.length-(i+1)<us.length-i;omega,(p6 (j5 rfl aA)),⟨by show i+1<=us.length;omega,wI l8,by rw[sG,cu hx,wL,<-hup];exact PH.put_self _ _ _,by rw[sG];exact(Ej o8 wK (show 3≠132 by decide)).mono (PH.cut_put _ _ _)⟩⟩
  ·skip
   have wZ:n<=i:=by rw[rG]at qZ;simpa using qZ
   have sG:min (i+1) n=min i n:=aA;exact⟨(i+1,out),by show us.length-(i+1)<us.length-i;omega,(p6 (j5 rfl aA)),⟨by show i+1<=us.length;omega,lX,by rw[sG];exact uE,by rw[sG];exact oX⟩⟩
 ·replace h:=oDf h;rw[show min i n=n by omega]at uE oX;refine j6 ?_;simp only[cA,nA];refine g8 Hy ?_;simp only[cA,nA];refine g8 Xo ?_;simp only[cA,nA];refine g9 Dt rfl rfl uE rfl rfl ?_;simp only[cA,nA];refine Dc el_int rfl rfl oX.se rfl ?_;simp only[cA,nA];have hwl:(wlU us n).length=n:=hS.bd.len;refine b9 (b9 ?_);refine j9 (Xk 5) (i0 (Py (a:=(((wlU us n).length:Nat):Int)) (b:=((n:Nat):Int)) aA) rfl) ?_;simp only[cA,nA];refine j6 ?_;simp only[cA,nA];refine g8 Hy ?_;simp only[cA,nA];refine x5 (vs:=[out,ii lo,ii hi,ii (k:Nat)]) Xq rfl rfl uE rfl (show 0+12+4<=17 by decide) rfl ?_;simp only[cA,nA];refine i8 (BU (hM.gr.mono lX) hS.gv aA oX.se hS.bd) rfl fun H4 l4=> ?_;simp only[cA,nA];refine j9 (Ui) rfl ?_;simp only[cA,nA];exact Og (c6h (n:=n) (k:=k) (lv:=lv) (who:=who) (w:=w) (rw:=rw) (lo:=lo) (hi:=hi) (wts:=out) (by have:=l4 _ _ uE;rw[hlf,hms]at this;exact this)) rfl (fun _ _ h=>h.elim) ((fun x H' h=>⟨(lX.trans l4).trans h.1,h.2⟩))
def b9A {c0:Nat} (hs:H c0=some (.cells (stC dm n k ms lv who w rw lo hi).toArray 38 (0,0))) (hM:StM H w rw es us) (hS:StOk dm n k ms lv who es us lo hi) (hms:ms=1) (hlf:s5 us n=false):Gg prog 28 [.pointer (some ⟨c0,0,none⟩)] H (fun _ _=>False) fun x H'=>Pl H H'/\x=Fe 7:=by
 refine Lc mixed DG aB rfl ?_;refine j1 (Na (ok:=Rg) (ke:=shR) Hv rfl) rfl ?_;rintro v1 H1 ⟨l1,o1⟩;refine nmI ?_;simp only[cA,nA];obtain⟨g0,es0,cl0,rfl,hHg,uR,hE0,zR⟩:=id o1;refine b4 (Xb g0) ?_;refine x5 (vs:=(stC dm n k ms lv who w rw lo hi)) Nj rfl rfl (l1 _ _ hs) rfl (show 0+12<=12 by decide) rfl ?_;simp only[cA,nA];exact Og (c6i (hM.mono l1) hS hms hlf) rfl (fun _ _ h=>h.elim) ((fun x H' h=>⟨l1.trans h.1,h.2⟩))
end
end Go.Z
namespace Go.RX
open RowKit
def dw (fn:Func) (AT BT BL T E:TypeId) (o5 o6:Op) (pan:Code):Code:=
 .seq (.region 2 #[mkO (opr fn 2 0) (some 10) (.move (.tmp 2)),mkO (opr fn 2 1) (some 11) (.typeAssert (.tmp 10) AT BT true),mkO (opr fn 2 2) (some 9) (.move (.tmp 11)),mkO (opr fn 2 3) (some 12) (.extract (.tmp 9) 0),mkO (opr fn 2 4) (some 13) (.extract (.tmp 9) 1),mkO (opr fn 2 5) (some 3) (.alloc BT),mkO (opr fn 2 6) none (.store BT (.tmp 3) (.tmp 12)),mkO (opr fn 2 7) (some 4) (.assign (.tmp 13))] false)
 (.seq (.seq (.region 3 #[mkO (opr fn 3 0) (some 14) (.move (.tmp 4)),mkO (opr fn 3 1) (some 15) (.unOp .not BL (.tmp 14))] false) (.cond (.tmp 15) pan .skip))
 (.seq (.region 5 #[mkO (opr fn 5 0) (some 5) o5] false)
  (.region 6 #[mkO (opr fn 6 0) (some 17) o6,mkO (opr fn 6 1) (some 18) (.fieldAddr BT (.tmp 3) 0),mkO (opr fn 6 2) (some 19) (.load E (.tmp 18)),mkO (opr fn 6 3) none (.store T (.tmp 0) (.tmp 17)),mkO (opr fn 6 4) none (.store E (.tmp 1) (.tmp 19))] true)))
section
variable {P:Program} {f g k:FuncId} {T E AT BT BL:TypeId} {fn gn:Func} {pan:Code} {z x:Value} {e:Int}
def EW (gn:Func) (BT T E:TypeId) (o6:Op):Array Oper:= #[mkO (opr gn 6 0) (some 17) o6,mkO (opr gn 6 1) (some 18) (.fieldAddr BT (.tmp 3) 0),mkO (opr gn 6 2) (some 19) (.load E (.tmp 18)),mkO (opr gn 6 3) none (.store T (.tmp 0) (.tmp 17)),mkO (opr gn 6 4) none (.store E (.tmp 1) (.tmp 19))]
def cgK (i:Nat):Nat:=[1,0,5,6,6].getD i 0
def cgT (i:Nat):Nat:=[0,0,0,1,2].getD i 0
def CgZ (P:Program) (o5 o6:Op) (z:Value):Prop:=∀(w:World) (ev:Operand->Value) (o:Oper),(∀c,ev (.const c)=c)->o.op=o5->∃v w',(execOp ev o).run P w= .ok (.value v) w'/\Ext w w'/\∀w2,Ext w' w2->∀(ev2:Operand->Value) (o2:Oper),o2.op=o6->ev2 (.tmp 5)=v->(execOp ev2 o2).run P w2= .ok (.value z) w2
def d7W {z:Value}:CgZ P (.assign (.const z)) (.move (.tmp 5)) z:=fun w ev o hc ho=>by
 refine⟨z,w,by simp only[execOp,ho,hc];rfl,Ext.refl _,fun w2 _ ev2 o2 h2 hv=>by simp only[execOp,h2,hv];rfl⟩
def WM {cs:Array Value} (hz:(P.info? T).bind (·.zero)=some (.agg cs)) (hT:r9 P T=true) (ha:r8 P T=true) (hs:cs.size=P.cellsOf T):CgZ P (.alloc T) (.load T (.tmp 5)) (.agg cs):=fun w ev o _ ho=>by
 refine⟨_,_,nh hz ho ev w,Ext.alloc _ _,fun w2 hw ev2 o2 h2 hv=> ?_⟩;have hN:w2.heap[w.heap.size]? =some (.cells cs T (0,0)):=by
  have:=World.alloc_heap_new w (.cells (Value.agg cs).cells T);rw[hw.block' (y9 this)];exact this
 have h1:=Yr (P:=P) (q:=0) hT hN aA (fun h=>by rw[ha]at h;cases h);rw[ha,if_pos rfl,bJ,<-hs,Array.extract_size]at h1;simp only[execOp,h2,hv,eK];rw[h1];rfl
structure qj (P:Program) (T E BT BL:TypeId) (gn:Func) (z:Value) (e:Int) (x:Value) (AT:TypeId) (o5 o6:Op):Prop where
 ifc:∃D u,x= .iface D u
 asr:∀w,(Instr.typeAssert x AT BT true).run P w= .ok (.tuple #[.agg #[.int .i64 e],.bool true]) w
 zB:(P.info? BT).bind (·.zero)=some (.agg #[.int .i64 0])
 hB:r9 P BT=true
 cB:P.cellsOf BT=1
 fB:∀w (k:Nat),(Instr.fieldAt BT (.pointer (some ⟨k,0,none⟩)) 0).run P w= .ok (.pointer (some ⟨k,0,none⟩)) w
 zs:z.cells.size=P.cellsOf T
 zo:j0 z.cells
 hT:r9 P T=true
 E1:P.cellsOf E=1
 aE:r8 P E=false
 hE:r9 P E=true
 nb:∀w,(Op.unary .not (.bool true)).run P w= .ok (.bool false) w
 z5:CgZ P o5 o6 z
 d5:∀c,o5≠ .defer c
 ord:Nq (EW gn BT T E o6) (Cm (EW gn BT T E o6).toList []) cgK cgT [0,1,2] [3,4]=true
def EX (hm:P.follows .mixedOrders=true) {o5 o6:Op} (h:Hu P f g T E AT fn gn (dw gn AT BT BL T E o5 o6 pan)) (t:qj P T E BT BL gn z e x AT o5 o6):bf P g T E z x e:=by
 intro b c W hbc hb hc;obtain⟨D,u,hx⟩:=t.ifc;have hrx:∀w,(binOp .neq AT x .nilIface).run P w= .ok (.bool true) w:=fun w=>by rw[hx];exact run_neq_held_nil w AT D u h.gi
 have hgx:∀a b,eqGuard .neq AT a b x .nilIface=pure ():=fun a b=>by rw[hx];cases a<;>cases b<;>rfl
 clear hx D u;generalize hp:Value.pointer (some ⟨b,0,none⟩)=p;generalize hq:Value.pointer (some ⟨c,0,none⟩)=q;generalize hR:(fun en u' w'=>en=Ending.returned (.tuple #[])/\u'=FrameMode.panicking [{v:=x,recovered:=true}]/\Step ((PH.nil.put b (.cells z.cells T (0,0))).put c (.cells #[.int .i64 0] E (0,0))) W ((PH.nil.put b (.cells z.cells T (0,0))).put c (.cells #[.int .i64 e] E (0,0))) w')=R;refine callsDIn_of_wpSIn h.gf h.gb trivial fun c₀ cs hu=> ?_;apply wpSIn_seq;apply wpSIn_region;simp[wpOpsSIn,go_sem,recoverD,hu,h.gnt,Exit.thenS,mkO];refine wpSIn_of_wpIn rfl ?_;have hA: #[p,q]++((eV 18 undef).setIfInBounds 4 x).setIfInBounds 0 x= #[p,q,x,undef,undef,undef,x,undef,undef,undef,undef,undef,undef,undef,undef,undef,undef,undef,undef,undef]:=by
  apply fZ;simp[List.replicate]
 rw[hA];clear hA;generalize hQ:(fun e a' w'=>bodyPostS P gn c₀ cs R e a' (_::cs) w')=Q;apply wpIn_seq;apply wpIn_region;show wpOpsIn Fence.wide 0 P #[mkO (opr gn 1 0) (some 7) (.move (.tmp 2)),mkO (opr gn 1 1) (some 8) (.binOp .neq AT (.tmp 7) (.const .nilIface) AT)] _ [0,1] _ W;refine Ek (o:=mkO (opr gn 1 0) (some 7) (.move (.tmp 2))) (v:=x) rfl rfl (fun c e=>by cases e) rfl ?_;refine Ek (o:=mkO (opr gn 1 1) (some 8) (.binOp .neq AT (.tmp 7) (.const .nilIface) AT)) (v:= .bool true) (w':=W) rfl rfl (fun c e=>by cases e) ?_ ?_
 ·show(execOp (Act.eval ⟨#[p,q,x,undef,undef,undef,x,x,undef,undef,undef,undef,undef,undef,undef,undef,undef,undef,undef,undef],[]⟩) _).run P W=_;simp only[execOp,mkO,eK];rw[show Act.eval _ (Operand.tmp 7)=x from rfl,show Act.eval _ (Operand.const Value.nilIface)= .nilIface from rfl,hgx,Sem.run_pure,eJ,hrx];rfl
 refine wpIn_cond (t:=true) rfl ?_;show Code.wpIn Fence.wide 0 P (dw gn AT BT BL T E o5 o6 pan) _ ⟨#[p,q,x,undef,undef,undef,x,x,.bool true,undef,undef,undef,undef,undef,undef,undef,undef,undef,undef,undef],[]⟩ W;apply wpIn_seq;apply wpIn_region;generalize wX:Exit.then _ Q=Q2;refine Ek (o:=mkO (opr gn 2 0) (some 10) (.move (.tmp 2))) (v:=x) rfl rfl (fun c e=>by cases e) rfl ?_;refine Ek (o:=mkO (opr gn 2 1) (some 11) (.typeAssert (.tmp 10) AT BT true)) (v:= .tuple #[.agg #[.int .i64 e],.bool true]) (w':=W) rfl rfl (fun c e=>by cases e) ?_ ?_
 ·simp only[execOp,mkO,eK];rw[show Act.eval _ (Operand.tmp 10)=x from rfl,t.asr];rfl
 refine Ek (o:=mkO (opr gn 2 2) (some 9) (.move (.tmp 11))) (v:= .tuple #[.agg #[.int .i64 e],.bool true]) rfl rfl (fun c e=>by cases e) rfl ?_;refine Ek (o:=mkO (opr gn 2 3) (some 12) (.extract (.tmp 9) 0)) (v:= .agg #[.int .i64 e]) (w':=W) rfl rfl (fun c e=>by cases e) rfl ?_;refine Ek (o:=mkO (opr gn 2 4) (some 13) (.extract (.tmp 9) 1)) (v:= .bool true) (w':=W) rfl rfl (fun c e=>by cases e) rfl ?_;refine Ek (o:=mkO (opr gn 2 5) (some 3) (.alloc BT)) rfl rfl (fun c e=>by cases e) (nh t.zB rfl _ _) ?_;show wpOpsIn Fence.wide 0 P _ Q2 [6,7] ⟨#[p,q,x,.pointer (some ⟨W.heap.size,0,none⟩),undef,undef,x,x,.bool true,.tuple #[.agg #[.int .i64 e],.bool true],x,.tuple #[.agg #[.int .i64 e],.bool true],.agg #[.int .i64 e],.bool true,undef,undef,undef,undef,undef,undef],[]⟩ (W.alloc (.cells #[Value.int .i64 0] BT));generalize sO:W.alloc (.cells #[Value.int .i64 0] BT)=W1;have hN:W1.heap[W.heap.size]? =some (.cells #[.int .i64 0] BT (0,0)):=by rw[<-sO];exact World.alloc_heap_new W _
 have qU:W1.heap[b]? =some (.cells z.cells T (0,0)):=by rw[<-sO,(Ext.alloc W _).block' (y9 hb)];exact hb
 have rX:W1.heap[c]? =some (.cells #[.int .i64 0] E (0,0)):=by rw[<-sO,(Ext.alloc W _).block' (y9 hc)];exact hc
 have hbN:=y9 hb;have hcN:=y9 hc;have hE1:Ext W W1:=by rw[<-sO];exact Ext.alloc W _
 obtain⟨nw,hn⟩:∃nw,nw=W.heap.size:=⟨_,rfl⟩;rw[<-hn]at hN hbN hcN⊢;generalize hr:Value.pointer (some ⟨nw,0,none⟩)=r;refine BX (o:=mkO (opr gn 2 6) none (.store BT (.tmp 3) (.tmp 12))) (w':=W1.setRow nw #[.int .i64 e]) rfl rfl (fun c e=>by cases e) (bj (v:= .agg #[.int .i64 e]) rfl t.hB hN hr.symm rfl t.cB.symm t.cB.symm (by intro c hc;simp[Value.cells]at hc;subst hc;rfl)) ?_;refine Ek (o:=mkO (opr gn 2 7) (some 4) (.assign (.tmp 13))) (v:= .bool true) rfl rfl (fun c e=>by cases e) rfl ?_;rw[<-wX];show Code.wpIn Fence.wide 0 P _ Q ⟨#[p,q,x,r,.bool true,undef,x,x,.bool true,.tuple #[.agg #[.int .i64 e],.bool true],x,.tuple #[.agg #[.int .i64 e],.bool true],.agg #[.int .i64 e],.bool true,undef,undef,undef,undef,undef,undef],[]⟩ (W1.setRow nw #[.int .i64 e]);clear wX Q2;obtain⟨W2,sA⟩:∃W2,W2=W1.setRow nw #[.int .i64 e]:=⟨_,rfl⟩;have hN2:W2.heap[nw]? =some (.cells #[.int .i64 e] BT (0,0)):=by rw[sA];exact setRow_heap _ _ _ _ _ (0,0) hN
 have qZ:W2.heap[b]? =some (.cells z.cells T (0,0)):=by rw[sA,setRow_other _ _ _ _ aA];exact qU
 have rR:W2.heap[c]? =some (.cells #[.int .i64 0] E (0,0)):=by rw[sA,setRow_other _ _ _ _ aA];exact rX
 rw[<-sA];apply wpIn_seq;apply wpIn_seq;apply wpIn_region;generalize hQ3:Exit.then _ _=Q3;refine Ek (o:=mkO (opr gn 3 0) (some 14) (.move (.tmp 4))) (v:= .bool true) rfl rfl (fun c e=>by cases e) rfl ?_;refine Ek (o:=mkO (opr gn 3 1) (some 15) (.unOp .not BL (.tmp 14))) (v:= .bool false) (w':=W2) rfl rfl (fun c e=>by cases e) ?_ ?_
 ·simp only[execOp,mkO,eK];rw[show Act.eval _ (Operand.tmp 14)= .bool true from rfl,t.nb];rfl
 rw[<-hQ3];refine wpIn_cond (t:=false) rfl ?_;simp only[aY,if_false];refine wpIn_skip ?_;clear hQ3 Q3;show Code.wpIn Fence.wide 0 P _ Q ⟨#[p,q,x,r,.bool true,undef,x,x,.bool true,.tuple #[.agg #[.int .i64 e],.bool true],x,.tuple #[.agg #[.int .i64 e],.bool true],.agg #[.int .i64 e],.bool true,.bool true,.bool false,undef,undef,undef,undef],[]⟩ W2;apply wpIn_seq;apply wpIn_region;generalize hQ3:Exit.then _ _=Q3;obtain⟨v5,W3,hr5,hE5,hz5⟩:=t.z5 W2 (Act.eval ⟨#[p,q,x,r,.bool true,undef,x,x,.bool true,.tuple #[.agg #[.int .i64 e],.bool true],x,.tuple #[.agg #[.int .i64 e],.bool true],.agg #[.int .i64 e],.bool true,.bool true,.bool false,undef,undef,undef,undef],[]⟩) (mkO (opr gn 5 0) (some 5) o5) aF rfl;refine Ek (o:=mkO (opr gn 5 0) (some 5) o5) (v:=v5) (w':=W3) rfl rfl t.d5 hr5 ?_;rw[<-hQ3];have hN3:W3.heap[nw]? =some (.cells #[.int .i64 e] BT (0,0)):=by rw[hE5.block' (y9 hN2)];exact hN2
 have wN:W3.heap[b]? =some (.cells z.cells T (0,0)):=by rw[hE5.block' (y9 qZ)];exact qZ
 have uU:W3.heap[c]? =some (.cells #[.int .i64 0] E (0,0)):=by rw[hE5.block' (y9 rR)];exact rR
 show Code.wpIn (Fr none) 0 P (.region 6 (EW gn BT T E o6) true) Q ⟨#[p,q,x,r,.bool true,v5,x,x,.bool true,.tuple #[.agg #[.int .i64 e],.bool true],x,.tuple #[.agg #[.int .i64 e],.bool true],.agg #[.int .i64 e],.bool true,.bool true,.bool false,undef,undef,undef,undef],[]⟩ W3;clear hQ3 Q3;refine FZ (kd:=cgK) (tg:=cgT) (ta:=fun i=>[0,0,nw,b,c].getD i 0) (X:=fun _ _=>False) (F:=[0,1,2]) (T:=[3,4]) hm t.ord ?_ (fun x a w _ h=>h.elim) ?_
 ·have hk:∀i,cgK i=5\/cgK i=6->i=2\/i=3\/i=4:=fun i hi=>by
   match i,hi with
   |0,hi=>simp[cgK]at hi
   |1,hi=>simp[cgK]at hi
   |2,_=>exact .inl rfl
   |3,_=>exact .inr (.inl rfl)
   |4,_=>exact .inr (.inr rfl)
   |n+5,hi=>simp[cgK]at hi
  intro i j hi hj qJ;rcases hk i hi with rfl|rfl|rfl<;>rcases hk j hj with rfl|rfl|rfl<;>first|exact absurd rfl qJ|(show _≠_;simp only[List.getD_cons_succ,List.getD_cons_zero];omega)
 refine⟨mkO (opr gn 6 0) (some 17) o6,rfl,.inr ⟨rfl,.inr (.inl ⟨rfl,z,fun w hw=>hz5 w ((⟨rfl,rfl,rfl,aS _,fun _ _=>rfl,Nat.le_succ _⟩:Ext W3 {W3 with drawn:=W3.drawn+1}).trans hw) _ _ rfl rfl,?_⟩)⟩⟩;refine⟨mkO (opr gn 6 1) (some 18) (.fieldAddr BT (.tmp 3) 0),rfl,.inr ⟨rfl,.inl ⟨rfl,r,fun w=> ?_,?_⟩⟩⟩
 ·simp only[execOp,mkO,eK];rw[show Act.eval _ (Operand.tmp 3)=r from rfl,<-hr,t.fB];rfl
 refine⟨mkO (opr gn 6 2) (some 19) (.load E (.tmp 18)),rfl,.inr ⟨rfl,.inr (.inr (.inr (.inr ⟨rfl,.int .i64 e,_,hN3,fun w' rU=> ?_,?_⟩)))⟩⟩
 ·have h1:=Yr (P:=P) (q:=0) (b:=nw) t.hE rU (by rw[t.E1];exact aS _) (fun _=>bW 0);rw[t.aE]at h1;simp only[execOp,mkO,eK];rw[show Act.eval _ (Operand.tmp 18)=r from rfl,<-hr,h1];rfl
 intro w hw;have zZ:w.heap[b]? =some (.cells z.cells T (0,0)):=by rw[hw.block' (y9 wN)];exact wN
 have hcw:w.heap[c]? =some (.cells #[.int .i64 0] E (0,0)):=by rw[hw.block' (y9 uU)];exact uU
 show wpT P _ _ cgK _ _ [3,4] ⟨#[p,q,x,r,.bool true,v5,x,x,.bool true,.tuple #[.agg #[.int .i64 e],.bool true],x,.tuple #[.agg #[.int .i64 e],.bool true],.agg #[.int .i64 e],.bool true,.bool true,.bool false,undef,z,r,.int .i64 e],[]⟩ w;refine⟨mkO (opr gn 6 3) none (.store T (.tmp 0) (.tmp 17)),rfl,.inr ⟨rfl,.inr (.inr (.inl ⟨rfl,_,z.cells,zZ,fun w' rU=> ?_,?_⟩))⟩⟩
 ·exact bj (P:=P) (ev:=Act.eval ⟨#[p,q,x,r,.bool true,v5,x,x,.bool true,.tuple #[.agg #[.int .i64 e],.bool true],x,.tuple #[.agg #[.int .i64 e],.bool true],.agg #[.int .i64 e],.bool true,.bool true,.bool false,undef,z,r,.int .i64 e],[]⟩) (o:=mkO (opr gn 6 3) none (.store T (.tmp 0) (.tmp 17))) (v:=z) rfl t.hT rU hp.symm rfl t.zs t.zs t.zo
 have a3g:(w.setRow b z.cells).heap[c]? =some (.cells #[.int .i64 0] E (0,0)):=by rw[setRow_other _ _ _ _ aA];exact hcw
 refine⟨mkO (opr gn 6 4) none (.store E (.tmp 1) (.tmp 19)),rfl,.inr ⟨rfl,.inr (.inr (.inl ⟨rfl,_,#[.int .i64 e],a3g,fun w' rU=> ?_,?_⟩))⟩⟩
 ·exact bj (P:=P) (ev:=Act.eval ⟨#[p,q,x,r,.bool true,v5,x,x,.bool true,.tuple #[.agg #[.int .i64 e],.bool true],x,.tuple #[.agg #[.int .i64 e],.bool true],.agg #[.int .i64 e],.bool true,.bool true,.bool false,undef,z,r,.int .i64 e],[]⟩) (o:=mkO (opr gn 6 4) none (.store E (.tmp 1) (.tmp 19))) (v:= .int .i64 e) rfl t.hE rU hq.symm rfl t.E1.symm t.E1.symm (by intro c hc;simp[Value.cells]at hc;subst hc;rfl)
 show Q .normal _ ((w.setRow b z.cells).setRow c #[.int .i64 e]);have hRR:R (.returned (.tuple #[])) (.panicking [{v:=x,recovered:=true}]) ((w.setRow b z.cells).setRow c #[.int .i64 e]):=by
  rw[<-hR];have tK:∀i,i≠b->i≠c->i<nw->((w.setRow b z.cells).setRow c #[.int .i64 e]).heap[i]? =W.heap[i]?:=fun i h1 h2 h3=>by
   have h4:i<W.heap.size:=aA;have h5:i<W2.heap.size:=by have:=hE1.size;rw[sA,setRow_size];omega
   have h6:=hE5.size;rw[setRow_other _ _ _ _ h2,setRow_other _ _ _ _ h1,hw.block' (show i<W3.heap.size by omega)];show W3.heap[i]? =_;rw[hE5.block' h5,sA,setRow_other _ _ _ _ aA,hE1.block' h4]
  refine⟨rfl,rfl,⟨hw.os.trans (hE5.os.trans (by rw[sA];exact hE1.os)),hw.tape.trans (hE5.tape.trans (by rw[sA];exact hE1.tape)),hw.output.trans (hE5.output.trans (by rw[sA];exact hE1.output)),?_,fun i hi hn=> ?_,fun i o ho=> ?_,fun i hi=> .inl ?_,?_⟩⟩
  ·have h1:=hE1.size;have h2:=hw.size;rw[setRow_size,setRow_size];have h3:W3.heap.size<=w.heap.size:=h2;have h4:=hE5.size;rw[sA,setRow_size]at h4;omega
  ·refine tK i (fun e=> ?_) (fun e=> ?_) aA
   ·subst e;unfold PH.put at hn;rw[if_neg hbc,if_pos rfl]at hn;cases hn
   ·subst e;unfold PH.put at hn;rw[if_pos rfl]at hn;cases hn
  ·unfold PH.put at ho;split at ho
   ·rename_i e1;subst e1;cases ho;exact setRow_heap _ _ _ _ _ (0,0) a3g
   ·split at ho
    ·rename_i e1 e2;subst e2;cases ho;rw[setRow_other _ _ _ _ e1];exact setRow_heap _ _ _ _ _ (0,0) zZ
    ·cases ho
  ·unfold PH.put at hi⊢;split
   ·intro h;cases h
   ·rename_i e1;rw[if_neg e1]at hi;exact hi
  ·have h1:=hE1.dr;have h2:W3.drawn+1<=w.drawn:=hw.dr;have h4:=hE5.dr;rw[sA]at h4;show W.drawn<=w.drawn;have h3:W1.drawn<=W3.drawn:=h4;omega
 rw[<-hQ];cases c₀;simp[bodyPostS,results,h.gr];exact⟨rfl,hRR⟩
end
end Go.RX
namespace Go.Z
open Proofs.Tryz RowKit RX GS RZ WD
def e1E:Iu ((prog.funcs[78]?).getD default).body=dw ((prog.funcs[78]?).getD default) 20 168 4 44 45 (.assign (.const (.slice none 0 0))) (.move (.tmp 5)) (.region 4 #[mkO (opr f78 4 0) (some 16) (.move (.tmp 2)),mkO (opr f78 4 1) none (.panic (.tmp 16))] false):=aB
def e1F {e:Int}:qj prog 44 45 168 4 ((prog.funcs[78]?).getD default) (.slice none 0 0) e (Fe e) 20 (.assign (.const (.slice none 0 0))) (.move (.tmp 5)) where
 ifc:=⟨_,_,rfl⟩
 asr:=fun w=>by kernel_rfl
 zB:=aB
 hB:=aB
 cB:=aB
 fB:=fun w k=>by kernel_rfl
 zs:=aB
 zo:=fun c hc=>by simp[Value.cells]at hc;subst hc;rfl
 hT:=aB
 E1:=aB
 aE:=aB
 hE:=aB
 nb:=fun w=>by kernel_rfl
 z5:=d7W
 d5:=fun c h=>by cases h
 ord:=aB
def WN {e:Int}:bf prog 78 44 45 (.slice none 0 0) (Fe e) e:=by
 have h:=cz;rw[e1E]at h;exact EX mixed h e1F
section
variable {H:PH} {n k ms lv who:Nat} {es:List (Nat×Nat)} {us:List Un} {w rw wts u v:Value} {lo hi:Int} {p:List Int} {ρ:List Value}
def WO:rdV prog 44 (Value.slice none 0 0).cells= .slice none 0 0:=by
 have h1:r8 prog 44=false:=aB;unfold rdV;rw[h1];rfl
def c6l (hM:StM H w rw es us) (hS:StOk d232 n k ms lv who es us lo hi) (hms:ms=1) (hlf:s5 us n=false):Con prog 6 [stV d232 n k ms lv who w rw lo hi] H fun r H'=>Pl H H'/\r= .tuple #[.slice none 0 0,ii 7]:=by
 refine g5 mixed DF ?_;refine b4 (En (t8 hM.gr) hM.ro.one) ?_;refine o0 (cs:=(stC d232 n k ms lv who w rw lo hi).toArray) rfl fun a ha=> ?_;have la:=PH.le_put ha (.cells (stC d232 n k ms lv who w rw lo hi).toArray 38 (0,0));refine y8 (Ai (vs:=[.pointer (some ⟨a,0,none⟩)]) rfl rfl) rfl ?_;refine f0 (bm (caps:=[.pointer (some ⟨a,0,none⟩)]) (V:=fun _ _=>False) (XE:=fun e H'=>e=7/\Pl (H.put a (.cells (stC d232 n k ms lv who w rw lo hi).toArray 38 (0,0))) H') mixed cz oy EF (b9A (PH.put_self _ _ _) (hM.mono la) hS hms hlf) (fun _ _ h=>h.elim) (fun x H' hx=>⟨7,hx.2 ▸ WN,rfl,hx.1⟩)) rfl ?_;rintro _ H4 hX;refine nmI ?_;rcases hX with⟨_,h,_⟩|⟨e,⟨rfl,l4⟩,rfl⟩
 ·exact h.elim
 refine g7 (g7 ?_);exact d4 rfl ⟨la.trans l4,by show Value.tuple #[rdV prog 44 (Value.slice none 0 0).cells,ii 7]=_;rw[WO]⟩
def c6m (hM:StM H w rw es us) (hS:StOk d232 n k ms lv who es us lo hi) (hp:0<p7 n k es us lo hi):
  Con prog 6 [stV d232 n k ms lv who w rw lo hi] H fun r H'=>Pl H H'/\∃t e,r= .tuple #[t,ii e]/\(e=7\/(e=0/\(ms=1->s5 us n=true)/\∃m,SE H' 32 ceM t m/\TalP (vlL d232 n k ms lv who es us lo hi) m)):=by
 by_cases hb:ms=1/\s5 us n=false
 ·exact(c6l hM hS hb.1 hb.2).mono fun r H' ⟨h1,h2⟩=>⟨h1,_,7,h2,.inl rfl⟩
 ·have hz:ms=1->s5 us n=true:=fun e=>by
   cases h:s5 us n with
   |true=>rfl
   |false=>exact absurd ⟨e,h⟩ hb
  exact(oz hM hS hz hp (WL hS) (qh hS hz)).mono fun r H' ⟨h1,t,m,h2,h3,h4⟩=>⟨h1,t,0,h2,.inr ⟨rfl,hz,m,h3,h4⟩⟩
def qk {o:Oper} {x y:Operand} (r:Rat) (ho:o.op= .binOp .eql 53 x y 53) (hx:e8 [x,y] [shR r,shR r] x=shR r) (hy:e8 [x,y] [shR r,shR r] y=shR r):Yld prog o [shR r,shR r] (.bool true):=fun w=>by
 have qE:o.op.operands.toList=[x,y]:=by simp[ho,Op.operands]
 rw[qE];have h1:=run_eql_struct (P:=prog) w 53 (shw r) (shw r);have h2:=run_eqGuard_agg (P:=prog) w .eql 53 x y (shw r) (shw r) aB;have h3:(Op.equalIn 10000 53 (.agg (shw r)) (.agg (shw r))).run prog w= .ok true w:=by
  have:=DU r 9997 w;rw[Di]at this;exact this
 rw[h3]at h1;simp only[execOp,ho,hx,hy,eK];rw[Di];simp only[h2,h1,eJ];rfl
end
end Go.Z

/- Chapter 32: Odds. -/
import Derived.Test.YtmannekkmdockaaGreatDoorGzH
namespace Go.Proofs.YtmannekkmdockaaGreatDoor
open Go.Proofs.Tryz
open Go.RowKit Go.RX Go.GS Go.RZ
open Go.WD (BP a1E wd rs toI HM sgI Rb)
set_option maxRecDepth 100000
def shc (p:Nat×Nat):List Value:=(shv p.1 p.2).cells.toList
theorem a4j:El prog 49 58 16 true shc (fun p:Nat×Nat=>shv p.1 p.2) where
 und:=by kernel_rfl
 has:=by kernel_rfl
 cel:=by kernel_rfl
 agg:=by kernel_rfl
 pos:=by decide
 one1:=fun h=>by cases h
 small:=by decide
 inf:=⟨(prog.info? 58).getD default,shv 0 0,by kernel_rfl,by kernel_rfl,by kernel_rfl,rfl,of_decide_eq_true (by kernel_rfl)⟩
 len:=fun p=>by show(shv p.1 p.2).cells.toList.length=16;rw[Array.length_toList];exact(a0E p.1 p.2).1
 val:=fun p=>rfl
 cells:=fun p=>rfl
 one:=fun p c hc=>(a0E p.1 p.2).2 c hc
theorem d5Q:Ag prog 112 12:=⟨by kernel_rfl,by kernel_rfl,by kernel_rfl⟩
section
variable {H H0 H':PH} {u v w wts:Value} {p wl:List Int} {n k:Nat} {es:List (Nat×Nat)} {lo hi ds:Int}
theorem d2t:∀x∈a1Z es wl lo hi n k p,∃q:List Int,q.length=p.length/\x.1=a0r q:=by
 have h:∀x∈a1J es wl lo hi n k p,∃q:List Int,q.length=p.length/\x.1=a0r q:=fun x hx=>by
  obtain⟨pr,_,a,_,_,_,_,_,h6,_⟩:=(a7m x hx).ex
  exact⟨_,by unfold a2h;rw[a0Q];unfold a2C;rw[List.length_mapIdx],h6⟩
 intro x hx
 unfold a1Z at hx
 split at hx
 ·rcases a5H (x:=x.1) (y:=x.2) hx with⟨h1,_⟩|⟨_,h2⟩
  ·exact⟨p,rfl,h1⟩
  ·exact h _ h2
 ·exact h _ hx
theorem a5P {q:List Int}:(a0r q).take q.length=q:=by unfold a0r;simp
theorem c3r {α:Type} {ce:α->List Value} {l:List α} (h:SO H0 H 3 1 ce v l) (hp:H'=H\/∃g ob,H0 g=none/\H'=H.put g ob/\(H g=none\/∃cs,H g=some (.cells cs 33 (0,0)))):SO H0 H' 3 1 ce v l:=by
 rcases hp with rfl|⟨g,ob,_,rfl,hg⟩
 ·exact h
 ·obtain⟨h1,h2|⟨g',cap,cur,h2,h3,h4,h5⟩⟩:=h
  ·exact⟨h1,.inl h2⟩
  ·refine⟨h1,.inr ⟨g',cap,cur,h2,h3,?_,h5⟩⟩
   rw[PH.put_ne _ _ (fun e=> ?_)]
   ·exact h4
   ·subst e
    rcases hg with hg|⟨cs,hg⟩
    ·rw[hg]at h4;cases h4
    ·rw[hg]at h4
     injection h4 with h4
     injection h4 with _ h4 _
     exact absurd h4 (by decide)
theorem d2u {q r clock:Nat} {E:List (List Int×Value×Nat)} {seen:List Nat} (h:IT kV H q r E clock seen) (hp:H'=H\/∃g ob,H0 g=none/\H'=H.put g ob/\(H g=none\/∃cs,H g=some (.cells cs 33 (0,0)))):IT kV H' q r E clock seen:=by
 rcases hp with rfl|⟨g,ob,_,rfl,hg⟩
 ·exact h
 ·refine⟨?_,?_⟩
  ·rw[PH.put_ne _ _ (fun e=> ?_)]
   ·exact h.1
   ·subst e
    rcases hg with hg|⟨cs,hg⟩
    ·have:=h.1;rw[hg]at this;cases this
    ·have:=h.1;rw[hg]at this;cases this
  ·rw[PH.put_ne _ _ (fun e=> ?_)]
   ·exact h.2
   ·subst e
    rcases hg with hg|⟨cs,hg⟩
    ·have:=h.2;rw[hg]at this;cases this
    ·have:=h.2;rw[hg]at this;cases this
theorem c3s {α:Type} {e:TypeId} {sz q:Nat} {ce:α->List Value} {l:List α} {a:Option Nat} {b c:Nat} {d:Array Nat} {ob:Obj} (h:SO H0 H e sz ce v l) (hq:H q=some (.mapIter a b d c)):SO H0 (H.put q ob) e sz ce v l:=by
 obtain⟨h1,h2|⟨g',cap,cur,h2,h3,h4,h5⟩⟩:=h
 ·exact⟨h1,.inl h2⟩
 ·exact⟨h1,.inr ⟨g',cap,cur,h2,h3,by rw[PH.put_ne _ _ (fun e=>by subst e;rw[hq]at h4;cases h4)];exact h4,h5⟩⟩
theorem d2v:prog.underlying 112=some (.array 12 3):=by kernel_rfl
theorem d2w:a2s prog 3=true:=by kernel_rfl
theorem d5R {b:Nat} {l:List Int} {T:TypeId} (hb:H b=none) (hl:l.length=12) (hn:n<=12):SI (H.put b (.cells (l.map ii).toArray T (0,0))) (.slice (some ⟨b,0,none⟩) (n:Int).toNat 12) (l.take n):=by
 have hm:∀l:List Int,(l.flatMap fun z:Int=>[ii z])=l.map ii:=fun l=>by
  induction l with
  |nil=>rfl
  |cons a l ih=>rw[List.flatMap_cons,ih];rfl
 have hln:(l.take n).length=n:=by rw[List.length_take];omega
 refine⟨by rw[hm];simp,some ⟨b,0,none⟩,12,by rw[hln,Int.toNat_natCast],by rw[hln];exact hn,by decide,.inr ⟨b,0,_,_,_,rfl,PH.put_self _ _ _,?_⟩⟩
 rw[hm,hln,List.toList_toArray,List.drop_zero,Nat.mul_one,List.map_take]
theorem d2x {β:Type} (L:List (List Int×β)) (x:List Int) (y:β):a6Q L x y≠[]:=fun h=>by
 have:=c6M (L:=L) (k:=x) (v:=y)
 rw[h]at this;cases this
theorem d5S:a1Z es wl lo hi n k p≠[]:=by
 unfold a1Z
 split
 ·exact d2x _ _ _
 ·rename_i h
  intro e
  rw[e]at h
  exact h (by rw[List.map_nil,sQ];grind)
theorem d2y (hpl:p.length=n) (hn:n<=12) (hk8:k<=8):(a1Z es wl lo hi n k p).length<=2^20+1:=by
 have hm64:=c2x k hk8
 have hOl:(a1J es wl lo hi n k p).length<=2^20:=by
  refine Nat.le_trans (b6Q (es:=es) (wl:=wl) (lo:=lo) (hi:=hi) (n:=n) (k:=k) (p:=p) fun pr _=>a9W hpl (by omega) pr) ?_
  exact Nat.le_trans (Nat.mul_le_mul hm64 (Nat.pow_le_pow_right (by decide) hn)) (by decide)
 unfold a1Z
 split
 ·exact Nat.le_trans (b6O _ _ _) (by omega)
 ·omega
theorem d2z {α:Type} {e:TypeId} {sz:Nat} {ce:α->List Value} {l:List α} (h:SO H0 H e sz ce v l) (hl:l≠[]):∃g,H0 g=none/\(∃cur,H g=some (.cells cur e (0,0)))/\SO (a1B H g) H e sz ce v l:=by
 obtain⟨h1,⟨_,h2⟩|⟨g,cap,cur,h2,h3,h4,h5⟩⟩:=h
 ·exact absurd (List.eq_nil_of_length_eq_zero h2) hl
 ·exact⟨g,h3,⟨cur,h4⟩,h1,.inr ⟨g,cap,cur,h2,by unfold a1B;rw[if_pos rfl],h4,h5⟩⟩
theorem d2A (H:PH) (g:Nat):PH.le (a1B H g) H:=fun k o hk=>by
 unfold a1B at hk
 split at hk
 ·cases hk
 ·exact hk
theorem d2B {g:Nat} {cur:Array Value} {l:List Int} (h:SO H0 H 3 1 (fun z:Int=>[ii z]) v l) (hg:H g=some (.cells cur 33 (0,0))):SI (a1B H g) v l:=by
 have:SO H0 (a1B H g) 3 1 (fun z:Int=>[ii z]) v l:=by
  obtain⟨h1,h2|⟨g',cap,cur',h2,h3,h4,h5⟩⟩:=h
  ·exact⟨h1,.inl h2⟩
  ·refine⟨h1,.inr ⟨g',cap,cur',h2,h3,?_,h5⟩⟩
   unfold a1B
   rw[if_neg (fun e=> ?_)]
   ·exact h4
   ·subst e
    rw[hg]at h4
    injection h4 with h4
    injection h4 with _ h4 _
    exact absurd h4 (by decide)
 exact this.se
open Classical in
noncomputable def a3N (B:PH) (s:Slc):List Int:=if h:∃p,SI B (vs s) p then Classical.choose h else[]
theorem a2p {s:Slc} (h:SI H (vs s) p):a3N H s=p:=by
 have he:∃p,SI H (vs s) p:=⟨p,h⟩
 unfold a3N
 rw[dif_pos he]
 exact c8q (Classical.choose_spec he) h
def tok (r:Rat):Bool:=decide ((-(HM:Int)<=r.num/\r.num<HM)/\(r.den:Int)<HM)
def tpr (r:Rat):Nat×Nat:=(rs r.num,rs (r.den:Int))
theorem c7f {r:Rat} (h:tok r=true):a3x r= .tuple #[shv (tpr r).1 (tpr r).2,ii 0]:=if_pos (of_decide_eq_true h)
theorem d2C {r:Rat} (h:tok r=false):a3x r= .tuple #[shv 0 0,ii 6]:=if_neg (of_decide_eq_false h)
theorem c7g (r:Rat):∃(n d:Nat) (e:Int),a3x r= .tuple #[shv n d,ii e]/\((tok r=true/\e=0/\(n,d)=tpr r)\/(tok r=false/\e=6)):=by
 cases h:tok r with
 |true=>exact⟨_,_,0,c7f h,.inl ⟨rfl,rfl,rfl⟩⟩
 |false=>exact⟨_,_,6,d2C h,.inr ⟨rfl,rfl⟩⟩
def d2D (H':PH) (n:Nat) (es:List (Nat×Nat)) (wl:List Int) (lo hi ds:Int) (p:List Int) (r:Value):Prop:=
 (smE n es wl lo hi ds [p]≠0/\r= .tuple #[.slice none 0 0,.slice none 0 0,ii (smE n es wl lo hi ds [p])])\/
 (smE n es wl lo hi ds [p]=0/\∃ps:List (List Int),ps.Perm ((a1Z es wl lo hi n ds.toNat (a0x p)).map fun x=>x.1.take n)/\ps.Pairwise (fun a b=>¬a2W b a<0)/\
  (((∀q∈ps,tok (vO (a1Z es wl lo hi n ds.toNat (a0x p)) (a0r q))=true)/\∃(pv ov:Value) (m:List Slc) (cont:Slc->List Int),r= .tuple #[pv,ov,ii 0]/\SE H' 1 (fun s:Slc=>[vs s]) pv m/\m.map cont=ps/\(∀s∈m,SI H' (vs s) (cont s))/\SE H' 16 shc ov (ps.map fun q=>tpr (vO (a1Z es wl lo hi n ds.toNat (a0x p)) (a0r q))))\/
   ((∃q∈ps,tok (vO (a1Z es wl lo hi n ds.toNat (a0x p)) (a0r q))=false)/\r= .tuple #[.slice none 0 0,.slice none 0 0,ii 6])))
theorem a8P (hT:Tb H) (hw:SG H w es) (hg:GV n es) (hwt:SI H wts wl) (hu:SI H u p):Con prog 12 [gv n w,bv wts lo hi ds,u] H fun r H'=>PH.le H H'/\d2D H' n es wl lo hi ds p r:=by
 refine a0b mixed c5V (by kernel_rfl) rfl ?_
 obtain⟨s1,rfl⟩:=a4e hu
 unfold d2D
 refine a0a (a0T hw) ?_
 refine a0a (a2J (a0z hwt) _ _ _) ?_
 refine a1X a2e (a:=s1) rfl rfl rfl fun v3 H1 l1 o1 _=> ?_
 simp only[cA,nA]
 refine a0n (b3i (cont:=fun _=>p) (hT.mono l1) (hw.mono l1) hg (hwt.mono l1) o1.se (fun s hs=>by rw[List.mem_singleton.1 hs];exact hu.mono l1)) rfl fun H2 l2=> ?_
 simp only[cA,nA]
 refine a0a ⟨_,rfl⟩ ?_
 refine a0e (b:=decide (smE n es wl lo hi ds [p]≠0)) (bN _ _) (fun h0=> ?_) (fun h0=> ?_)
 ·replace h0:=of_decide_eq_true h0
  exact a0c rfl ⟨l1.trans l2,.inl ⟨h0,rfl⟩⟩
 ·replace h0:=of_decide_eq_false h0
  have h0:=Classical.byContradiction h0
  obtain⟨hb0,hn12,hft⟩:=c3i h0
  have hb:=a9J hb0
  obtain⟨k,rfl,hk1,hk8,hpl,hL,hU,hkn⟩:=b7c (hft p (.head _))
  refine a0d (a7k (hu.mono (l1.trans l2)) ⟨fun x hx=>by have:=hL.1 x hx;omega,hL.2⟩) rfl ?_
  rintro _ H3 ⟨l3,z,rfl,hz⟩
  refine⟨fun h=>(nomatch h),?_⟩
  simp only[cA,nA]
  have l03:=(l1.trans l2).trans l3
  refine a0a ⟨_,rfl,by simp⟩ ?_
  refine a0a ⟨_,rfl,by simp⟩ ?_
  refine a0d (b3f (p:=a0x p) (k:=k) (lo:=lo) (hi:=hi) ⟨hT.mono l03,hw.mono l03,hg,hwt.mono l03,hb.1,hb.2.2.2.2.2⟩ hz.se hn12 hkn (by rw[a0Q];exact hpl) hk1 hk8 (a2y hL hU) (a1M hL hU)) rfl ?_
  rintro v6 H5 ⟨l5,m5⟩
  refine⟨fun h=>(nomatch h),?_⟩
  simp only[cA,nA]
  have l05:=l03.trans l5
  simp only[Int.toNat_natCast]
  have hAl:(a1Z es wl lo hi n k (a0x p)).length<=2^20+1:=d2y (by rw[a0Q];exact hpl) hn12 hk8
  have hA0:a1Z es wl lo hi n k (a0x p)≠[]:=d5S
  have hAn:((a1Z es wl lo hi n k (a0x p)).map (·.1)).Nodup:=a6R
  have hAk:=d2t (es:=es) (wl:=wl) (lo:=lo) (hi:=hi) (n:=n) (k:=k) (p:=a0x p)
  generalize hA:a1Z es wl lo hi n k (a0x p)=A at m5 hAl hA0 hAn hAk⊢
  obtain⟨V,⟨r,es0,clock,rfl,hHr,hH2r,hE,hkv⟩,hke,hrp⟩:=m5
  have hes:es0.map (·.1)=A.map (·.1):=by rw[<-hke,<-hkv];unfold kvN;rw[List.map_map];rfl
  have hel:es0.length=A.length:=by have:=congrArg List.length hes;simpa using this
  refine a0l (a9S (κ:=List Int) (ke:=kV) (vs:=[.map (some r)]) rfl rfl a6q hH2r) rfl ?_
  rintro _ _ ⟨q,hq,rfl,rfl⟩
  refine⟨fun h=>(nomatch h),?_⟩
  simp only[cA,nA]
  have hrq:r≠q:=fun e=>by subst e;rw[hH2r]at hq;cases hq
  have hI0:IT kV (H5.put q (.mapIter (some r) clock #[] clock)) q r es0 clock []:=⟨PH.put_self _ _ _,by rw[PH.put_ne _ _ hrq];exact hH2r⟩
  refine a0k (α:=List Nat×List (Slc×List Int)×Value) (fun⟨seen,ls,v8⟩=>[v8]) (fun⟨seen,ls,v8⟩=>fun H'=>PH.le H5 H'/\IT kV H' q r es0 clock seen/\SO H5 H' 33 1 (fun s:Slc=>[vs s]) v8 (ls.map (·.1))/\(∀x∈ls,SO H5 H' 3 1 (fun z:Int=>[ii z]) (vs x.1) x.2)/\(ls.map (·.2)++(left es0 seen).map fun e=>e.1.take n).Perm (es0.map fun e=>e.1.take n)) (fun⟨seen,ls,v8⟩=>(left es0 seen).length) (([],[],.slice none 0 0)) rfl (⟨PH.le_put hq _,hI0,SO.nil _ _ _ _ _,(fun x hx=>by cases hx),by rw[b6U];exact List.Perm.refl _⟩) fun⟨seen,ls,v8⟩ H4 ⟨l4,it4,o8,hct,hpm⟩=> ?_
  simp only[cA,nA]
  refine a0l (b3a (ok:=okK) (ke:=kV) (vs:=[.pointer (some ⟨q,0,none⟩)]) rfl rfl hE it4) rfl ?_
  rintro v9 H6 hnx
  refine⟨fun h=>(nomatch h),?_⟩
  simp only[cA,nA]
  obtain⟨b,x,y,rfl,hb'⟩:=b6T hnx
  refine a0a (c2X b x y) ?_
  refine a0a ⟨b,a7n b x y⟩ ?_
  refine a0e (b:=b) (a7n b x y) (fun hb1=> ?_) (fun hb1=> ?_)
  ·skip
   obtain⟨e,he,rfl,rfl,rfl⟩:∃p∈left es0 seen,x=kV p.1/\y=p.2.1/\H6=H4.put q (.mapIter (some r) clock (seen++[p.2.2]).toArray clock):=by
    rcases hb' with⟨h,_⟩|⟨_,h⟩
    ·rw[hb1]at h;cases h
    ·exact h
   subst hb1
   have heE:e∈es0:=(List.mem_filter.1 he).1
   have hk12:e.1.length=12:=(hE.oks e heE).1
   have hqi:=it4.1
   have it5:IT kV (H4.put q (.mapIter (some r) clock (seen++[e.2.2]).toArray clock)) q r es0 clock (seen++[e.2.2]):=⟨PH.put_self _ _ _,by rw[PH.put_ne _ _ hrq];exact it4.2⟩
   have l5':PH.le H5 (H4.put q (.mapIter (some r) clock (seen++[e.2.2]).toArray clock)):=fun b' ob' hbb=>by rw[PH.put_ne _ _ (fun e=>by subst e;rw[hq]at hbb;cases hbb)];exact l4 _ _ hbb
   have o8':=c3s (ob:= .mapIter (some r) clock (seen++[e.2.2]).toArray clock) o8 hqi
   have hct':∀x∈ls,SO H5 (H4.put q (.mapIter (some r) clock (seen++[e.2.2]).toArray clock)) 3 1 (fun z:Int=>[ii z]) (vs x.1) x.2:=fun x hx=>c3s (hct x hx) hqi
   generalize H4.put q (.mapIter (some r) clock (seen++[e.2.2]).toArray clock)=H7 at it5 l5' o8' hct'⊢
   refine a0l (Rds.opn' (a9T (ok:=okK) (ke:=kV) (vs:=[.pointer (some ⟨q,0,none⟩)]) rfl rfl hE heE it5)) rfl ?_
   rintro _ _ ⟨rfl,rfl⟩
   refine⟨fun h=>(nomatch h),?_⟩
   simp only[cA,nA]
   refine a0a ⟨_,rfl,by simp⟩ ?_
   refine a1G (cs:=(List.replicate 12 (ii 0)).toArray) (by kernel_rfl) fun b hbb=> ?_
   simp only[cA,nA]
   refine b0X (vs:=e.1.map ii) (by rw[List.length_map,hk12];exact d5Q) rfl rfl rfl (PH.put_self _ _ _) (by simp[hk12]) (fun c hc=>by obtain⟨z,_,rfl⟩:=List.mem_map.1 hc;rfl) rfl (fun h=>(nomatch h)) ?_
   simp only[cA,nA]
   rw[PH.put_put]
   refine a0g ((a6H (n:=12) (l:=(n:Int)) (vs:=[.pointer (some ⟨b,0,none⟩),ii (n:Nat)]) rfl rfl rfl d2v d2w (by omega) (by omega)).rds _) rfl ?_
   simp only[cA,nA]
   refine a0d (c6D (d5R hbb hk12 hn12) (by rw[List.length_take];omega)) rfl ?_
   rintro v14 H8 ⟨l8,o14⟩
   refine⟨fun h=>(nomatch h),?_⟩
   simp only[cA,nA]
   obtain⟨s2,rfl⟩:=a4e o14.se
   refine a1X a2e (a:=s2) rfl rfl rfl fun v15 H9 l9 o15 _=> ?_
   simp only[cA,nA]
   have l79:=(PH.le_put hbb _).trans (l8.trans l9)
   refine a2F a2e rfl rfl rfl (l5'.trans l79) (o8'.mono l79) o15.se (by have:=hpm.length_eq;simp only[List.length_append,List.length_map,List.length_singleton]at this⊢;omega) rfl rfl fun v16 H11 l11 o11 hput=> ?_
   simp only[cA,nA]
   obtain⟨la,lb,hla,hlb⟩:=b3e (hE.asc.imp fun h=>Nat.ne_of_lt h) he
   exact⟨(seen++[e.2.2],ls++[(s2,e.1.take n)],v16),by show(left es0 (seen++[e.2.2])).length<(left es0 seen).length;rw[hla,hlb];simp,rfl,⟨l11,d2u (c3a it5 l79) hput,by rw[List.map_append];exact o11,(fun x hx=>by rw[List.mem_append]at hx;rcases hx with hx|hx;(exact c3r ((hct' x hx).mono l79) hput);(rw[List.mem_singleton]at hx;subst hx;exact c3r ((o14.less (l5'.trans (PH.le_put hbb _))).mono l9) hput)),by rw[hla]at hpm;rw[hlb];simp only[List.map_append,List.map_cons,List.map_nil,List.append_assoc,List.cons_append,List.nil_append]at hpm⊢;exact(List.Perm.append_left _ (List.perm_middle (l₁:=la.map fun e=>e.1.take n)).symm).trans hpm⟩⟩
  ·skip
   obtain⟨hle0,h54⟩:left es0 seen=[]/\H6=H4:=by
    rcases hb' with⟨_,h⟩|⟨h,_⟩
    ·exact h
    ·rw[hb1]at h;cases h
   rw[h54]
   rw[hle0,List.map_nil,List.append_nil]at hpm
   have hl0:ls≠[]:=fun e=>by rw[e]at hpm;have:=hpm.length_eq;simp only[List.length_map,List.length_nil]at this;exact hA0 (List.eq_nil_of_length_eq_zero (by omega))
   have hll:ls.length=A.length:=by have:=hpm.length_eq;simp only[List.length_map]at this;omega
   obtain⟨g,hg5,⟨cur,hg4⟩,o8c⟩:=d2z o8 (by simpa using hl0)
   have hsi:∀x∈ls,SI (a1B H4 g) (vs x.1) x.2:=fun x hx=>d2B (hct x hx) hg4
   refine a0d (c3q (B:=a1B H4 g) (cont:=a3N (a1B H4 g)) (d2A _ _) o8c (by simpa using hl0) (by rw[List.length_map];omega) (fun s hs=>by obtain⟨x,hx,rfl⟩:=List.mem_map.1 hs;rw[a2p (hsi x hx)];exact hsi x hx)) rfl ?_
   rintro _ H12 ⟨l12,m,hmp,hmo,o12⟩
   refine⟨fun h=>(nomatch h),?_⟩
   simp only[cA,nA]
   have hmS:∀s∈m,SI (a1B H4 g) (vs s) (a3N (a1B H4 g) s):=fun s hs=>by
    obtain⟨x,hx,rfl⟩:=List.mem_map.1 (hmp.mem_iff.1 hs)
    rw[a2p (hsi x hx)];exact hsi x hx
   have hcs:ls.map (·.2)=(ls.map (·.1)).map (a3N (a1B H4 g)):=by
    rw[List.map_map]
    exact List.map_congr_left fun x hx=>(a2p (hsi x hx)).symm
   have hesA:(es0.map fun e=>e.1.take n)=A.map fun x=>x.1.take n:=by have:=congrArg (List.map (List.take n)) hes;rw[List.map_map,List.map_map]at this;exact this
   have hpA:(m.map (a3N (a1B H4 g))).Perm (A.map fun x=>x.1.take n):=(hmp.map _).trans (by rw[<-hcs,<-hesA];exact hpm)
   have hkA:∀s∈m,(a3N (a1B H4 g) s).length=n/\a0r (a3N (a1B H4 g) s)∈A.map (·.1):=fun s hs=>by
    obtain⟨x,hx,e⟩:=List.mem_map.1 (hpA.mem_iff.1 (List.mem_map.2 ⟨s,hs,rfl⟩))
    obtain⟨q',hq1,hq2⟩:=hAk x hx
    rw[a0Q]at hq1
    have h3:a3N (a1B H4 g) s=q':=by rw[<-e,hq2,<-hpl,<-hq1];exact a5P
    rw[h3]
    exact⟨by omega,List.mem_map.2 ⟨x,hx,hq2⟩⟩
   have hmap:H12 r=some (.map (eN kV es0).toArray clock):=l12 _ _ (by unfold a1B;rw[if_neg (fun e=>by subst e;rw[it4.2]at hg4;cases hg4)];exact it4.2)
   have l5B:PH.le H5 (a1B H4 g):=fun b' ob' h=>by
    have:=l4 _ _ h
    unfold a1B
    rw[if_neg (fun e=>by subst e;rw[h]at hg5;cases hg5)];exact this
   have lH12:PH.le H H12:=fun b' ob' hbb=>l12 _ _ (by have h1:=l4 _ _ (l05 _ _ hbb);unfold a1B;rw[if_neg (fun e=>by subst e;rw[l05 _ _ hbb]at hg5;cases hg5)];exact h1)
   refine a0h a2e rfl rfl o12.se rfl ?_
   simp only[cA,nA]
   refine a0k (α:=Nat×List (Nat×Nat)×Value) (fun⟨i,sh,v14⟩=>[v8,ii 0,v14,ii (i:Nat)]) (fun⟨i,sh,v14⟩=>fun H'=>i<=m.length/\PH.le H12 H'/\SO H12 H' 58 16 shc v14 sh/\sh=((m.take i).map fun s=>tpr (vO A (a0r (a3N (a1B H4 g) s))))/\∀s∈m.take i,tok (vO A (a0r (a3N (a1B H4 g) s)))=true) (fun⟨i,sh,v14⟩=>m.length-i) ((0,[],.slice none 0 0)) rfl (⟨Nat.zero_le _,PH.le.refl _,SO.nil _ _ _ _ _,rfl,fun s hs=>by cases hs⟩) fun⟨i,sh,v14⟩ H13 ⟨hi,l13,o13,hsh,htk⟩=> ?_
   simp only[cA,nA]
   refine a0a ⟨_,rfl⟩ ?_
   refine a0a ⟨_,rfl⟩ ?_
   refine a0e (b:=decide (((i:Nat):Int)<(m.length:Nat))) rfl (fun h=> ?_) (fun h=> ?_)
   ·replace h:=of_decide_eq_true h
    have hi':i<m.length:=by omega
    obtain⟨s,hs,_⟩:=a0B hi'
    have hsm:=List.mem_of_getElem? hs
    obtain⟨hkl,hkm⟩:=hkA s hsm
    refine a0i a2e rfl rfl rfl rfl (fun _=>rfl) (o12.se.mono l13) hs rfl (fun _=>rfl) fun _=> ?_
    simp only[cA,nA]
    refine a0d (a4w ((hmS s hsm).mono (l12.trans l13)) (by omega)) rfl ?_
    rintro _ H14 ⟨l14,rfl⟩
    refine⟨fun h=>(nomatch h),?_⟩
    simp only[cA,nA]
    generalize hcc:a3N (a1B H4 g) s=cc at*
    have hrp':∀k v q,(k,v)∈V->(k,q)∈A->Rp H14 v q:=fun k v q a b=>(hrp k v q a b).mono (l5B.trans (l12.trans (l13.trans l14)))
    obtain⟨b,x,hub,hx1,hx2,hx3⟩:=c3k (V:=V) (L:=A) (κ:=a0r cc) hAn hke hrp'
    have hokc:okK (a0r cc):=by
     rw[<-hes]at hkm
     obtain⟨e,he,h⟩:=List.mem_map.1 hkm
     rw[<-h];exact hE.oks e he
    have hbt:b=true:=by
     rcases hub with⟨_,_,h⟩|⟨h,_⟩
     ·exact absurd (by rw[hke];exact hkm) h
     ·exact h
    refine a0g (b6M b3b (vs:=[.map (some r),kV (a0r cc)]) (ok2:=false) (k:=a0r cc) (u:=x) (b:=b) rfl rfl rfl a6q hokc c8r ⟨r,es0,clock,rfl,(l13.trans l14) _ _ hmap,hE,hkv⟩ hub) rfl ?_
    simp only[cA,nA]
    refine a0d (a2u (hx2 hbt)) rfl ?_
    rintro u20 H15 ⟨l15,hu20⟩
    refine⟨fun h=>(nomatch h),?_⟩
    simp only[cA,nA]
    obtain⟨a7,d7,e7,ht7,ht8⟩:=c7g (vO A (a0r cc))
    rw[ht7]at hu20
    subst hu20
    refine a0a ⟨_,rfl,by simp⟩ ?_
    refine a0a ⟨_,rfl,by simp⟩ ?_
    refine a0a (a0E a7 d7) ?_
    refine a0a ⟨_,rfl⟩ ?_
    refine a0e (b:=decide (e7≠0)) (bN _ _) (fun he7=> ?_) (fun he7=> ?_)
    ·replace he7:=of_decide_eq_true he7
     have htf:tok (vO A (a0r cc))=false/\e7=6:=by
      rcases ht8 with⟨_,h,_⟩|h
      ·exact absurd h he7
      ·exact h
     obtain⟨htf,he6⟩:=htf
     exact a0c rfl ⟨(lH12.trans l13).trans (l14.trans l15),.inr ⟨h0,m.map (a3N (a1B H4 g)),hpA,hmo,.inr ⟨⟨cc,List.mem_map.2 ⟨s,hsm,hcc⟩,htf⟩,by rw[he6];rfl⟩⟩⟩
    ·replace he7:=of_decide_eq_false he7
     have he7:=Classical.byContradiction he7
     have htt:tok (vO A (a0r cc))=true/\(a7,d7)=tpr (vO A (a0r cc)):=by
      rcases ht8 with⟨h,_,h2⟩|⟨_,h⟩
      ·exact⟨h,h2⟩
      ·omega
     obtain⟨htt,htp⟩:=htt
     refine a1X a4j (a:=(a7,d7)) rfl rfl rfl fun v21 H16 l16 o16 _=> ?_
     simp only[cA,nA]
     refine a1l a4j rfl rfl rfl (((l13.trans l14).trans l15).trans l16) (o13.mono ((l14.trans l15).trans l16)) o16.se (by have:=hmp.length_eq;rw[hsh];simp only[List.length_map,List.length_take,List.length_singleton]at this⊢;omega) rfl rfl fun v22 H17 l17 o17 hput=> ?_
     simp only[cA,nA]
     exact⟨(i+1,sh++[(a7,d7)],v22),(by show m.length-(i+1)<m.length-i;omega),(d3a rfl rfl rfl (a0w rfl (by have:=hmp.length_eq;rw[List.length_map]at this;omega))),⟨(by show i+1<=_;omega),l17,o17,(by show sh++[(a7,d7)]=_;rw[take_snoc hs,List.map_append,<-hsh,htp,<-hcc];rfl),fun s' hs'=>by rw[take_snoc hs]at hs';rcases List.mem_append.1 hs' with h|h;(exact htk s' h);(rw[List.mem_singleton.1 h,hcc];exact htt)⟩⟩
   ·replace h:=of_decide_eq_false h
    rw[List.take_of_length_le (by omega)]at hsh htk
    exact a0c rfl ⟨lH12.trans l13,.inr ⟨h0,m.map (a3N (a1B H4 g)),hpA,hmo,.inl ⟨(fun q hq=>by obtain⟨s,hs,rfl⟩:=List.mem_map.1 hq;exact htk s hs),v8,v14,m,a3N (a1B H4 g),rfl,o12.se.mono l13,rfl,(fun s hs=>(hmS s hs).mono (l12.trans l13)),by rw[List.map_map];rw[hsh]at o13;exact o13.se⟩⟩⟩
end
end Go.Proofs.YtmannekkmdockaaGreatDoor
/- Chapter 32: all probabilities of small graphs can be told. -/
namespace Go.GS
theorem a8Q {es:List (Nat×Nat)} {S:Nat}:∀(f j:Nat) (t:List Int),es.length-j=f->(trL es S f j t).length<=2^a4F es S j
 |0,j,t,_=>by
  have:=Nat.two_pow_pos (a4F es S j)
  unfold trL
  split
  ·simp;omega
  ·simp
 |f+1,j,t,hf=>by
  have hj:j<es.length:=by omega
  have h1:=a8Q (es:=es) (S:=S) f (j+1) t (by omega)
  unfold trL
  rw[List.length_append]
  split
  ·rename_i h
   have h2:=a8Q (es:=es) (S:=S) f (j+1) (t++[(j:Int)]) (by omega)
   rw[b1m (a4d hj) h.1,Nat.pow_succ]
   omega
  ·have:=Nat.pow_le_pow_right (n:=2) (by decide) (b1n es S j)
   simp only[List.length_nil]
   omega
theorem a7p {es:List (Nat×Nat)} {S n:Nat} (hg:GV n es) (hs:S<M64) (h9:card S<=9):tn es S<=2^36:=by
 refine Nat.le_trans (a8Q _ _ _ (by omega)) (Nat.pow_le_pow_right (by decide) (c2y hg hs h9))
theorem d5T:∀k:Fin 5,(a0A k.val).length<=6:=by decide
theorem Qd.unit {D B:Nat} {r:Rat} (h:Qd D B r) (hD:0<D) (h0:0<=r) (h1:r<=1):Qd D D r:=by
 obtain⟨A,rfl,_⟩:=h
 refine⟨A,rfl,?_⟩
 have hD':(0:Rat)<((D:Nat):Int):=by exact_mod_cast hD
 have a0:0<=A:=by
  rcases Int.lt_or_le A 0 with h|h
  ·exfalso
   have:((A:Int):Rat)/((D:Nat):Int)<0:=(Rat.div_lt_iff hD').2 (by rw[Rat.zero_mul];exact_mod_cast h)
   exact absurd h0 (Rat.not_le.2 this)
  ·exact h
 have a1:A<=D:=by
  rcases Int.lt_or_le (D:Int) A with h|h
  ·exfalso
   have:1<((A:Int):Rat)/((D:Nat):Int):=(Rat.lt_div_iff hD').2 (by rw[Rat.one_mul];exact_mod_cast h)
   exact absurd h1 (Rat.not_le.2 this)
  ·exact h
 omega
end Go.GS
namespace Go.Proofs.YtmannekkmdockaaGreatDoor
open Go.Proofs.Tryz
open Go.RowKit Go.RX Go.GS Go.RZ
open Go.WD (BP a1E wd rs toI HM sgI Rb)
section
variable {es:List (Nat×Nat)} {wl:List Int} {lo hi:Int} {n k m S a:Nat} {p:List Int}
theorem c8v:2^256<=HM:=by
 rw[d3V]
 have:(2:Nat)^256=BP 8:=by unfold BP;rfl
 rw[this]
 exact Nat.le_trans (a1E (by decide)) (Nat.le_mul_of_pos_right _ (by decide))
theorem d2E {D:Nat} {r:Rat} (h:Qd D D r) (hD:0<D) (hb:D<2^256):Rb 256 r:=d2c (k:=256) h (by omega) hb hb
theorem c8w {r:Rat} (h:Rb 256 r):tok r=true:=by
 obtain⟨h1,h2⟩:=h
 have:=c8v
 refine decide_eq_true ⟨⟨by omega,by omega⟩,by omega⟩
structure SitO (es:List (Nat×Nat)) (n k:Nat) (p:List Int):Prop where
 gv:GV n es
 n9:n<=9
 lab:LabOk p (k:Nat)
 used:a3B p k
 can:a0x p=p
 len:p.length=n
 k1:1<=k
 k4:k<=4
theorem SitO.kn (h:SitO es n k p):k<=n:=by have:=c3h h.used;have:=h.len;omega
theorem SitO.pr (h:SitO es n k p) {pr:Nat×Nat} (hpr:pr∈a0A k):PrO p n k pr:=d7H h.used h.len (by have:=h.n9;omega) hpr
theorem SitO.n2 (h:SitO es n k p) {pr:Nat×Nat} (hpr:pr∈a0A k):0<n-1/\0<(a0A k).length/\(a0A k).length<=6:=by
 have h1:=a5F hpr
 have:=h.kn
 exact⟨by omega,List.length_pos_of_mem hpr,d5T ⟨k,by have:=h.k4;omega⟩⟩
theorem SitO.next (h:SitO es n k p) {pr:Nat×Nat} (hpr:pr∈a0A k) {a:Nat} (ha:a∈a1z (unP p pr)):SitO es n k (a2h p pr a):=by
 obtain⟨hP,_⟩:=b7b h.lab h.used h.len (by have:=h.n9;omega) hpr ha
 exact⟨h.gv,h.n9,a2y hP.rlab hP.rused,a1M hP.rlab hP.rused,a8M _,by rw[a5a];exact h.len,h.k1,h.k4⟩
structure d8g (es:List (Nat×Nat)) (wl:List Int) (lo hi:Int) (n k:Nat) (p:List Int) (x:(Nat×Nat)×Nat):Prop where
 pr:x.1∈a0A k
 pl:x.2∈a1z (unP p x.1)
 sub:∀y,bit x.2 y=true->bit (unP p x.1) y=true
 lst:bit x.2 (lst (unP p x.1))=true
 ts:tn es (unP p x.1)≠0
 ta:tn es x.2≠0
 tb:tn es (sdf (unP p x.1) x.2)≠0
 a0:x.2≠0/\x.2<2^n
 b0:sdf (unP p x.1) x.2≠0/\sdf (unP p x.1) x.2<2^n
 ala:alB es wl lo hi x.2=true
 alb:alB es wl lo hi (sdf (unP p x.1) x.2)=true
 ne:p≠a2h p x.1 x.2
 prt:Prt p k x.1.1 x.1.2 x.2
theorem SitO.hit (h:SitO es n k p) {x:(Nat×Nat)×Nat} (hx:x∈a6W es wl lo hi k p):d8g es wl lo hi n k p x:=by
 obtain⟨x1,x2,x3,x4,x5,x6⟩:=idx_mem.1 hx
 have hn:n<=64:=by have:=h.n9;omega
 have hP:=h.pr x1
 obtain⟨a0,b0⟩:=a8F hP.s2 hn hP.s0 x2
 obtain⟨q1,q2⟩:=b7b h.lab h.used h.len hn x1 x2
 have hca:Cn es x.2:=by unfold alB at x4;rw[Bool.and_eq_true]at x4;exact cnB_iff.1 x4.1
 have hcb:Cn es (sdf (unP p x.1) x.2):=by unfold alB at x5;rw[Bool.and_eq_true]at x5;exact cnB_iff.1 x5.1
 exact⟨x1,x2,q1.sub,q2,fun e=>x3 (by rw[a8N hP.sM hP.s0,e];rfl),c3n (a1g hn a0.2) a0.1 hca,c3n (a1g hn b0.2) b0.1 hcb,a0,b0,x4,x5,fun e=>x6 (by rw[<-e]),q1⟩
theorem SitO.val (h:SitO es n k p) {x:(Nat×Nat)×Nat} (hx:x∈a6W es wl lo hi k p):0<c3e es n (a0A k).length p x.1 x.2/\c3e es n (a0A k).length p x.1 x.2<=1/\Rb 256 (c3e es n (a0A k).length p x.1 x.2):=by
 have hh:=h.hit hx
 have hn:n<=64:=by have:=h.n9;omega
 have hP:=h.pr hh.pr
 obtain⟨n1,m1,m6⟩:=h.n2 hh.pr
 have hmem:x.2∈a8U es wl lo hi p x.1:=by
  obtain⟨_,x2,x3,x4,x5,x6⟩:=idx_mem.1 hx
  exact par_mem.2 ⟨x3,x2,x4,x5,x6⟩
 have h1:tn es x.2*tn es (sdf (unP p x.1) x.2)<=tn es (unP p x.1)*(card (unP p x.1)-1):=by
  refine Nat.le_trans ?_ (c8u (wl:=wl) (lo:=lo) (hi:=hi) hP)
  obtain⟨l1,l2,hl⟩:=List.append_of_mem hmem
  rw[hl,List.map_append,List.map_cons,List.sum_append,List.sum_cons]
  omega
 have hts:=hh.ts
 have hD:0<tn es (unP p x.1)*((n-1)*(a0A k).length):=Nat.mul_pos (by omega) (Nat.mul_pos n1 m1)
 have hND:tn es x.2*tn es (sdf (unP p x.1) x.2)<=tn es (unP p x.1)*((n-1)*(a0A k).length):=by
  refine Nat.le_trans h1 (Nat.mul_le_mul_left _ ?_)
  have:=hP.cd
  have h2:n-1<=(n-1)*(a0A k).length:=Nat.le_mul_of_pos_right _ m1
  omega
 have hN0:0<tn es x.2*tn es (sdf (unP p x.1) x.2):=Nat.mul_pos (Nat.pos_of_ne_zero hh.ta) (Nat.pos_of_ne_zero hh.tb)
 have hD2:tn es (unP p x.1)*((n-1)*(a0A k).length)<2^256:=by
  have h2:=a7p h.gv hP.sM (by have:=hP.cd;have:=h.n9;omega)
  have h3:(n-1)*(a0A k).length<=8*6:=Nat.mul_le_mul (by have:=h.n9;omega) m6
  have h4:=Nat.mul_le_mul h2 h3
  have h5:2^36*(8*6)<2^256:=by decide
  omega
 rw[b3j hP hn hh.pl]
 have hD':=a8O hD
 refine⟨(Rat.lt_div_iff hD').2 (by rw[Rat.zero_mul];exact a8O hN0),Rat.not_lt.1 fun hlt=> ?_,d2E (D:=tn es (unP p x.1)*((n-1)*(a0A k).length)) ⟨_,rfl,by omega⟩ hD hD2⟩
 rw[Rat.lt_div_iff hD',Rat.one_mul]at hlt
 have:((tn es (unP p x.1)*((n-1)*(a0A k).length):Nat):Int)<((tn es x.2*tn es (sdf (unP p x.1) x.2):Nat):Int):=by exact_mod_cast hlt
 omega
theorem SitO.odds (h:SitO es n k p):a1J es wl lo hi n k p=(a6W es wl lo hi k p).map (c8o es n (a0A k).length p):=b3h h.lab h.used h.can h.len (by have:=h.n9;omega)
theorem d5U:∀{l:List Rat},(∀q∈l,0<=q)->0<=sQ l
 |[],_=>Rat.le_refl
 |a::l,h=>by
  have h1:=h a (by simp)
  have h2:=d5U (l:=l) fun q hq=>h q (by simp[hq])
  simp only[sQ];grind
theorem SitO.tot (h:SitO es n k p):0<=a6v es wl lo hi n k p/\a6v es wl lo hi n k p<=1:=by
 refine⟨?_,d5P h.lab h.used h.can h.len (by have:=h.n9;omega)⟩
 unfold a6v
 rw[h.odds,List.map_map]
 refine d5U fun q hq=> ?_
 obtain⟨x,hx,rfl⟩:=List.mem_map.1 hq
 exact Rat.le_of_lt (h.val hx).1
theorem SitO.stay (h:SitO es n k p):0<=1-a6v es wl lo hi n k p/\1-a6v es wl lo hi n k p<=1/\Rb 256 (1-a6v es wl lo hi n k p):=by
 obtain⟨t0,t1⟩:=h.tot (wl:=wl) (lo:=lo) (hi:=hi)
 have a0:0<=1-a6v es wl lo hi n k p:=by grind
 have a1:1-a6v es wl lo hi n k p<=1:=by grind
 refine⟨a0,a1,?_⟩
 by_cases hd:a0A k=[]
 ·have e:a6v es wl lo hi n k p=0:=by unfold a6v;rw[h.odds];unfold a6W;rw[hd];rfl
  rw[e]
  rw[show(1:Rat)-0=1 from by grind]
  exact d2E (D:=1) (Qd.one (by decide)) (by decide) (by decide)
 ·obtain⟨pr,hpr⟩:=List.exists_mem_of_ne_nil _ hd
  obtain⟨n1,m1,m6⟩:=h.n2 hpr
  have hn2:0<(n-1)*(a0A k).length:=Nat.mul_pos n1 m1
  have hD:=a5I (es:=es) (p:=p) hn2 (a0A k)
  have hDb:a6r es n (a0A k).length p (a0A k)<=2^(42*(a0A k).length):=by
   have:∀l:List (Nat×Nat),(∀pr∈l,pr∈a0A k)->a6r es n (a0A k).length p l<=2^(42*l.length):=by
    intro l
    induction l with
    |nil=>intro _;simp[a6r]
    |cons pr l ih=>
     intro hl
     have ih:=ih fun pr hpr=>hl pr (by simp[hpr])
     have hP:=h.pr (hl pr (by simp))
     have hf:b8p es n (a0A k).length p pr<=2^42:=by
      unfold b8p
      split
      ·decide
      ·rw[a8N hP.sM hP.s0,Int.natAbs_natCast]
       have h2:=a7p h.gv hP.sM (by have:=hP.cd;have:=h.n9;omega)
       have h3:(n-1)*(a0A k).length<=8*6:=Nat.mul_le_mul (by have:=h.n9;omega) m6
       have h4:=Nat.mul_le_mul h2 h3
       have h5:2^36*(8*6)<=2^42:=by decide
       omega
     simp only[a6r,List.length_cons]
     rw[Nat.mul_succ,Nat.pow_add,Nat.mul_comm (2^(42*l.length))]
     exact Nat.mul_le_mul hf ih
   exact this _ fun _ h=>h
  have hDb2:a6r es n (a0A k).length p (a0A k)<2^256:=by
   refine Nat.lt_of_le_of_lt hDb (Nat.pow_lt_pow_right (by decide) (by omega))
  obtain⟨J,hJ⟩:∃J,J=320:=⟨_,rfl⟩
  have hq:=b1F hJ (es:=es) (wl:=wl) (lo:=lo) (hi:=hi) h.gv (by have:=h.n9;omega) h.len hn2
  have hs:Qd (a6r es n (a0A k).length p (a0A k)) _ (a6v es wl lo hi n k p):=c6S (l:=(a1J es wl lo hi n k p).map (·.2)) fun q hq'=>by
   obtain⟨x,hx,rfl⟩:=List.mem_map.1 hq'
   exact hq x hx
  exact d2E (((Qd.one (by omega)).sub hs).unit hD a0 a1) hD hDb2
theorem c3t (h:SitO es n k p):a0r p∉(a1J es wl lo hi n k p).map (·.1):=fun hm=>by
 obtain⟨x,hx,e⟩:=List.mem_map.1 hm
 obtain⟨pr,_,a,_,_,_,_,h1,h2,_⟩:=(a7m x hx).ex
 exact h1 (e ▸ h2)
theorem SitO.all (h:SitO es n k p):a1Z es wl lo hi n k p=a1J es wl lo hi n k p++if 0<1-a6v es wl lo hi n k p then[(a0r p,1-a6v es wl lo hi n k p)]else[]:=by
 unfold a1Z
 split
 ·rename_i hs
  rw[if_pos (show 0<1-a6v es wl lo hi n k p from hs)]
  unfold a6Q
  rw[if_neg (c3t h)];rfl
 ·rename_i hs
  rw[if_neg (show ¬0<1-a6v es wl lo hi n k p from hs),List.append_nil]
theorem SitO.mem (h:SitO es n k p) {y:List Int×Rat} (hy:y∈a1Z es wl lo hi n k p):(∃x∈a6W es wl lo hi k p,y=c8o es n (a0A k).length p x)\/(y=(a0r p,1-a6v es wl lo hi n k p)/\0<1-a6v es wl lo hi n k p):=by
 rw[h.all,List.mem_append,h.odds]at hy
 rcases hy with hy|hy
 ·obtain⟨x,hx,rfl⟩:=List.mem_map.1 hy
  exact .inl ⟨x,hx,rfl⟩
 ·split at hy
  ·rename_i hs;exact .inr ⟨List.mem_singleton.1 hy,hs⟩
  ·cases hy
theorem SitO.tok (h:SitO es n k p) {y:List Int×Rat} (hy:y∈a1Z es wl lo hi n k p):0<y.2/\y.2<=1/\Rb 256 y.2:=by
 rcases h.mem hy with⟨x,hx,rfl⟩|⟨rfl,hs⟩
 ·exact h.val hx
 ·exact⟨hs,(h.stay).2.1,(h.stay).2.2⟩
theorem SitO.hitv (h:SitO es n k p) {x:(Nat×Nat)×Nat} (hx:x∈a6W es wl lo hi k p):vO (a1Z es wl lo hi n k p) (a0r (a2h p x.1 x.2))=c3e es n (a0A k).length p x.1 x.2:=
 a5K a6R (by rw[h.all,h.odds];exact List.mem_append_left _ (List.mem_map.2 ⟨x,hx,rfl⟩))
theorem SitO.stayv (h:SitO es n k p):vO (a1Z es wl lo hi n k p) (a0r p)=1-a6v es wl lo hi n k p:=by
 by_cases hs:0<1-a6v es wl lo hi n k p
 ·exact a5K a6R (by rw[h.all,if_pos hs];simp)
 ·have h0:=(h.stay (wl:=wl) (lo:=lo) (hi:=hi)).1
  rw[d5K]
  ·grind
  ·rw[h.all,if_neg hs,List.append_nil];exact c3t h
theorem SitO.sum (h:SitO es n k p):sQ ((a1Z es wl lo hi n k p).map (·.2))=1:=by
 have h0:=(h.stay (wl:=wl) (lo:=lo) (hi:=hi)).1
 rw[h.all,List.map_append,c2Q]
 change a6v es wl lo hi n k p+_=1
 split
 ·simp only[List.map_cons,List.map_nil,sQ];grind
 ·rename_i hs;simp only[List.map_nil,sQ];grind
theorem SitO.out (h:SitO es n k p) {q:List Int} (hq:q∈(a1Z es wl lo hi n k p).map fun x=>x.1.take n):(∃x∈a6W es wl lo hi k p,q=a2h p x.1 x.2)\/(q=p/\0<1-a6v es wl lo hi n k p):=by
 obtain⟨y,hy,rfl⟩:=List.mem_map.1 hq
 rcases h.mem hy with⟨x,hx,rfl⟩|⟨rfl,hs⟩
 ·refine .inl ⟨x,hx,?_⟩
  have:(a2h p x.1 x.2).length=n:=by rw[a5a];exact h.len
  show(a0r (a2h p x.1 x.2)).take n=_
  rw[<-this];exact a5P
 ·refine .inr ⟨?_,hs⟩
  show(a0r p).take n=p
  have:=h.len
  rw[<-this];exact a5P
theorem SitO.outv (h:SitO es n k p) {q:List Int} (hq:q∈(a1Z es wl lo hi n k p).map fun x=>x.1.take n):q.length=n/\(a0r q,vO (a1Z es wl lo hi n k p) (a0r q))∈a1Z es wl lo hi n k p:=by
 obtain⟨y,hy,rfl⟩:=List.mem_map.1 hq
 have f:∃q:List Int,q.length=n/\y.1=a0r q:=by
  rcases h.mem hy with⟨x,hx,rfl⟩|⟨rfl,hs⟩
  ·exact⟨_,by rw[a5a];exact h.len,rfl⟩
  ·exact⟨_,h.len,rfl⟩
 obtain⟨q,h1,h2⟩:=f
 have h3:(a0r q).take n=q:=by rw[<-h1];exact a5P
 simp only[h2,h3]
 refine⟨h1,?_⟩
 rw[<-h2,a5K a6R hy];exact hy
end
end Go.Proofs.YtmannekkmdockaaGreatDoor

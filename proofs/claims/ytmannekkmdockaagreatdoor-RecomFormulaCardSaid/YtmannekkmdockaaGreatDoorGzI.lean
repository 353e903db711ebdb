/- Chapter 32: Odds. -/
import Derived.Test.YtmannekkmdockaaGreatDoorGzH
namespace Go.Proofs.YtmannekkmdockaaGreatDoor
open Go.Proofs.Tryz
open Go.RowKit Go.RX Go.GS Go.RZ
open Go.WD (BP a1L wd rs toI HM sgI Rb)
set_option maxRecDepth 100000
def shc (p:Nat×Nat):List Value:=(shv p.1 p.2).cells.toList
theorem a4n:El prog 49 58 16 true shc (fun p:Nat×Nat=>shv p.1 p.2) where
 und:=by kernel_rfl
 has:=by kernel_rfl
 cel:=by kernel_rfl
 agg:=by kernel_rfl
 pos:=by decide
 one1:=fun h=>by cases h
 small:=by decide
 inf:=⟨(prog.info? 58).getD default,shv 0 0,by kernel_rfl,by kernel_rfl,by kernel_rfl,rfl,of_decide_eq_true (by kernel_rfl)⟩
 len:=fun p=>by show(shv p.1 p.2).cells.toList.length=16;rw[Array.length_toList];exact(a1O p.1 p.2).1
 val:=fun p=>rfl
 cells:=fun p=>rfl
 one:=fun p c hc=>(a1O p.1 p.2).2 c hc
theorem d4j:Ag prog 112 12:=⟨by kernel_rfl,by kernel_rfl,by kernel_rfl⟩
section
variable {H H0 H':PH} {u v w wts:Value} {p wl:List Int} {n k:Nat} {es:List (Nat×Nat)} {lo hi ds:Int}
theorem d0N:∀x∈a3v es wl lo hi n k p,∃q:List Int,q.length=p.length/\x.1=a0v q:=by
 have h:∀x∈a1G es wl lo hi n k p,∃q:List Int,q.length=p.length/\x.1=a0v q:=fun x hx=>by
  obtain⟨pr,_,a,_,_,_,_,_,h6,_⟩:=(a6G x hx).ex
  exact⟨_,by unfold a2s;rw[a0T];unfold a4m;rw[List.length_mapIdx],h6⟩
 intro x hx
 unfold a3v at hx
 split at hx
 ·rcases a5n (x:=x.1) (y:=x.2) hx with⟨h1,_⟩|⟨_,h2⟩
  ·exact⟨p,rfl,h1⟩
  ·exact h _ h2
 ·exact h _ hx
theorem a6J {q:List Int}:(a0v q).take q.length=q:=by unfold a0v;simp
theorem c1Z {α:Type} {ce:α->List Value} {l:List α} (h:SO H0 H 3 1 ce v l) (hp:H'=H\/∃g ob,H0 g=none/\H'=H.put g ob/\(H g=none\/∃cs,H g=some (.cells cs 33 (0,0)))):SO H0 H' 3 1 ce v l:=by
 rcases hp with rfl|⟨g,ob,_,rfl,hg⟩
 ·exact h
 ·obtain⟨h1,h2|⟨g',cap,cur,h2,h3,h4,h5⟩⟩:=h
  ·exact⟨h1,.inl h2⟩
  ·refine⟨h1,.inr ⟨g',cap,cur,h2,h3,?_,h5⟩⟩
   rw[PH.put_ne _ _ (fun e=> ?_)]
   ·exact h4
   ·subst e
    rcases hg with hg|⟨cs,hg⟩
    ·rw[hg]at h4;cases h4
    ·rw[hg]at h4
     injection h4 with h4
     injection h4 with _ h4 _
     exact absurd h4 (by decide)
theorem d0O {q r clock:Nat} {E:List (List Int×Value×Nat)} {seen:List Nat} (h:IT kV H q r E clock seen) (hp:H'=H\/∃g ob,H0 g=none/\H'=H.put g ob/\(H g=none\/∃cs,H g=some (.cells cs 33 (0,0)))):IT kV H' q r E clock seen:=by
 rcases hp with rfl|⟨g,ob,_,rfl,hg⟩
 ·exact h
 ·refine⟨?_,?_⟩
  ·rw[PH.put_ne _ _ (fun e=> ?_)]
   ·exact h.1
   ·subst e
    rcases hg with hg|⟨cs,hg⟩
    ·have:=h.1;rw[hg]at this;cases this
    ·have:=h.1;rw[hg]at this;cases this
  ·rw[PH.put_ne _ _ (fun e=> ?_)]
   ·exact h.2
   ·subst e
    rcases hg with hg|⟨cs,hg⟩
    ·have:=h.2;rw[hg]at this;cases this
    ·have:=h.2;rw[hg]at this;cases this
theorem c2a {α:Type} {e:TypeId} {sz q:Nat} {ce:α->List Value} {l:List α} {a:Option Nat} {b c:Nat} {d:Array Nat} {ob:Obj} (h:SO H0 H e sz ce v l) (hq:H q=some (.mapIter a b d c)):SO H0 (H.put q ob) e sz ce v l:=by
 obtain⟨h1,h2|⟨g',cap,cur,h2,h3,h4,h5⟩⟩:=h
 ·exact⟨h1,.inl h2⟩
 ·exact⟨h1,.inr ⟨g',cap,cur,h2,h3,by rw[PH.put_ne _ _ (fun e=>by subst e;rw[hq]at h4;cases h4)];exact h4,h5⟩⟩
theorem d0P:prog.underlying 112=some (.array 12 3):=by kernel_rfl
theorem d0Q:a2k prog 3=true:=by kernel_rfl
theorem d4k {b:Nat} {l:List Int} {T:TypeId} (hb:H b=none) (hl:l.length=12) (hn:n<=12):SI (H.put b (.cells (l.map ii).toArray T (0,0))) (.slice (some ⟨b,0,none⟩) (n:Int).toNat 12) (l.take n):=by
 have hm:∀l:List Int,(l.flatMap fun z:Int=>[ii z])=l.map ii:=fun l=>by
  induction l with
  |nil=>rfl
  |cons a l ih=>rw[List.flatMap_cons,ih];rfl
 have hln:(l.take n).length=n:=by rw[List.length_take];omega
 refine⟨by rw[hm];simp,some ⟨b,0,none⟩,12,by rw[hln,Int.toNat_natCast],by rw[hln];exact hn,by decide,.inr ⟨b,0,_,_,_,rfl,PH.put_self _ _ _,?_⟩⟩
 rw[hm,hln,List.toList_toArray,List.drop_zero,Nat.mul_one,List.map_take]
theorem d0R {β:Type} (L:List (List Int×β)) (x:List Int) (y:β):a6j L x y≠[]:=fun h=>by
 have:=c5h (L:=L) (k:=x) (v:=y)
 rw[h]at this;cases this
theorem d4l:a3v es wl lo hi n k p≠[]:=by
 unfold a3v
 split
 ·exact d0R _ _ _
 ·rename_i h
  intro e
  rw[e]at h
  exact h (by rw[List.map_nil,sQ];grind)
theorem d0S (hpl:p.length=n) (hn:n<=12) (hk8:k<=8):(a3v es wl lo hi n k p).length<=2^20+1:=by
 have hm64:=c1a k hk8
 have hOl:(a1G es wl lo hi n k p).length<=2^20:=by
  refine Nat.le_trans (b5V (es:=es) (wl:=wl) (lo:=lo) (hi:=hi) (n:=n) (k:=k) (p:=p) fun pr _=>a9h hpl (by omega) pr) ?_
  exact Nat.le_trans (Nat.mul_le_mul hm64 (Nat.pow_le_pow_right (by decide) hn)) (by decide)
 unfold a3v
 split
 ·exact Nat.le_trans (b5T _ _ _) (by omega)
 ·omega
theorem d0T {α:Type} {e:TypeId} {sz:Nat} {ce:α->List Value} {l:List α} (h:SO H0 H e sz ce v l) (hl:l≠[]):∃g,H0 g=none/\(∃cur,H g=some (.cells cur e (0,0)))/\SO (a1y H g) H e sz ce v l:=by
 obtain⟨h1,⟨_,h2⟩|⟨g,cap,cur,h2,h3,h4,h5⟩⟩:=h
 ·exact absurd (List.eq_nil_of_length_eq_zero h2) hl
 ·exact⟨g,h3,⟨cur,h4⟩,h1,.inr ⟨g,cap,cur,h2,by unfold a1y;rw[if_pos rfl],h4,h5⟩⟩
theorem d0U (H:PH) (g:Nat):PH.le (a1y H g) H:=fun k o hk=>by
 unfold a1y at hk
 split at hk
 ·cases hk
 ·exact hk
theorem d0V {g:Nat} {cur:Array Value} {l:List Int} (h:SO H0 H 3 1 (fun z:Int=>[ii z]) v l) (hg:H g=some (.cells cur 33 (0,0))):SI (a1y H g) v l:=by
 have:SO H0 (a1y H g) 3 1 (fun z:Int=>[ii z]) v l:=by
  obtain⟨h1,h2|⟨g',cap,cur',h2,h3,h4,h5⟩⟩:=h
  ·exact⟨h1,.inl h2⟩
  ·refine⟨h1,.inr ⟨g',cap,cur',h2,h3,?_,h5⟩⟩
   unfold a1y
   rw[if_neg (fun e=> ?_)]
   ·exact h4
   ·subst e
    rw[hg]at h4
    injection h4 with h4
    injection h4 with _ h4 _
    exact absurd h4 (by decide)
 exact this.se
open Classical in
noncomputable def a3x (B:PH) (s:Slc):List Int:=if h:∃p,SI B (vs s) p then Classical.choose h else[]
theorem a2i {s:Slc} (h:SI H (vs s) p):a3x H s=p:=by
 have he:∃p,SI H (vs s) p:=⟨p,h⟩
 unfold a3x
 rw[dif_pos he]
 exact c6S (Classical.choose_spec he) h
def tok (r:Rat):Bool:=decide ((-(HM:Int)<=r.num/\r.num<HM)/\(r.den:Int)<HM)
def tpr (r:Rat):Nat×Nat:=(rs r.num,rs (r.den:Int))
theorem c5C {r:Rat} (h:tok r=true):a4g r= .tuple #[shv (tpr r).1 (tpr r).2,ii 0]:=if_pos (of_decide_eq_true h)
theorem d0W {r:Rat} (h:tok r=false):a4g r= .tuple #[shv 0 0,ii 6]:=if_neg (of_decide_eq_false h)
theorem c5D (r:Rat):∃(n d:Nat) (e:Int),a4g r= .tuple #[shv n d,ii e]/\((tok r=true/\e=0/\(n,d)=tpr r)\/(tok r=false/\e=6)):=by
 cases h:tok r with
 |true=>exact⟨_,_,0,c5C h,.inl ⟨rfl,rfl,rfl⟩⟩
 |false=>exact⟨_,_,6,d0W h,.inr ⟨rfl,rfl⟩⟩
def d0X (H':PH) (n:Nat) (es:List (Nat×Nat)) (wl:List Int) (lo hi ds:Int) (p:List Int) (r:Value):Prop:=
 (smE n es wl lo hi ds [p]≠0/\r= .tuple #[.slice none 0 0,.slice none 0 0,ii (smE n es wl lo hi ds [p])])\/
 (smE n es wl lo hi ds [p]=0/\∃ps:List (List Int),ps.Perm ((a3v es wl lo hi n ds.toNat (a0m p)).map fun x=>x.1.take n)/\ps.Pairwise (fun a b=>¬a2L b a<0)/\
  (((∀q∈ps,tok (vO (a3v es wl lo hi n ds.toNat (a0m p)) (a0v q))=true)/\∃(pv ov:Value) (m:List Slc) (cont:Slc->List Int),r= .tuple #[pv,ov,ii 0]/\SE H' 1 (fun s:Slc=>[vs s]) pv m/\m.map cont=ps/\(∀s∈m,SI H' (vs s) (cont s))/\SE H' 16 shc ov (ps.map fun q=>tpr (vO (a3v es wl lo hi n ds.toNat (a0m p)) (a0v q))))\/
   ((∃q∈ps,tok (vO (a3v es wl lo hi n ds.toNat (a0m p)) (a0v q))=false)/\r= .tuple #[.slice none 0 0,.slice none 0 0,ii 6])))
theorem a8h (hT:Tb H) (hw:SG H w es) (hg:GV n es) (hwt:SI H wts wl) (hu:SI H u p):Con prog 12 [gv n w,bv wts lo hi ds,u] H fun r H'=>PH.le H H'/\d0X H' n es wl lo hi ds p r:=by
 refine a0b mixed c4k (by kernel_rfl) rfl ?_
 obtain⟨s1,rfl⟩:=a3L hu
 unfold d0X
 refine a0a (a0S hw) ?_
 refine a0a (a2y (a0A hwt) _ _ _) ?_
 refine a1T a1X (a:=s1) rfl rfl rfl fun v3 H1 l1 o1 _=> ?_
 simp only[cA,nA]
 refine a0q (b2w (cont:=fun _=>p) (hT.mono l1) (hw.mono l1) hg (hwt.mono l1) o1.se (fun s hs=>by rw[List.mem_singleton.1 hs];exact hu.mono l1)) rfl fun H2 l2=> ?_
 simp only[cA,nA]
 refine a0a ⟨_,rfl⟩ ?_
 refine a0e (b:=decide (smE n es wl lo hi ds [p]≠0)) (bN _ _) (fun h0=> ?_) (fun h0=> ?_)
 ·replace h0:=of_decide_eq_true h0
  exact a0c rfl ⟨l1.trans l2,.inl ⟨h0,rfl⟩⟩
 ·replace h0:=of_decide_eq_false h0
  have h0:=Classical.byContradiction h0
  obtain⟨hb0,hn12,hft⟩:=c1Q h0
  have hb:=a8P hb0
  obtain⟨k,rfl,hk1,hk8,hpl,hL,hU,hkn⟩:=b6i (hft p (.head _))
  refine a0d (a5l (hu.mono (l1.trans l2)) ⟨fun x hx=>by have:=hL.1 x hx;omega,hL.2⟩) rfl ?_
  rintro _ H3 ⟨l3,z,rfl,hz⟩
  refine⟨fun h=>(nomatch h),?_⟩
  simp only[cA,nA]
  have l03:=(l1.trans l2).trans l3
  refine a0a ⟨_,rfl,by simp⟩ ?_
  refine a0a ⟨_,rfl,by simp⟩ ?_
  refine a0d (b2q (p:=a0m p) (k:=k) (lo:=lo) (hi:=hi) ⟨hT.mono l03,hw.mono l03,hg,hwt.mono l03,hb.1,hb.2.2.2.2.2⟩ hz.se hn12 hkn (by rw[a0T];exact hpl) hk1 hk8 (a3c hL hU) (a2l hL hU)) rfl ?_
  rintro v6 H5 ⟨l5,m5⟩
  refine⟨fun h=>(nomatch h),?_⟩
  simp only[cA,nA]
  have l05:=l03.trans l5
  simp only[Int.toNat_natCast]
  have hAl:(a3v es wl lo hi n k (a0m p)).length<=2^20+1:=d0S (by rw[a0T];exact hpl) hn12 hk8
  have hA0:a3v es wl lo hi n k (a0m p)≠[]:=d4l
  have hAn:((a3v es wl lo hi n k (a0m p)).map (·.1)).Nodup:=a8f
  have hAk:=d0N (es:=es) (wl:=wl) (lo:=lo) (hi:=hi) (n:=n) (k:=k) (p:=a0m p)
  generalize hA:a3v es wl lo hi n k (a0m p)=A at m5 hAl hA0 hAn hAk⊢
  obtain⟨V,⟨r,es0,clock,rfl,hHr,hH2r,hE,hkv⟩,hke,hrp⟩:=m5
  have hes:es0.map (·.1)=A.map (·.1):=by rw[<-hke,<-hkv];unfold kvN;rw[List.map_map];rfl
  have hel:es0.length=A.length:=by have:=congrArg List.length hes;simpa using this
  refine a0l (a9b (κ:=List Int) (ke:=kV) (vs:=[.map (some r)]) rfl rfl a5O hH2r) rfl ?_
  rintro _ _ ⟨q,hq,rfl,rfl⟩
  refine⟨fun h=>(nomatch h),?_⟩
  simp only[cA,nA]
  have hrq:r≠q:=fun e=>by subst e;rw[hH2r]at hq;cases hq
  have hI0:IT kV (H5.put q (.mapIter (some r) clock #[] clock)) q r es0 clock []:=⟨PH.put_self _ _ _,by rw[PH.put_ne _ _ hrq];exact hH2r⟩
  refine a0k (α:=List Nat×List (Slc×List Int)×Value) (fun⟨seen,ls,v8⟩=>[v8]) (fun⟨seen,ls,v8⟩=>fun H'=>PH.le H5 H'/\IT kV H' q r es0 clock seen/\SO H5 H' 33 1 (fun s:Slc=>[vs s]) v8 (ls.map (·.1))/\(∀x∈ls,SO H5 H' 3 1 (fun z:Int=>[ii z]) (vs x.1) x.2)/\(ls.map (·.2)++(left es0 seen).map fun e=>e.1.take n).Perm (es0.map fun e=>e.1.take n)) (fun⟨seen,ls,v8⟩=>(left es0 seen).length) (([],[],.slice none 0 0)) rfl (⟨PH.le_put hq _,hI0,SO.nil _ _ _ _ _,(fun x hx=>by cases hx),by rw[b5Z];exact List.Perm.refl _⟩) fun⟨seen,ls,v8⟩ H4 ⟨l4,it4,o8,hct,hpm⟩=> ?_
  simp only[cA,nA]
  refine a0l (b2k (ok:=okK) (ke:=kV) (vs:=[.pointer (some ⟨q,0,none⟩)]) rfl rfl hE it4) rfl ?_
  rintro v9 H6 hnx
  refine⟨fun h=>(nomatch h),?_⟩
  simp only[cA,nA]
  obtain⟨b,x,y,rfl,hb'⟩:=b5Y hnx
  refine a0a (c1G b x y) ?_
  refine a0a ⟨b,a6H b x y⟩ ?_
  refine a0e (b:=b) (a6H b x y) (fun hb1=> ?_) (fun hb1=> ?_)
  ·skip
   obtain⟨e,he,rfl,rfl,rfl⟩:∃p∈left es0 seen,x=kV p.1/\y=p.2.1/\H6=H4.put q (.mapIter (some r) clock (seen++[p.2.2]).toArray clock):=by
    rcases hb' with⟨h,_⟩|⟨_,h⟩
    ·rw[hb1]at h;cases h
    ·exact h
   subst hb1
   have heE:e∈es0:=(List.mem_filter.1 he).1
   have hk12:e.1.length=12:=(hE.oks e heE).1
   have hqi:=it4.1
   have it5:IT kV (H4.put q (.mapIter (some r) clock (seen++[e.2.2]).toArray clock)) q r es0 clock (seen++[e.2.2]):=⟨PH.put_self _ _ _,by rw[PH.put_ne _ _ hrq];exact it4.2⟩
   have l5':PH.le H5 (H4.put q (.mapIter (some r) clock (seen++[e.2.2]).toArray clock)):=fun b' ob' hbb=>by rw[PH.put_ne _ _ (fun e=>by subst e;rw[hq]at hbb;cases hbb)];exact l4 _ _ hbb
   have o8':=c2a (ob:= .mapIter (some r) clock (seen++[e.2.2]).toArray clock) o8 hqi
   have hct':∀x∈ls,SO H5 (H4.put q (.mapIter (some r) clock (seen++[e.2.2]).toArray clock)) 3 1 (fun z:Int=>[ii z]) (vs x.1) x.2:=fun x hx=>c2a (hct x hx) hqi
   generalize H4.put q (.mapIter (some r) clock (seen++[e.2.2]).toArray clock)=H7 at it5 l5' o8' hct'⊢
   refine a0l (Rds.opn' (a9c (ok:=okK) (ke:=kV) (vs:=[.pointer (some ⟨q,0,none⟩)]) rfl rfl hE heE it5)) rfl ?_
   rintro _ _ ⟨rfl,rfl⟩
   refine⟨fun h=>(nomatch h),?_⟩
   simp only[cA,nA]
   refine a0a ⟨_,rfl,by simp⟩ ?_
   refine a1C (cs:=(List.replicate 12 (ii 0)).toArray) (by kernel_rfl) fun b hbb=> ?_
   simp only[cA,nA]
   refine b0a (vs:=e.1.map ii) (by rw[List.length_map,hk12];exact d4j) rfl rfl rfl (PH.put_self _ _ _) (by simp[hk12]) (fun c hc=>by obtain⟨z,_,rfl⟩:=List.mem_map.1 hc;rfl) rfl (fun h=>(nomatch h)) ?_
   simp only[cA,nA]
   rw[PH.put_put]
   refine a0h ((a6c (n:=12) (l:=(n:Int)) (vs:=[.pointer (some ⟨b,0,none⟩),ii (n:Nat)]) rfl rfl rfl d0P d0Q (by omega) (by omega)).rds _) rfl ?_
   simp only[cA,nA]
   refine a0d (c4X (d4k hbb hk12 hn12) (by rw[List.length_take];omega)) rfl ?_
   rintro v14 H8 ⟨l8,o14⟩
   refine⟨fun h=>(nomatch h),?_⟩
   simp only[cA,nA]
   obtain⟨s2,rfl⟩:=a3L o14.se
   refine a1T a1X (a:=s2) rfl rfl rfl fun v15 H9 l9 o15 _=> ?_
   simp only[cA,nA]
   have l79:=(PH.le_put hbb _).trans (l8.trans l9)
   refine a2t a1X rfl rfl rfl (l5'.trans l79) (o8'.mono l79) o15.se (by have:=hpm.length_eq;simp only[List.length_append,List.length_map,List.length_singleton]at this⊢;omega) rfl rfl fun v16 H11 l11 o11 hput=> ?_
   simp only[cA,nA]
   obtain⟨la,lb,hla,hlb⟩:=b2p (hE.asc.imp fun h=>Nat.ne_of_lt h) he
   exact⟨(seen++[e.2.2],ls++[(s2,e.1.take n)],v16),by show(left es0 (seen++[e.2.2])).length<(left es0 seen).length;rw[hla,hlb];simp,rfl,⟨l11,d0O (c1J it5 l79) hput,by rw[List.map_append];exact o11,(fun x hx=>by rw[List.mem_append]at hx;rcases hx with hx|hx;(exact c1Z ((hct' x hx).mono l79) hput);(rw[List.mem_singleton]at hx;subst hx;exact c1Z ((o14.less (l5'.trans (PH.le_put hbb _))).mono l9) hput)),by rw[hla]at hpm;rw[hlb];simp only[List.map_append,List.map_cons,List.map_nil,List.append_assoc,List.cons_append,List.nil_append]at hpm⊢;exact(List.Perm.append_left _ (List.perm_middle (l₁:=la.map fun e=>e.1.take n)).symm).trans hpm⟩⟩
  ·skip
   obtain⟨hle0,h54⟩:left es0 seen=[]/\H6=H4:=by
    rcases hb' with⟨_,h⟩|⟨h,_⟩
    ·exact h
    ·rw[hb1]at h;cases h
   rw[h54]
   rw[hle0,List.map_nil,List.append_nil]at hpm
   have hl0:ls≠[]:=fun e=>by rw[e]at hpm;have:=hpm.length_eq;simp only[List.length_map,List.length_nil]at this;exact hA0 (List.eq_nil_of_length_eq_zero (by omega))
   have hll:ls.length=A.length:=by have:=hpm.length_eq;simp only[List.length_map]at this;omega
   obtain⟨g,hg5,⟨cur,hg4⟩,o8c⟩:=d0T o8 (by simpa using hl0)
   have hsi:∀x∈ls,SI (a1y H4 g) (vs x.1) x.2:=fun x hx=>d0V (hct x hx) hg4
   refine a0d (c1Y (B:=a1y H4 g) (cont:=a3x (a1y H4 g)) (d0U _ _) o8c (by simpa using hl0) (by rw[List.length_map];omega) (fun s hs=>by obtain⟨x,hx,rfl⟩:=List.mem_map.1 hs;rw[a2i (hsi x hx)];exact hsi x hx)) rfl ?_
   rintro _ H12 ⟨l12,m,hmp,hmo,o12⟩
   refine⟨fun h=>(nomatch h),?_⟩
   simp only[cA,nA]
   have hmS:∀s∈m,SI (a1y H4 g) (vs s) (a3x (a1y H4 g) s):=fun s hs=>by
    obtain⟨x,hx,rfl⟩:=List.mem_map.1 (hmp.mem_iff.1 hs)
    rw[a2i (hsi x hx)];exact hsi x hx
   have hcs:ls.map (·.2)=(ls.map (·.1)).map (a3x (a1y H4 g)):=by
    rw[List.map_map]
    exact List.map_congr_left fun x hx=>(a2i (hsi x hx)).symm
   have hesA:(es0.map fun e=>e.1.take n)=A.map fun x=>x.1.take n:=by have:=congrArg (List.map (List.take n)) hes;rw[List.map_map,List.map_map]at this;exact this
   have hpA:(m.map (a3x (a1y H4 g))).Perm (A.map fun x=>x.1.take n):=(hmp.map _).trans (by rw[<-hcs,<-hesA];exact hpm)
   have hkA:∀s∈m,(a3x (a1y H4 g) s).length=n/\a0v (a3x (a1y H4 g) s)∈A.map (·.1):=fun s hs=>by
    obtain⟨x,hx,e⟩:=List.mem_map.1 (hpA.mem_iff.1 (List.mem_map.2 ⟨s,hs,rfl⟩))
    obtain⟨q',hq1,hq2⟩:=hAk x hx
    rw[a0T]at hq1
    have h3:a3x (a1y H4 g) s=q':=by rw[<-e,hq2,<-hpl,<-hq1];exact a6J
    rw[h3]
    exact⟨by omega,List.mem_map.2 ⟨x,hx,hq2⟩⟩
   have hmap:H12 r=some (.map (eN kV es0).toArray clock):=l12 _ _ (by unfold a1y;rw[if_neg (fun e=>by subst e;rw[it4.2]at hg4;cases hg4)];exact it4.2)
   have l5B:PH.le H5 (a1y H4 g):=fun b' ob' h=>by
    have:=l4 _ _ h
    unfold a1y
    rw[if_neg (fun e=>by subst e;rw[h]at hg5;cases hg5)];exact this
   have lH12:PH.le H H12:=fun b' ob' hbb=>l12 _ _ (by have h1:=l4 _ _ (l05 _ _ hbb);unfold a1y;rw[if_neg (fun e=>by subst e;rw[l05 _ _ hbb]at hg5;cases hg5)];exact h1)
   refine a0g a1X rfl rfl o12.se rfl ?_
   simp only[cA,nA]
   refine a0k (α:=Nat×List (Nat×Nat)×Value) (fun⟨i,sh,v14⟩=>[v8,ii 0,v14,ii (i:Nat)]) (fun⟨i,sh,v14⟩=>fun H'=>i<=m.length/\PH.le H12 H'/\SO H12 H' 58 16 shc v14 sh/\sh=((m.take i).map fun s=>tpr (vO A (a0v (a3x (a1y H4 g) s))))/\∀s∈m.take i,tok (vO A (a0v (a3x (a1y H4 g) s)))=true) (fun⟨i,sh,v14⟩=>m.length-i) ((0,[],.slice none 0 0)) rfl (⟨Nat.zero_le _,PH.le.refl _,SO.nil _ _ _ _ _,rfl,fun s hs=>by cases hs⟩) fun⟨i,sh,v14⟩ H13 ⟨hi,l13,o13,hsh,htk⟩=> ?_
   simp only[cA,nA]
   refine a0a ⟨_,rfl⟩ ?_
   refine a0a ⟨_,rfl⟩ ?_
   refine a0e (b:=decide (((i:Nat):Int)<(m.length:Nat))) rfl (fun h=> ?_) (fun h=> ?_)
   ·replace h:=of_decide_eq_true h
    have hi':i<m.length:=by omega
    obtain⟨s,hs,_⟩:=a0u hi'
    have hsm:=List.mem_of_getElem? hs
    obtain⟨hkl,hkm⟩:=hkA s hsm
    refine a0i a1X rfl rfl rfl rfl (fun _=>rfl) (o12.se.mono l13) hs rfl (fun _=>rfl) fun _=> ?_
    simp only[cA,nA]
    refine a0d (a4f ((hmS s hsm).mono (l12.trans l13)) (by omega)) rfl ?_
    rintro _ H14 ⟨l14,rfl⟩
    refine⟨fun h=>(nomatch h),?_⟩
    simp only[cA,nA]
    generalize hcc:a3x (a1y H4 g) s=cc at*
    have hrp':∀k v q,(k,v)∈V->(k,q)∈A->Rp H14 v q:=fun k v q a b=>(hrp k v q a b).mono (l5B.trans (l12.trans (l13.trans l14)))
    obtain⟨b,x,hub,hx1,hx2,hx3⟩:=c1S (V:=V) (L:=A) (κ:=a0v cc) hAn hke hrp'
    have hokc:okK (a0v cc):=by
     rw[<-hes]at hkm
     obtain⟨e,he,h⟩:=List.mem_map.1 hkm
     rw[<-h];exact hE.oks e he
    have hbt:b=true:=by
     rcases hub with⟨_,_,h⟩|⟨h,_⟩
     ·exact absurd (by rw[hke];exact hkm) h
     ·exact h
    refine a0h (b5R b2m (vs:=[.map (some r),kV (a0v cc)]) (ok2:=false) (k:=a0v cc) (u:=x) (b:=b) rfl rfl rfl a5O hokc c6T ⟨r,es0,clock,rfl,(l13.trans l14) _ _ hmap,hE,hkv⟩ hub) rfl ?_
    simp only[cA,nA]
    refine a0d (a4e (hx2 hbt)) rfl ?_
    rintro u20 H15 ⟨l15,hu20⟩
    refine⟨fun h=>(nomatch h),?_⟩
    simp only[cA,nA]
    obtain⟨a7,d7,e7,ht7,ht8⟩:=c5D (vO A (a0v cc))
    rw[ht7]at hu20
    subst hu20
    refine a0a ⟨_,rfl,by simp⟩ ?_
    refine a0a ⟨_,rfl,by simp⟩ ?_
    refine a0a (a1O a7 d7) ?_
    refine a0a ⟨_,rfl⟩ ?_
    refine a0e (b:=decide (e7≠0)) (bN _ _) (fun he7=> ?_) (fun he7=> ?_)
    ·replace he7:=of_decide_eq_true he7
     have htf:tok (vO A (a0v cc))=false/\e7=6:=by
      rcases ht8 with⟨_,h,_⟩|h
      ·exact absurd h he7
      ·exact h
     obtain⟨htf,he6⟩:=htf
     exact a0c rfl ⟨(lH12.trans l13).trans (l14.trans l15),.inr ⟨h0,m.map (a3x (a1y H4 g)),hpA,hmo,.inr ⟨⟨cc,List.mem_map.2 ⟨s,hsm,hcc⟩,htf⟩,by rw[he6];rfl⟩⟩⟩
    ·replace he7:=of_decide_eq_false he7
     have he7:=Classical.byContradiction he7
     have htt:tok (vO A (a0v cc))=true/\(a7,d7)=tpr (vO A (a0v cc)):=by
      rcases ht8 with⟨h,_,h2⟩|⟨_,h⟩
      ·exact⟨h,h2⟩
      ·omega
     obtain⟨htt,htp⟩:=htt
     refine a1T a4n (a:=(a7,d7)) rfl rfl rfl fun v21 H16 l16 o16 _=> ?_
     simp only[cA,nA]
     refine a1k a4n rfl rfl rfl (((l13.trans l14).trans l15).trans l16) (o13.mono ((l14.trans l15).trans l16)) o16.se (by have:=hmp.length_eq;rw[hsh];simp only[List.length_map,List.length_take,List.length_singleton]at this⊢;omega) rfl rfl fun v22 H17 l17 o17 hput=> ?_
     simp only[cA,nA]
     exact⟨(i+1,sh++[(a7,d7)],v22),(by show m.length-(i+1)<m.length-i;omega),(d1x rfl rfl rfl (a0r rfl (by have:=hmp.length_eq;rw[List.length_map]at this;omega))),⟨(by show i+1<=_;omega),l17,o17,(by show sh++[(a7,d7)]=_;rw[take_snoc hs,List.map_append,<-hsh,htp,<-hcc];rfl),fun s' hs'=>by rw[take_snoc hs]at hs';rcases List.mem_append.1 hs' with h|h;(exact htk s' h);(rw[List.mem_singleton.1 h,hcc];exact htt)⟩⟩
   ·replace h:=of_decide_eq_false h
    rw[List.take_of_length_le (by omega)]at hsh htk
    exact a0c rfl ⟨lH12.trans l13,.inr ⟨h0,m.map (a3x (a1y H4 g)),hpA,hmo,.inl ⟨(fun q hq=>by obtain⟨s,hs,rfl⟩:=List.mem_map.1 hq;exact htk s hs),v8,v14,m,a3x (a1y H4 g),rfl,o12.se.mono l13,rfl,(fun s hs=>(hmS s hs).mono (l12.trans l13)),by rw[List.map_map];rw[hsh]at o13;exact o13.se⟩⟩⟩
end
end Go.Proofs.YtmannekkmdockaaGreatDoor

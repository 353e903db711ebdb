/- Spreads: checks. -/
import Derived.Test.YtlmgkkjgdapnpaaGreatDoorGfR
namespace Go.GS
theorem d2S {α:Type} [DecidableEq α] (a:α):∀{D:List α},D.Nodup->a∈D->(D.map fun x=>if a=x then 1 else 0).sum=1:=by
 intro D
 induction D with
 |nil=>intro _ h;cases h
 |cons d D ih=>
  intro hn ha
  rw[List.nodup_cons]at hn
  rw[List.map_cons,List.sum_cons]
  rcases List.mem_cons.1 ha with e|e
  ·subst e
   rw[if_pos rfl]
   have:(D.map fun x=>if a=x then 1 else 0).sum=0:=by
    have h2:(D.map fun x=>if a=x then 1 else 0)=D.map fun _=>0:=List.map_congr_left fun x hx=>if_neg fun e:a=x=>hn.1 (by rw[e];exact hx)
    rw[h2]
    clear ih hn ha h2
    induction D with
    |nil=>rfl
    |cons d D ih=>rw[List.map_cons,List.sum_cons,ih]
   omega
  ·rw[if_neg (fun e2:a=d=>hn.1 (by rw[<-e2];exact e)),ih hn.2 e]
theorem c1X {α:Type} [DecidableEq α] {D:List α} (hn:D.Nodup):∀{l:List α},(∀x∈l,x∈D)->(D.map fun x=>l.count x).sum=l.length:=by
 intro l
 induction l with
 |nil=>
  intro h
  clear h hn
  induction D with
  |nil=>rfl
  |cons d D ih=>rw[List.map_cons,List.sum_cons,ih];rfl
 |cons a l ih=>
  intro h
  have e:(D.map fun x=>(a::l).count x)=D.map fun x=>l.count x+if a=x then 1 else 0:=List.map_congr_left fun x _=>by
   rw[List.count_cons]
   by_cases h:a=x
   ·rw[if_pos h,if_pos (by simpa using h)]
   ·rw[if_neg h,if_neg (by simpa using h)]
  have add:∀(E:List α) (f g:α->Nat),(E.map fun x=>f x+g x).sum=(E.map f).sum+(E.map g).sum:=by
   intro E f g
   induction E with
   |nil=>rfl
   |cons d E ih=>rw[List.map_cons,List.sum_cons,List.map_cons,List.sum_cons,List.map_cons,List.sum_cons,ih];omega
  rw[e,add,ih (fun x hx=>h x (by simp[hx])),d2S a hn (h a (by simp)),List.length_cons]
end Go.GS
namespace Go.Proofs.YtlmgkkjgdapnpaaGreatDoor
open Go.Proofs.Tryz
open Go.RowKit Go.RX Go.GS Go.RZ Go.WD
set_option maxRecDepth 100000
def cuM (l:List Rat) (m:List MaT) (i:Nat):Nat:=((m.take i).map fun q=>l.count q.1.1).sum
theorem c6W {l:List Rat} {m:List MaT} {i:Nat} {x:MaT} (h:m[i]? =some x):cuM l m (i+1)=cuM l m i+l.count x.1.1:=by
 unfold cuM
 rw[take_snoc h,List.map_append,List.sum_append];simp
section
variable {H B:PH} {u v w e:Value} {l:List Rat} {m:List MaT} {i:Nat}
theorem TalP.nd (h:TalP l m):(m.map fun q=>q.1.1).Nodup:=List.pairwise_map.2 (h.1.imp fun h e=>by rw[e]at h;exact Rat.lt_irrefl h)
theorem TalP.mem (h:TalP l m) {r:Rat}:r∈(m.map fun q=>q.1.1)↔r∈l:=by
 constructor
 ·intro hr
  obtain⟨x,hx,rfl⟩:=List.mem_map.1 hr
  exact((h.2 x.1).1 ⟨x,hx,rfl⟩).1
 ·intro hr
  obtain⟨x,hx,he⟩:=(h.2 (r,qN (l.count r) l.length)).2 ⟨hr,rfl⟩
  exact List.mem_map.2 ⟨x,hx,by rw[he]⟩
theorem TalP.p (h:TalP l m) {x:MaT} (hx:x∈m):x.1.2=qN (l.count x.1.1) l.length:=((h.2 x.1).1 ⟨x,hx,rfl⟩).2
theorem TalP.all (h:TalP l m):cuM l m m.length=l.length:=by
 unfold cuM
 rw[List.take_length]
 have:=c1X h.nd (l:=l) (fun x hx=>h.mem.2 hx)
 rw[List.map_map]at this
 exact this
theorem TalP.len (h:TalP l m):m.length<=l.length:=by
 have:=List.Nodup.length_le_of_subset h.nd (l₂:=l) fun x hx=>h.mem.1 hx
 rwa[List.length_map]at this
theorem c8u (i:Nat):cuM l m i<=cuM l m m.length:=by
 unfold cuM
 rw[List.take_length]
 have:(m.map fun q=>l.count q.1.1).sum=((m.take i).map fun q=>l.count q.1.1).sum+((m.drop i).map fun q=>l.count q.1.1).sum:=by
  rw[<-List.sum_append,<-List.map_append,List.take_append_drop]
 omega
theorem d5B:a1q prog 43=true:=by kernel_rfl
theorem b5q (q:MaT):Con prog 43 [veM q] H fun u H'=>PH.le H H'/\Rp H' u q.1.2:=by
 refine a0b mixed d7m (by kernel_rfl) rfl ?_
 refine a0a (a1C q) ?_
 refine a0d (a8s q.2.2) (congrArg (fun z=>[z]) (d7o q)) ?_
 rintro v2 H1 ⟨l1,q1⟩
 refine⟨fun h=>(nomatch h),?_⟩
 simp only[cA,nA]
 refine a0a q1.rq ?_
 exact a0c (a1W q1) ⟨l1,q1⟩
theorem a6c (n:Int) (h0: -9223372036854775808<=n) (h1:n<9223372036854775808):Con prog 36 [.int .i64 n] H fun u H'=>PH.le H H'/\Rp H' u (n:Rat):=by
 refine a0b mixed c4Q (by kernel_rfl) rfl (a0d (a7G n h0 h1) rfl ?_)
 rintro u1 H1 ⟨l1,hu1⟩
 simp only[cA,nA]
 refine⟨fun h=>(nomatch h),a0d (b6n hu1) rfl ?_⟩
 rintro u2 H2 ⟨l2,hu2⟩
 refine⟨fun h=>(nomatch h),a0a hu2.rq (a0c (a1W hu2) ⟨l1.trans l2,hu2⟩)⟩
theorem c1Y:El prog 42 72 32 true ceM veM where
 und:=by kernel_rfl
 has:=by kernel_rfl
 cel:=by kernel_rfl
 agg:=by kernel_rfl
 pos:=by decide
 one1:=fun h=>by cases h
 small:=by decide
 inf:=⟨(prog.info? 72).getD default,.agg (Array.replicate 32 (.int .u64 0)),by kernel_rfl,by kernel_rfl,by kernel_rfl,rfl,of_decide_eq_true (by kernel_rfl)⟩
 len:=el_mass.len
 val:=fun p=>rfl
 cells:=fun p=>rfl
 one:=fun p c hc=>(a1C p).2 c hc
theorem c6X (hu:SE H 32 ceM v m) (hT:TalP l m) (h0:0<l.length) (hl:l.length<=400):Con prog 144 [v,.func (.func 43) #[] #[]] H fun u H'=>PH.le H H'/\Rp H' u (1:Rat):=by
 refine a0b mixed d2u (by kernel_rfl) rfl ?_
 have hml:=hT.len
 have hall:=hT.all
 refine a0d (a6c 0 (by omega) (by omega)) rfl ?_
 rintro v2 H1 ⟨l1,q1⟩
 refine⟨fun h=>(nomatch h),?_⟩
 simp only[cA,nA]
 refine a0a q1.rq ?_
 have e0:((0:Int):Rat)=qN (cuM l m 0) l.length:=by
  unfold qN
  rw[show cuM l m 0=0 from rfl,Rat.divInt_eq_div]
  show(0:Rat)=_
  grind
 rw[e0]at q1
 refine a0j c1Y rfl rfl (hu.mono l1) rfl ?_
 refine a0o (α:=Nat×Value) (fun⟨i,x⟩=>[ii (i:Nat),x]) (fun⟨i,x⟩=>fun H'=>i<=m.length/\PH.le H H'/\Rp H' x (qN (cuM l m i) l.length)) (fun⟨i,x⟩=>m.length-i) ((0,v2)) rfl (⟨Nat.zero_le _,l1,q1⟩) fun⟨i,x⟩ H' hQ=> ?_
 simp only[cA,nA]
 obtain⟨hi,lX,qX⟩:=hQ
 refine a0a ⟨_,rfl⟩ ?_
 refine a0a ⟨_,rfl⟩ ?_
 refine a0f (b:=decide (((i:Nat):Int)<(m.length:Nat))) rfl (fun h=> ?_) (fun h=> ?_)
 ·replace h:=of_decide_eq_true h
  have hi':i<m.length:=by omega
  obtain⟨y,hy,_⟩:=a0t hi'
  have hcu:=c8u (l:=l) (m:=m) i
  have hcc:l.count y.1.1<=l.length:=List.count_le_length
  refine a0m c1Y rfl rfl rfl rfl (fun _=>rfl) (hu.mono lX) hy rfl (fun _=>rfl) fun _=> ?_
  simp only[cA,nA]
  refine a0a (a1C y) ?_
  refine a0n (a0D (f:=43) (caps:= #[]) (vs:=[veM y]) rfl rfl rfl d5B (b5q y)) rfl ?_
  rintro v8 H2 ⟨l2,q2⟩
  refine⟨(fun _=>l2),?_⟩
  simp only[cA,nA]
  rw[hT.p (List.mem_of_getElem? hy)]at q2
  refine a0d (a5S (qX.mono l2) q2 (b3N h0 (by omega) (by omega)) (b3N h0 (by omega) (by omega)) (by decide)) (a0R (a1W qX) rfl) ?_
  rintro v9 H3 ⟨l3,q3⟩
  refine⟨(fun _=>l3),?_⟩
  simp only[cA,nA]
  refine a0a q3.rq ?_
  rw[c1S h0,<-c6W hy]at q3
  exact⟨(i+1,v9),by show m.length-(i+1)<m.length-i;omega,(a0R (a0J rfl (by omega)) rfl),⟨hi',lX.trans (l2.trans l3),q3⟩⟩
 ·replace h:=of_decide_eq_false h
  obtain rfl:i=m.length:=by omega
  rw[hall,d5x h0]at qX
  exact a0c (a1W qX) ⟨lX,qX⟩
theorem b5r (r:Rat):sgR r r=0:=by unfold sgR;rw[if_neg Rat.lt_irrefl,if_pos rfl]
theorem a4X {r:Rat} (hr:Rg r):a1g prog 97 [shR r] H (ii 0):=
 (a9b _ _).mono fun u H' h=>⟨h.1,by rw[h.2,b8Z hr];rfl⟩
theorem b5s (r:Rat):Ag prog 61 (shw r).toList.length:=by
 rw[Array.length_toList,a0Q]
 exact⟨by kernel_rfl,by kernel_rfl,by kernel_rfl⟩
theorem c1Z:FA prog 72 0 0:=⟨by kernel_rfl,of_decide_eq_true (by kernel_rfl),by kernel_rfl,by kernel_rfl,of_decide_eq_true (by kernel_rfl)⟩
theorem d5C {c n:Nat} (hc:0<c) (hn:0<n):0<(qN c n).num:=by
 unfold qN
 rw[b0a _ (by omega)]
 have hg:0<Nat.gcd ((c:Nat):Int).natAbs ((n:Nat):Int).natAbs:=Nat.gcd_pos_of_pos_left _ (by omega)
 have h1:0<=((n:Nat):Int)/(Nat.gcd ((c:Nat):Int).natAbs ((n:Nat):Int).natAbs:Nat):=Int.ediv_nonneg (by omega) (by omega)
 rw[if_neg (by omega)]
 obtain⟨d,hd⟩:=Nat.gcd_dvd_left ((c:Nat):Int).natAbs ((n:Nat):Int).natAbs
 have hd':c=Nat.gcd ((c:Nat):Int).natAbs ((n:Nat):Int).natAbs*d:=by simpa using hd
 have hd0:0<d:=Nat.pos_of_ne_zero fun e=>by subst e;simp at hd';omega
 generalize Nat.gcd ((c:Nat):Int).natAbs ((n:Nat):Int).natAbs=g at hg hd'⊢
 rw[hd',Int.natCast_mul,Int.mul_ediv_cancel_left _ (by omega)]
 omega
theorem c2a (hu:SE H 32 ceM v m) (hT:TalP l m) (h0:0<l.length) (hl:l.length<=400):a1g prog 94 [v] H (ii 0):=by
 refine a0b mixed d2v (by kernel_rfl) rfl ?_
 have hml:=hT.len
 have hm0:0<m.length:=List.length_pos_iff.2 (hT.ne (fun e=>by subst e;cases h0))
 refine⟨(fun vals H'=>vals=[.bool false]/\H=H'),?_,?_⟩
 ·skip
  refine a0j el_mass rfl rfl hu rfl ?_
  refine a0a ⟨_,rfl⟩ ?_
  refine a0e (bF (p:=((m.length:Nat):Int)<1) (by omega)) ?_
  refine a0j el_mass rfl rfl hu rfl ?_
  refine a0a ⟨_,rfl⟩ ?_
  exact⟨by show[Value.bool (decide (((m.length:Nat):Int)>400))]=_;rw[decide_eq_false (by omega)],rfl⟩
 rintro vals H' _ ⟨rfl,rfl⟩
 simp only[cA,nA]
 refine a0a ⟨_,rfl⟩ ?_
 refine a0e rfl ?_
 refine a0j el_mass rfl rfl hu rfl ?_
 refine a0o (α:=Nat) (fun i=>[ii 0,ii (i:Nat)]) (fun i=>fun H'=>i<=m.length/\PH.le H H') (fun i=>m.length-i) (0) rfl (⟨Nat.zero_le _,PH.le.refl _⟩) fun i H' hQ=> ?_
 simp only[cA,nA]
 obtain⟨hi,lX⟩:=hQ
 refine a0a ⟨_,rfl⟩ ?_
 refine a0a ⟨_,rfl⟩ ?_
 refine a0f (b:=decide (((i:Nat):Int)<(m.length:Nat))) rfl (fun h=> ?_) (fun h=> ?_)
 ·replace h:=of_decide_eq_true h
  have hi':i<m.length:=by omega
  obtain⟨y,hy,_⟩:=a0t hi'
  have hym:=List.mem_of_getElem? hy
  have hcc:0<l.count y.1.1:=List.count_pos_iff.2 (hT.mem.1 (List.mem_map.2 ⟨y,hym,rfl⟩))
  refine a0m el_mass rfl rfl rfl rfl (fun _=>rfl) (hu.mono lX) hy rfl (fun _=>rfl) fun _=> ?_
  simp only[cA,nA]
  refine a0a (a1C y) ?_
  refine⟨(fun vals H2=>vals=[.bool false]/\PH.le H' H2),?_,?_⟩
  ·skip
   refine a0h (a4X y.2.1) (congrArg (fun z=>[z]) (b2q y)) fun H3 l3=> ?_
   simp only[cA,nA]
   refine a0a ⟨_,rfl⟩ ?_
   refine a0e (bF (p:=(0:Int)≠0) (by simp)) ?_
   refine a0h (a4X y.2.2) (congrArg (fun z=>[z]) (d7o y)) fun H4 l4=> ?_
   simp only[cA,nA]
   refine a0a ⟨_,rfl⟩ ?_
   refine a0e (bF (p:=(0:Int)≠0) (by simp)) ?_
   refine a0d (b5q y) rfl ?_
   rintro v9 H5 ⟨l5,q5⟩
   refine⟨(fun _=>l5),?_⟩
   simp only[cA,nA]
   obtain⟨w1,w2,rfl,hlw,-⟩:=q5.out
   refine a0a ⟨_,rfl,rfl⟩ ?_
   refine a0d (a7E hlw) rfl ?_
   rintro _ _ ⟨rfl,rfl⟩
   refine⟨(fun _=>PH.le.refl _),?_⟩
   simp only[cA,nA]
   have hpos:0<y.1.2.num:=by rw[hT.p hym];exact d5C hcc h0
   refine a0a ⟨_,rfl⟩ ?_
   refine a0e (bF (p:=sgI y.1.2.num 0<=0) (by unfold sgI;rw[if_neg (by omega),if_neg (by omega)];decide)) ?_
   refine a0f (b:=decide (((i:Nat):Int)>0)) rfl (fun hi0=> ?_) (fun hi0=> ?_)
   ·replace hi0:=of_decide_eq_true hi0
    obtain⟨y0,hy0,_⟩:=a0t (l:=m) (i:=i-1) (by omega)
    have l25:=l3.trans (l4.trans l5)
    refine c0Z el_mass (ws:=(shw y0.1.1).toList) c1Z (b5s y0.1.1) (by show((shw y0.1.1++shw y0.1.2).toList.drop 0).take _=_;rw[List.drop_zero,Array.toList_append,List.take_left]) (by simp) rfl rfl rfl rfl rfl (fun _=>rfl) (fun _=>rfl) (hu.mono (lX.trans l25)) hy0 (a0R rfl (b9L (by rw[show i-1+1=i by omega];rfl) (by omega))) (fun _=>rfl) (fun _ _=>rfl) fun _ _=> ?_
    simp only[cA,nA]
    refine a0d (a8s y0.2.1) (a1R (by rw[a3m];rfl)) ?_
    rintro v14 H6 ⟨l6,q6⟩
    refine⟨(fun _=>l6),?_⟩
    simp only[cA,nA]
    refine a0d (a8s y.2.1) (congrArg (fun z=>[z]) (b2q y)) ?_
    rintro v15 H7 ⟨l7,q7⟩
    refine⟨(fun _=>l7),?_⟩
    simp only[cA,nA]
    refine a0d (a6T (q6.mono l7) q7 y0.2.1 y.2.1) rfl ?_
    rintro _ H8 ⟨l8,rfl⟩
    refine⟨(fun _=>l8),?_⟩
    simp only[cA,nA]
    have hlt:y0.1.1<y.1.1:=by
     have h1:=(List.getElem?_eq_some_iff.1 hy0)
     have h2:=(List.getElem?_eq_some_iff.1 hy)
     have:=List.pairwise_iff_getElem.1 hT.1 (i-1) i h1.1 h2.1 (by omega)
     rw[h1.2,h2.2]at this
     exact this
    refine a0a ⟨_,rfl⟩ ?_
    exact⟨by show[Value.bool (decide (sgR y0.1.1 y.1.1≥0))]=_;rw[decide_eq_false (by have:=sgR_neg.2 hlt;omega)],l25.trans (l6.trans (l7.trans l8))⟩
   ·replace hi0:=of_decide_eq_false hi0
    exact⟨rfl,l3.trans (l4.trans l5)⟩
  rintro vals H2 _ ⟨rfl,l2⟩
  simp only[cA,nA]
  refine a0a ⟨_,rfl⟩ ?_
  refine a0e rfl ?_
  exact⟨(i+1),by show m.length-(i+1)<m.length-i;omega,(a0R rfl (a0J rfl (by omega))),⟨hi',lX.trans l2⟩⟩
 ·replace h:=of_decide_eq_false h
  refine a0d (c6X (hu.mono lX) hT h0 hl) rfl ?_
  rintro v5 H3 ⟨l3,q3⟩
  refine⟨fun h=>(nomatch h),?_⟩
  simp only[cA,nA]
  refine a0d (a6c 1 (by omega) (by omega)) rfl ?_
  rintro v6 H4 ⟨l4,q4⟩
  refine⟨fun h=>(nomatch h),?_⟩
  simp only[cA,nA]
  refine a0d (a6T (q3.mono l4) q4 c7Q c7Q) rfl ?_
  rintro _ H5 ⟨l5,rfl⟩
  refine⟨fun h=>(nomatch h),?_⟩
  simp only[cA,nA]
  refine a0a ⟨_,rfl⟩ ?_
  refine a0e (by show Value.bool (sgR 1 ((1:Int):Rat) !=0)=_;rw[show sgR 1 ((1:Int):Rat)=0 from b5r 1];rfl) ?_
  exact a0c rfl ⟨lX.trans (l3.trans (l4.trans l5)),rfl⟩
end
end Go.Proofs.YtlmgkkjgdapnpaaGreatDoor
/- Spreads: Tally, Below, Same. -/
namespace Go.Proofs.YtlmgkkjgdapnpaaGreatDoor
open Go.Proofs.Tryz
open Go.RowKit Go.RX Go.GS Go.RZ Go.WD
set_option maxRecDepth 100000
section
variable {H B:PH} {u v w e:Value} {l:List Rat} {m:List MaT} {i:Nat}
theorem c2b:El prog 120 43 1 false (fun s:Slc=>[vs s]) vs where
 und:=by kernel_rfl
 has:=by kernel_rfl
 cel:=by kernel_rfl
 agg:=by kernel_rfl
 pos:=by decide
 one1:=fun _=>rfl
 small:=by decide
 inf:=⟨(prog.info? 43).getD default,vs (none,0,0),by kernel_rfl,by kernel_rfl,by kernel_rfl,rfl,of_decide_eq_true (by kernel_rfl)⟩
 len:=fun _=>rfl
 val:=fun _=>rfl
 cells:=fun _=>rfl
 one:=fun x c hc=>by simp at hc;subst hc;rfl
def ceQ (r:Rat):List Value:=(shw r).toList
theorem a5D:El prog 56 61 16 true ceQ shR where
 und:=by kernel_rfl
 has:=by kernel_rfl
 cel:=by kernel_rfl
 agg:=by kernel_rfl
 pos:=by decide
 one1:=fun h=>by cases h
 small:=by decide
 inf:=⟨(prog.info? 61).getD default,shv 0 0,by kernel_rfl,by kernel_rfl,by kernel_rfl,rfl,of_decide_eq_true (by kernel_rfl)⟩
 len:=fun p=>by unfold ceQ;rw[Array.length_toList,a0Q]
 val:=fun p=>by rw[a3m];rfl
 cells:=fun p=>by rw[a2g];rfl
 one:=fun p c hc=>a4e p c hc
theorem c2c {L:List Slc} {f:FuncId} (hu:SE H 1 (fun s:Slc=>[vs s]) u L) (hl:L.length<=1000) (ef:a1q prog f=true) (hf:∀H' s,PH.le H H'->s∈L->a1g prog f [vs s] H' (.bool false)):a1g prog 92 [u,.func (.func f) #[] #[]] H (.bool false):=by
 have hi:a1g prog 142 [u,.func (.func f) #[] #[]] H (ii (-1)):=by
  refine a0b mixed d2C (by kernel_rfl) rfl ?_
  refine a0j c2b rfl rfl hu rfl ?_
  refine a0o (α:=Nat×Int) (fun⟨i,p⟩=>[ii p,ii (i:Nat)]) (fun⟨i,p⟩=>fun H'=>i<=L.length/\PH.le H H') (fun⟨i,p⟩=>L.length-i) ((0,0)) rfl (⟨Nat.zero_le _,PH.le.refl _⟩) fun⟨i,p⟩ H' hQ=> ?_
  simp only[cA,nA]
  obtain⟨hi,l1⟩:=hQ
  refine a0a ⟨_,rfl⟩ ?_
  refine a0a ⟨_,rfl⟩ ?_
  refine a0f (b:=decide (((i:Nat):Int)<(L.length:Nat))) rfl (fun h=> ?_) (fun h=> ?_)
  ·replace h:=of_decide_eq_true h
   have hi':i<L.length:=by omega
   obtain⟨x,hx,_⟩:=a0t hi'
   refine a0m c2b rfl rfl rfl rfl (fun _=>rfl) (hu.mono l1) hx rfl (fun _=>rfl) fun _=> ?_
   simp only[cA,nA]
   refine a0n (a0D (f:=f) (caps:= #[]) (vs:=[vs x]) rfl rfl rfl ef (hf _ x l1 (List.mem_of_getElem? hx))) rfl ?_
   rintro _ H2 ⟨l2,rfl⟩
   refine⟨fun h=>(nomatch h),?_⟩
   simp only[cA,nA]
   refine a0a ⟨_,rfl⟩ ?_
   refine a0e rfl ?_
   exact⟨(i+1,p),by show L.length-(i+1)<L.length-i;omega,(a0R rfl (a0J rfl (by omega))),⟨hi',l1.trans l2⟩⟩
  ·replace h:=of_decide_eq_false h
   exact a0c rfl ⟨l1,rfl⟩
 refine a0b mixed d2B (by kernel_rfl) rfl ?_
 refine a0h (hi) rfl fun H1 l1=> ?_
 simp only[cA,nA]
 refine a0a ⟨_,rfl⟩ ?_
 exact a0c rfl ⟨l1,rfl⟩
theorem c2d {L:List Rat} {f:FuncId} (hu:SE H 16 ceQ u L) (hl:L.length<=1000) (ef:a1q prog f=true) (hf:∀H' r,PH.le H H'->r∈L->a1g prog f [shR r] H' (.bool false)):a1g prog 95 [u,.func (.func f) #[] #[]] H (.bool false):=by
 have hi:a1g prog 145 [u,.func (.func f) #[] #[]] H (ii (-1)):=by
  refine a0b mixed d2E (by kernel_rfl) rfl ?_
  refine a0j a5D rfl rfl hu rfl ?_
  refine a0o (α:=Nat×Int) (fun⟨i,p⟩=>[ii p,ii (i:Nat)]) (fun⟨i,p⟩=>fun H'=>i<=L.length/\PH.le H H') (fun⟨i,p⟩=>L.length-i) ((0,0)) rfl (⟨Nat.zero_le _,PH.le.refl _⟩) fun⟨i,p⟩ H' hQ=> ?_
  simp only[cA,nA]
  obtain⟨hi,l1⟩:=hQ
  refine a0a ⟨_,rfl⟩ ?_
  refine a0a ⟨_,rfl⟩ ?_
  refine a0f (b:=decide (((i:Nat):Int)<(L.length:Nat))) rfl (fun h=> ?_) (fun h=> ?_)
  ·replace h:=of_decide_eq_true h
   have hi':i<L.length:=by omega
   obtain⟨x,hx,_⟩:=a0t hi'
   refine a0m a5D rfl rfl rfl rfl (fun _=>rfl) (hu.mono l1) hx rfl (fun _=>rfl) fun _=> ?_
   simp only[cA,nA]
   refine a0n (a0D (f:=f) (caps:= #[]) (vs:=[shR x]) rfl rfl rfl ef (hf _ x l1 (List.mem_of_getElem? hx))) rfl ?_
   rintro _ H2 ⟨l2,rfl⟩
   refine⟨fun h=>(nomatch h),?_⟩
   simp only[cA,nA]
   refine a0a ⟨_,rfl⟩ ?_
   refine a0e rfl ?_
   exact⟨(i+1,p),by show L.length-(i+1)<L.length-i;omega,(a0R rfl (a0J rfl (by omega))),⟨hi',l1.trans l2⟩⟩
  ·replace h:=of_decide_eq_false h
   exact a0c rfl ⟨l1,rfl⟩
 refine a0b mixed d2D (by kernel_rfl) rfl ?_
 refine a0h (hi) rfl fun H1 l1=> ?_
 simp only[cA,nA]
 refine a0a ⟨_,rfl⟩ ?_
 exact a0c rfl ⟨l1,rfl⟩
theorem c2e:a1q prog 93=true:=by kernel_rfl
theorem c2f:a1q prog 96=true:=by kernel_rfl
theorem b6H {r:Rat} (hr:Rg r):a1g prog 96 [shR r] H (.bool false):=by
 refine a0b mixed c6L (by kernel_rfl) rfl ?_
 refine a0a (a0s _ _) ?_
 refine a0h (a4X hr) rfl fun H1 l1=> ?_
 simp only[cA,nA]
 refine a0a ⟨_,rfl⟩ ?_
 exact a0c rfl ⟨l1,rfl⟩
theorem b6I (hu:SE H 32 ceM v m) (hT:TalP l m) (h0:0<l.length) (hl:l.length<=400):a1g prog 93 [v] H (.bool false):=by
 refine a0b mixed c6K (by kernel_rfl) rfl ?_
 refine a0h (c2a hu hT h0 hl) rfl fun H1 l1=> ?_
 simp only[cA,nA]
 refine a0a ⟨_,rfl⟩ ?_
 exact a0c rfl ⟨l1,rfl⟩
theorem b2s {L:List Slc} {R:List Rat} (hu:SE H 1 (fun s:Slc=>[vs s]) u L) (hv:SE H 16 ceQ v R) (hL:L.length<=1000) (hR:R.length<=1000) (h1:∀H' s,PH.le H H'->s∈L->a1g prog 93 [vs s] H' (.bool false)) (h2:∀r∈R,Rg r):a1g prog 35 [u,v] H (ii 0):=by
 refine a0b mixed d2x (by kernel_rfl) rfl ?_
 refine a0h (c2c hu hL c2e h1) rfl fun H1 l1=> ?_
 simp only[cA,nA]
 refine a0a ⟨_,rfl⟩ ?_
 refine a0e rfl ?_
 refine a0h (c2d (hv.mono l1) hR c2f (fun H' r _ hr=>b6H (h2 r hr))) rfl fun H2 l2=> ?_
 simp only[cA,nA]
 refine a0a ⟨_,rfl⟩ ?_
 refine a0e rfl ?_
 exact a0c rfl ⟨l1.trans l2,rfl⟩
theorem c6Y (hu:SE H 16 ceQ u l) (h0:l≠[]) (hl:l.length<=400) (hr:∀r∈l,Rg r):Con prog 9 [u] H fun r H'=>PH.le H H'/\∃t m,r= .tuple #[t,ii 0]/\SE H' 32 ceM t m/\TalP l m:=by
 refine a0b mixed d2y (by kernel_rfl) rfl ?_
 have hlp:0<l.length:=List.length_pos_iff.2 h0
 refine a0j a5D rfl rfl hu rfl ?_
 refine a0a ⟨_,rfl⟩ ?_
 refine a0e (bF (p:=((l.length:Nat):Int)>400) (by omega)) ?_
 refine a0h (b2s (SE.nil H 1 (fun s:Slc=>[vs s])) hu (by simp) (by omega) (fun H' s _ hs=>nomatch hs) hr) rfl fun H1 l1=> ?_
 simp only[cA,nA]
 refine a0a ⟨_,rfl⟩ ?_
 refine a0e (bF (p:=(0:Int)≠0) (by simp)) ?_
 refine a0j a5D rfl rfl (hu.mono l1) rfl ?_
 refine a0a ⟨_,rfl⟩ ?_
 refine a0e (bF (p:=((l.length:Nat):Int)=0) (by omega)) ?_
 refine a0n (a2A (ok:=Rg) (ke:=shR) b2p rfl) rfl ?_
 rintro v4 H2 ⟨l2,o2⟩
 refine⟨fun h=>(nomatch h),?_⟩
 simp only[cA,nA]
 obtain⟨g0,es0,c0,rfl,_⟩:=id o2
 refine a0a (b0w g0) ?_
 refine a0A (cs:= #[.map (some g0),.bool false]) rfl fun b hb=> ?_
 simp only[cA,nA]
 have lb:=PH.le_put hb (.cells #[.map (some g0),.bool false] 110 (0,0))
 have hbb:=PH.put_self H2 b (.cells #[.map (some g0),.bool false] 110 (0,0))
 have o3:=o2.mono lb
 generalize H2.put b (.cells #[.map (some g0),.bool false] 110 (0,0))=H3 at lb hbb o3⊢
 refine a0d (a6c 1 (by omega) (by omega)) rfl ?_
 rintro v6 H4 ⟨l4,q4⟩
 refine⟨fun h=>(nomatch h),?_⟩
 simp only[cA,nA]
 have l14:=l1.trans (l2.trans (lb.trans l4))
 refine a0j a5D rfl rfl (hu.mono l14) rfl ?_
 refine a0d (a6c ((l.length:Nat):Int) (by omega) (by omega)) rfl ?_
 rintro v8 H5 ⟨l5,q5⟩
 refine⟨fun h=>(nomatch h),?_⟩
 simp only[cA,nA]
 refine a0d (a9a (q4.mono l5) q5 (show Rb 20 ((1:Int):Rat)from⟨by rw[Rat.num_intCast];decide,by rw[Rat.den_intCast];decide⟩) (show Rb 20 (((l.length:Nat):Int):Rat)from⟨by rw[Rat.num_intCast];omega,by rw[Rat.den_intCast];decide⟩) (by decide) (fun e=>by have:=Rat.intCast_inj.1 (e.trans (show(0:Rat)=((0:Int):Rat)from rfl));omega)) rfl ?_
 rintro v9 H6 ⟨l6,q6⟩
 refine⟨fun h=>(nomatch h),?_⟩
 simp only[cA,nA]
 rw[d5y]at q6
 refine a0a q6.rq ?_
 have l26:=lb.trans (l4.trans (l5.trans l6))
 have l16:=l1.trans (l2.trans l26)
 have o6:=o3.mono (l4.trans (l5.trans l6))
 have hb6:=(l4.trans (l5.trans l6)) _ _ hbb
 obtain⟨g1,es,cl,hg1,hgB,hgH,hE,hkv⟩:=id o6
 obtain rfl:g0=g1:=by injection hg1 with hg1;injection hg1
 have hHg:H g0=none:=by
  cases e:H g0 with
  |none=>rfl
  |some o=>rw[l1 _ _ e]at hgB;cases hgB
 have hcut:PH.le H (H6.cut g0):=PH.le_cut l16 hHg
 have hbc:(H6.cut g0) b=some (.cells #[.map (some g0),.bool false] 110 (0,0)):=by rw[PH.cut_ne _ (fun e=>by subst e;rw[hb6]at hgH;cases hgH)];exact hb6
 have hM0:d3z (H6.cut g0) H6 (.map (some g0)) l 0:=⟨[],⟨g0,es,cl,rfl,PH.cut_self _ _,hgH,hE,hkv⟩,fun r=>by simp,(fun q hq=>nomatch hq)⟩
 refine a0j a5D rfl rfl (hu.mono l16) rfl ?_
 refine a0o (α:=Nat) (fun i=>[ii (i:Nat)]) (fun i=>fun H'=>i<=l.length/\PH.le (H6.cut g0) H'/\d3z (H6.cut g0) H' (.map (some g0)) l i/\Rp H' v9 (qN 1 l.length)) (fun i=>l.length-i) (0) rfl (⟨Nat.zero_le _,PH.cut_le _ _,hM0,q6⟩) fun i H' hQ=> ?_
 simp only[cA,nA]
 obtain⟨hi,lX,hM,qX⟩:=hQ
 refine a0a ⟨_,rfl⟩ ?_
 refine a0a ⟨_,rfl⟩ ?_
 refine a0f (b:=decide (((i:Nat):Int)<(l.length:Nat))) rfl (fun h=> ?_) (fun h=> ?_)
 ·replace h:=of_decide_eq_true h
  have hi':i<l.length:=by omega
  obtain⟨y,hy,_⟩:=a0t hi'
  refine a0m a5D rfl rfl rfl rfl (fun _=>rfl) (hu.mono (hcut.trans lX)) hy rfl (fun _=>rfl) fun _=> ?_
  simp only[cA,nA]
  refine a0a (a0s _ _) ?_
  refine a0u (ad:=⟨b,0,none⟩) rfl rfl rfl ?_
  simp only[cA,nA]
  refine a0i c1V rfl rfl rfl ?_
  simp only[cA,nA]
  refine a0g c1W rfl rfl (lX _ _ hbc) rfl rfl ?_
  simp only[cA,nA]
  refine a0d (c6U lX hM hy (hr y (List.mem_of_getElem? hy)) qX (by omega)) (b2K rfl rfl (a1W qX)) ?_
  rintro _ H7 ⟨l7,hM7,q7⟩
  refine⟨fun h=>(nomatch h),?_⟩
  simp only[cA,nA]
  exact⟨(i+1),by show l.length-(i+1)<l.length-i;omega,(a1R (a0J rfl (by omega))),⟨hi',l7,hM7,q7⟩⟩
 ·replace h:=of_decide_eq_false h
  obtain rfl:i=l.length:=by omega
  refine a0d (c6V (lX _ _ hbc) hM h0 hl) rfl ?_
  rintro _ H8 ⟨l8,t,m,rfl,hSE,hTP⟩
  refine⟨fun h=>(nomatch h),?_⟩
  simp only[cA,nA]
  refine a0a ⟨_,rfl,by simp⟩ ?_
  refine a0a ⟨_,rfl,by simp⟩ ?_
  exact a0c rfl ⟨hcut.trans (lX.trans l8),t,m,rfl,hSE,hTP⟩
noncomputable def fA0:Field:=((prog.fieldsOf 72)[0]?).getD default
noncomputable def fP0:Field:=((prog.fieldsOf 72)[1]?).getD default
theorem d5D:(prog.fieldsOf 72).toList=[fA0,fP0]:=by kernel_rfl
theorem d8t:fA0.type=61:=by kernel_rfl
theorem d8u:fA0.offset=0:=by kernel_rfl
theorem d8v:(fA0.name≠ "_")=True:=eq_true (by decide+kernel)
theorem d8w:fP0.type=61:=by kernel_rfl
theorem d8x:fP0.offset=16:=by kernel_rfl
theorem d8y:(fP0.name≠ "_")=True:=eq_true (by decide+kernel)
theorem a1X:prog.cellsOf 61=16:=by kernel_rfl
theorem d2T (q:MaT) (w:World):(part 61 (shw q.1.1++shw q.1.2) 0).run prog w= .ok (shR q.1.1) w:=by
 rw[a2v (by kernel_rfl) (by rw[a1X,Array.size_append,a0Q,a0Q];omega) (by rw[a1X];omega) w,a1X,show a0F prog 61=true from by kernel_rfl,if_pos rfl]
 rw[b2q]
theorem d5E (q:MaT) (w:World):(part 61 (shw q.1.1++shw q.1.2) 16).run prog w= .ok (shR q.1.2) w:=by
 rw[a2v (by kernel_rfl) (by rw[a1X,Array.size_append,a0Q,a0Q];omega) (by rw[a1X];omega) w,a1X,show a0F prog 61=true from by kernel_rfl,if_pos rfl]
 rw[d7o]
theorem a9n (r:Rat) (d:Nat) (w:World):(Op.equalIn (d+3) 61 (shR r) (shR r)).run prog w= .ok true w:=by
 show(Op.equalIn (d+2+1) 61 (.agg (words (rs r.num)++words (rs (r.den:Int)))) (.agg (words (rs r.num)++words (rs (r.den:Int))))).run prog w=_
 rw[run_equalIn_struct w (d+2) _ _ _ (by kernel_rfl) (by kernel_rfl),c9X]
 simp[Op.eqFields,d8i,d8l,d8g,d8h,d8j,d8k,d4u,d4v,b3v]
theorem c6Z {o:Oper} {x y:Operand} (q:MaT) (ho:o.op= .binOp .eql 72 x y 72) (hx:a0k [x,y] [veM q,veM q] x=veM q) (hy:a0k [x,y] [veM q,veM q] y=veM q):Yld prog o [veM q,veM q] (.bool true):=fun w=>by
 have hos:o.op.operands.toList=[x,y]:=by simp[ho,Op.operands]
 rw[hos]
 have h1:=run_eql_struct (P:=prog) w 72 (shw q.1.1++shw q.1.2) (shw q.1.1++shw q.1.2)
 have h2:=run_eqGuard_agg (P:=prog) w .eql 72 x y (shw q.1.1++shw q.1.2) (shw q.1.1++shw q.1.2) (by kernel_rfl)
 have h3:(Op.equalIn 10000 72 (.agg (shw q.1.1++shw q.1.2)) (.agg (shw q.1.1++shw q.1.2))).run prog w= .ok true w:=by
  rw[run_equalIn_struct w 9999 _ _ _ (by kernel_rfl) (by kernel_rfl),d5D]
  have e:=fun r w=>a9n r 9996 w
  simp[Op.eqFields,d8v,d8y,d8t,d8u,d8w,d8x,d2T,d5E,e]
 rw[h3]at h1
 have e1:veM q= .agg (shw q.1.1++shw q.1.2):=rfl
 simp only[execOp,ho,hx,hy,Sem.run_bind]
 rw[e1]
 simp only[h2,h1,Result.andThen_ok]
 rfl
theorem c2g:a1q prog 59=true:=by kernel_rfl
theorem c2h (q:MaT):Asks prog 59 [veM q,veM q] H (.bool true):=by
 refine a0b mixed c6J (by kernel_rfl) rfl ?_
 refine a0a (a1C q) ?_
 refine a0a (a1C q) ?_
 refine a0l ((c6Z q rfl rfl rfl).rds _) rfl ?_
 simp only[cA,nA]
 exact a0c rfl ⟨rfl,rfl⟩
theorem c7a (hu:SE H 32 ceM u m) (hv:SE H 32 ceM v m):Asks prog 58 [u,v,.func (.func 59) #[] #[]] H (.bool true):=by
 refine a0b mixed d2A (by kernel_rfl) rfl ?_
 have hl:=hu.len
 refine a0j el_mass rfl rfl hu rfl ?_
 simp only[cA,nA]
 refine a0j el_mass rfl rfl hv rfl ?_
 simp only[cA,nA]
 refine a0a ⟨_,rfl⟩ ?_
 refine a0a ⟨_,rfl⟩ ?_
 refine a0e (d2g (a:=((m.length:Nat):Int)) (b:=((m.length:Nat):Int)) rfl) ?_
 refine a0j el_mass rfl rfl hu rfl ?_
 simp only[cA,nA]
 refine a0W (α:=Nat) (fun i=>[.bool false,ii (i:Nat)]) (fun i=>i<=m.length) (fun i=>m.length-i) (0) rfl ((Nat.zero_le _)) fun i hQ=> ?_
 simp only[cA,nA]
 refine a0a ⟨_,rfl⟩ ?_
 refine a0a ⟨_,rfl⟩ ?_
 refine a0f (b:=decide (((i:Nat):Int)<(m.length:Nat))) rfl (fun h=> ?_) (fun h=> ?_)
 ·replace h:=of_decide_eq_true h
  have hi':i<m.length:=by omega
  obtain⟨y,hy,_⟩:=a0t hi'
  refine a0m el_mass rfl rfl rfl rfl (fun _=>rfl) hu hy rfl (fun _=>rfl) fun _=> ?_
  simp only[cA,nA]
  refine a0a (a1C y) ?_
  refine a0m el_mass rfl rfl rfl rfl (fun _=>rfl) hv hy rfl (fun _=>rfl) fun _=> ?_
  simp only[cA,nA]
  refine a0a (a1C y) ?_
  refine a0n (a0D (f:=59) (caps:= #[]) (vs:=[veM y,veM y]) rfl rfl rfl c2g (c2h y)) rfl ?_
  rintro _ _ ⟨rfl,rfl⟩
  refine⟨fun h=>(nomatch h),?_⟩
  simp only[cA,nA]
  refine a0a ⟨_,rfl⟩ ?_
  refine a0e rfl ?_
  exact⟨(i+1),by show m.length-(i+1)<m.length-i;omega,(a0R rfl (a0J rfl (by omega))),⟨hi',rfl⟩⟩
 ·replace h:=of_decide_eq_false h
  exact a0c rfl ⟨rfl,rfl⟩
theorem c7b (hu:SE H 32 ceM u m) (hv:SE H 32 ceM v m):Asks prog 13 [u,v] H (.bool true):=by
 refine a0b mixed d2w (by kernel_rfl) rfl ?_
 refine a0q (c7a hu hv) rfl ?_
 simp only[cA,nA]
 exact a0c rfl ⟨rfl,rfl⟩
end
end Go.Proofs.YtlmgkkjgdapnpaaGreatDoor

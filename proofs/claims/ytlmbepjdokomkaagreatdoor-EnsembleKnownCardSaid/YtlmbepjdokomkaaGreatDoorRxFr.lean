/- Spreads: checks. -/
import Derived.Test.YtlmbepjdokomkaaGreatDoorGfR
import Derived.Laws.Build
open List renaming any_append->kO,count_le_length->iM,sum_append->kL,sum_cons->eY
open List.Nodup renaming length_le_of_subset->jA
open Nat renaming gcd->fS,zero_min->oC
set_option linter.all false
set_option maxRecDepth 100000
namespace Go.GS
def d4d {α:Type} [DecidableEq α] (a:α):∀{D:List α},D.Nodup->a∈D->(D.map fun x=>if a=x then 1 else 0).sum=1:=by
 intro D;induction D with
 |nil=>intro _ h;cases h
 |cons d D ih=>
  intro hn ha;rw[eD]at hn;rw[aU,eY];rcases aX.1 ha with e|e
  ·subst e;rw[if_pos rfl];have:(D.map fun x=>if a=x then 1 else 0).sum=0:=by
    have h2:(D.map fun x=>if a=x then 1 else 0)=D.map fun _=>0:=dA fun x hx=>if_neg fun e:a=x=>hn.1 (by rw[e];exact hx);rw[h2];clear ih hn ha h2;induction D with
    |nil=>rfl
    |cons d D ih=>rw[aU,eY,ih]
   omega
  ·rw[if_neg (fun e2:a=d=>hn.1 (by rw[<-e2];exact e)),ih hn.2 e]
def OM {α:Type} [DecidableEq α] {D:List α} (hn:D.Nodup):∀{l:List α},(∀x∈l,x∈D)->(D.map fun x=>l.count x).sum=l.length:=by
 intro l;induction l with
 |nil=>
  intro h;clear h hn;induction D with
  |nil=>rfl
  |cons d D ih=>rw[aU,eY,ih];rfl
 |cons a l ih=>
  intro h;have e:(D.map fun x=>(a::l).count x)=D.map fun x=>l.count x+if a=x then 1 else 0:=dA fun x _=>by
   rw[List.count_cons];by_cases h:a=x
   ·rw[if_pos h,if_pos (by simpa using h)]
   ·rw[if_neg h,if_neg (by simpa using h)]
  have add:∀(E:List α) (f g:α->Nat),(E.map fun x=>f x+g x).sum=(E.map f).sum+(E.map g).sum:=by
   intro E f g;induction E with
   |nil=>rfl
   |cons d E ih=>rw[aU,eY,aU,eY,aU,eY,ih];omega
  rw[e,add,ih (fun x hx=>h x (by simp[hx])),d4d a hn (h a aD),aO]
end Go.GS
namespace Go.Z
open Proofs.Tryz RowKit RX GS RZ WD
def cuM (l:List Rat) (m:List MaT) (i:Nat):Nat:=((m.take i).map fun q=>l.count q.1.1).sum
def c7R {l:List Rat} {m:List MaT} {i:Nat} {x:MaT} (h:m[i]? =some x):cuM l m (i+1)=cuM l m i+l.count x.1.1:=by
 unfold cuM;rw[take_snoc h,bI,kL];simp
section
variable {H B:PH} {u v w e:Value} {l:List Rat} {m:List MaT} {i:Nat}
def TalP.nd (h:TalP l m):(m.map fun q=>q.1.1).Nodup:=List.pairwise_map.2 (h.1.imp fun h e=>by rw[e]at h;exact Rat.lt_irrefl h)
def TalP.mem (h:TalP l m) {r:Rat}:r∈(m.map fun q=>q.1.1)↔r∈l:=by
 constructor
 ·intro hr;obtain⟨x,hx,rfl⟩:=bK.1 hr;exact((h.2 x.1).1 ⟨x,hx,rfl⟩).1
 ·intro hr;obtain⟨x,hx,he⟩:=(h.2 (r,qN (l.count r) l.length)).2 ⟨hr,rfl⟩;exact bK.2 ⟨x,hx,by rw[he]⟩
def TalP.p (h:TalP l m) {x:MaT} (hx:x∈m):x.1.2=qN (l.count x.1.1) l.length:=((h.2 x.1).1 ⟨x,hx,rfl⟩).2
def TalP.all (h:TalP l m):cuM l m m.length=l.length:=by
 unfold cuM;rw[dV];have:=OM h.nd (l:=l) (fun x hx=>h.mem.2 hx);rw[List.map_map]at this;exact this
def TalP.len (h:TalP l m):m.length<=l.length:=by
 have:=jA h.nd (l₂:=l) fun x hx=>h.mem.1 hx
 rwa[aW]at this
def ON (i:Nat):cuM l m i<=cuM l m m.length:=by
 unfold cuM;rw[dV];have:(m.map fun q=>l.count q.1.1).sum=((m.take i).map fun q=>l.count q.1.1).sum+((m.drop i).map fun q=>l.count q.1.1).sum:=by
  rw[<-kL,<-bI,dK]
 omega
def d7T:q8 prog 73=true:=aB
def jo (q:MaT):Con prog 73 [veM q] H fun u H'=>Pl H H'/\Rp H' u q.1.2:=by
 refine g9 mixed e0H ?_;refine b4 (Ld q) ?_;refine g5 (Zc q.2.2) (congrArg (fun z=>[z]) (yr q)) ?_;rintro v2 H1 ⟨l1,q1⟩;refine nmI ?_;simp only[cA,nA];refine b4 q1.rq ?_;exact c9 (Qy q1) ⟨l1,q1⟩
def jq (n:Int) (h0: -9223372036854775808<=n) (h1:n<9223372036854775808):Con prog 69 [.int .i64 n] H fun u H'=>Pl H H'/\Rp H' u (n:Rat):=by
 refine t8 mixed Q4 aB rfl (g5 (Nx n h0 h1) rfl ?_);rintro u1 H1 ⟨l1,rL⟩;simp only[cA,nA];refine⟨fun h=>(nomatch h),g5 (R2 rL) rfl ?_⟩;rintro u2 H2 ⟨l2,qW⟩;refine⟨fun h=>(nomatch h),b4 qW.rq (c9 (Qy qW) ⟨l1.trans l2,qW⟩)⟩
def Vf:El prog 38 61 32 true ceM veM where
 und:=aB
 has:=aB
 cel:=aB
 agg:=aB
 pos:=aC
 one1:=fun h=>by cases h
 small:=aC
 inf:=⟨(prog.info? 61).getD default,.agg (Array.replicate 32 (.int .u64 0)),aB,aB,aB,rfl,oDt aB⟩
 len:=el_mass.len
 val:=fun p=>rfl
 cells:=fun p=>rfl
 one:=fun p c hc=>(Ld p).2 c hc
def c7S (hu:SE H 32 ceM v m) (hT:TalP l m) (h0:0<l.length) (hl:l.length<=400):Con prog 170 [v,.func (.func 73) #[] #[]] H fun u H'=>Pl H H'/\Rp H' u (1:Rat):=by
 refine g9 mixed d3H ?_;have hml:=hT.len;have qM:=hT.all;refine g5 (jq 0 aA aA) rfl ?_;rintro v2 H1 ⟨l1,q1⟩;refine nmI ?_;simp only[cA,nA];refine b4 q1.rq ?_;have e0:((0:Int):Rat)=qN (cuM l m 0) l.length:=by
  unfold qN;rw[show cuM l m 0=0 from rfl,Rat.divInt_eq_div];show(0:Rat)=_
  grind
 rw[e0]at q1;refine r8 Vf (hu.mono l1) ?_;refine t6 (α:=Nat×Value) (fun⟨i,x⟩=>[ii (i:Nat),x]) (fun⟨i,x⟩=>fun H'=>i<=m.length/\Pl H H'/\Rp H' x (qN (cuM l m i) l.length)) (fun⟨i,x⟩=>m.length-i) ((0,v2)) rfl (⟨bJ _,l1,q1⟩) fun⟨i,x⟩ H' hQ=> ?_;simp only[cA,nA];obtain⟨hi,lX,qX⟩:=hQ;refine b9 (b9 ?_);refine g8 (b:=decide (((i:Nat):Int)<(m.length:Nat))) rfl (fun h=> ?_) (fun h=> ?_)
 ·replace h:=oDt h;have pO:i<m.length:=aA;obtain⟨y,hy,_⟩:=u6 pO;have hcu:=ON (l:=l) (m:=m) i;have vP:l.count y.1.1<=l.length:=iM;refine r6 Vf (hu.mono lX) hy fun _=> ?_;simp only[cA,nA];refine b4 (Ld y) ?_;refine j4 (Bh (f:=73) (caps:= #[]) (vs:=[veM y]) rfl rfl rfl d7T (jo y)) rfl ?_;rintro v8 H2 ⟨l2,q2⟩;refine⟨(fun _=>l2),?_⟩;simp only[cA,nA];rw[hT.p (aJ hy)]at q2;refine g5 (IN (qX.mono l2) q2 (Zd h0 aA aA) (Zd h0 aA aA) aC) (j0 (Qy qX) rfl) ?_;rintro v9 H3 ⟨l3,q3⟩;refine⟨(fun _=>l3),?_⟩;simp only[cA,nA];refine b4 q3.rq ?_;rw[OL h0,<-c7R hy]at q3;exact⟨(i+1,v9),by show m.length-(i+1)<m.length-i;omega,(j0 (p6 rfl aA) rfl),⟨pO,lX.trans (l2.trans l3),q3⟩⟩
 ·replace h:=oDf h;obtain rfl:i=m.length:=aA;rw[qM,d7S h0]at qX;exact c9 (Qy qX) ⟨lX,qX⟩
def OO (r:Rat):sgR r r=0:=by unfold sgR;rw[if_neg Rat.lt_irrefl,if_pos rfl]
def yu {r:Rat} (hr:Rg r):j5 prog 112 [shR r] H (ii 0):=
 (IU _ _).mono fun u H' h=>⟨h.1,by rw[h.2,uz hr];rfl⟩
def jr (r:Rat):Ag prog 46 (shw r).toList.length:=by
 rw[bU,Ao];exact⟨aB,aB,aB⟩
def d7U:FA prog 61 0 0:=⟨aB,oDt aB,aB,aB,oDt aB⟩
def d7V {c n:Nat} (hc:0<c) (hn:0<n):0<(qN c n).num:=by
 unfold qN;rw[fg _ aA];have hg:0<fS ((c:Nat):Int).natAbs ((n:Nat):Int).natAbs:=Nat.gcd_pos_of_pos_left _ aA;have h1:0<=((n:Nat):Int)/(fS ((c:Nat):Int).natAbs ((n:Nat):Int).natAbs:Nat):=Int.ediv_nonneg aA aA;rw[if_neg aA];obtain⟨d,hd⟩:=Nat.gcd_dvd_left ((c:Nat):Int).natAbs ((n:Nat):Int).natAbs;have pL:c=fS ((c:Nat):Int).natAbs ((n:Nat):Int).natAbs*d:=by simpa using hd
 have hd0:0<d:=Nat.pos_of_ne_zero fun e=>by subst e;simp at pL;omega
 generalize fS ((c:Nat):Int).natAbs ((n:Nat):Int).natAbs=g at hg pL⊢;rw[pL,Int.natCast_mul,Int.mul_ediv_cancel_left _ aA];omega
def c2H (hu:SE H 32 ceM v m) (hT:TalP l m) (h0:0<l.length) (hl:l.length<=400):j5 prog 109 [v] H (ii 0):=by
 refine g9 mixed d3I ?_;have hml:=hT.len;have yL:0<m.length:=List.length_pos_iff.2 (hT.ne (fun e=>by subst e;cases h0));refine⟨(fun vals H'=>vals=[.bool false]/\H=H'),?_,?_⟩
 ·skip
  refine r8 el_mass hu ?_;refine b9 ?_;refine j1 (bF (p:=((m.length:Nat):Int)<1) aA) ?_;refine r8 el_mass hu ?_;refine b9 ?_;exact⟨by show[Value.bool (decide (((m.length:Nat):Int)>400))]=_;rw[decide_eq_false aA],rfl⟩
 rintro vals H' _ ⟨rfl,rfl⟩;simp only[cA,nA];refine b9 ?_;refine j1 rfl ?_;refine r8 el_mass hu ?_;refine t6 (α:=Nat) (fun i=>[ii 0,ii (i:Nat)]) (fun i=>fun H'=>i<=m.length/\Pl H H') (fun i=>m.length-i) (0) rfl (⟨bJ _,Pl.refl _⟩) fun i H' hQ=> ?_;simp only[cA,nA];obtain⟨hi,lX⟩:=hQ;refine b9 (b9 ?_);refine g8 (b:=decide (((i:Nat):Int)<(m.length:Nat))) rfl (fun h=> ?_) (fun h=> ?_)
 ·replace h:=oDt h;have pO:i<m.length:=aA;obtain⟨y,hy,_⟩:=u6 pO;have hym:=aJ hy;have vP:0<l.count y.1.1:=List.count_pos_iff.2 (hT.mem.1 (bK.2 ⟨y,hym,rfl⟩));refine r6 el_mass (hu.mono lX) hy fun _=> ?_;simp only[cA,nA];refine b4 (Ld y) ?_;refine⟨(fun vals H2=>vals=[.bool false]/\Pl H' H2),?_,?_⟩
  ·skip
   refine i9 (yu y.2.1) (congrArg (fun z=>[z]) (Ve y)) fun H3 l3=> ?_;simp only[cA,nA];refine b9 ?_;refine j1 (bF (p:=(0:Int)≠0) aD) ?_;refine i9 (yu y.2.2) (congrArg (fun z=>[z]) (yr y)) fun H4 l4=> ?_;simp only[cA,nA];refine b9 ?_;refine j1 (bF (p:=(0:Int)≠0) aD) ?_;refine g5 (jo y) rfl ?_;rintro v9 H5 ⟨l5,q5⟩;refine⟨(fun _=>l5),?_⟩;simp only[cA,nA];obtain⟨w1,w2,rfl,zS,-⟩:=q5.out;refine b4 ⟨_,rfl,rfl⟩ ?_;refine g5 (fc zS) rfl ?_;rintro _ _ ⟨rfl,rfl⟩;refine⟨(fun _=>Pl.refl _),?_⟩;simp only[cA,nA];have qF:0<y.1.2.num:=by rw[hT.p hym];exact d7V vP h0
   refine b9 ?_;refine j1 (bF (p:=sgI y.1.2.num 0<=0) (by unfold sgI;rw[if_neg aA,if_neg aA];decide)) ?_;refine g8 (b:=decide (((i:Nat):Int)>0)) rfl (fun tI=> ?_) (fun tI=> ?_)
   ·replace tI:=oDt tI;obtain⟨y0,uK,_⟩:=u6 (l:=m) (i:=i-1) aA;have l25:=l3.trans (l4.trans l5);refine d7C el_mass (ws:=(shw y0.1.1).toList) d7U (jr y0.1.1) (by show((shw y0.1.1++shw y0.1.2).toList.drop 0).take _=_;rw[dS,eE,List.take_left]) aD rfl rfl rfl rfl rfl aF aF (hu.mono (lX.trans l25)) uK (j0 rfl (xj (by rw[show i-1+1=i by omega];rfl) aA)) aF (fun _ _=>rfl) fun _ _=> ?_;simp only[cA,nA];refine g5 (Zc y0.2.1) (j7 (by rw[En];rfl)) ?_;rintro v14 H6 ⟨l6,q6⟩;refine⟨(fun _=>l6),?_⟩;simp only[cA,nA];refine g5 (Zc y.2.1) (congrArg (fun z=>[z]) (Ve y)) ?_;rintro v15 H7 ⟨l7,q7⟩;refine⟨(fun _=>l7),?_⟩;simp only[cA,nA];refine g5 (yt (q6.mono l7) q7 y0.2.1 y.2.1) rfl ?_;rintro _ H8 ⟨l8,rfl⟩;refine⟨(fun _=>l8),?_⟩;simp only[cA,nA];have oV:y0.1.1<y.1.1:=by
     have h1:=(aH.1 uK);have h2:=(aH.1 hy);have:=cS.1 hT.1 (i-1) i h1.1 h2.1 aA;rw[h1.2,h2.2]at this;exact this
    refine b9 ?_;exact⟨by show[Value.bool (decide (sgR y0.1.1 y.1.1≥0))]=_;rw[decide_eq_false (by have:=sgR_neg.2 oV;omega)],l25.trans (l6.trans (l7.trans l8))⟩
   ·replace tI:=oDf tI;exact⟨rfl,l3.trans (l4.trans l5)⟩
  rintro vals H2 _ ⟨rfl,l2⟩;simp only[cA,nA];refine b9 ?_;refine j1 rfl ?_;exact⟨(i+1),by show m.length-(i+1)<m.length-i;omega,(j0 rfl (p6 rfl aA)),⟨pO,lX.trans l2⟩⟩
 ·replace h:=oDf h;refine g5 (c7S (hu.mono lX) hT h0 hl) rfl ?_;rintro v5 H3 ⟨l3,q3⟩;refine nmI ?_;simp only[cA,nA];refine g5 (jq 1 aA aA) rfl ?_;rintro v6 H4 ⟨l4,q4⟩;refine nmI ?_;simp only[cA,nA];refine g5 (yt (q3.mono l4) q4 JB JB) rfl ?_;rintro _ H5 ⟨l5,rfl⟩;refine nmI ?_;simp only[cA,nA];refine b9 ?_;refine j1 (by show Value.bool (sgR 1 ((1:Int):Rat) !=0)=_;rw[show sgR 1 ((1:Int):Rat)=0 from OO 1];rfl) ?_;exact c9 rfl ⟨lX.trans (l3.trans (l4.trans l5)),rfl⟩
end
section
variable {H B:PH} {u v w e:Value} {l:List Rat} {m:List MaT} {i:Nat}
def yv:El prog 139 39 1 false (fun s:Slc=>[vs s]) vs where
 und:=aB
 has:=aB
 cel:=aB
 agg:=aB
 pos:=aC
 one1:=fun _=>rfl
 small:=aC
 inf:=⟨(prog.info? 39).getD default,vs (none,0,0),aB,aB,aB,rfl,oDt aB⟩
 len:=fun _=>rfl
 val:=fun _=>rfl
 cells:=fun _=>rfl
 one:=fun x c hc=>by simp at hc;subst hc;rfl
def ceQ (r:Rat):List Value:=(shw r).toList
def yw:El prog 194 46 16 true ceQ shR where
 und:=aB
 has:=aB
 cel:=aB
 agg:=aB
 pos:=aC
 one1:=fun h=>by cases h
 small:=aC
 inf:=⟨(prog.info? 46).getD default,shv 0 0,aB,aB,aB,rfl,oDt aB⟩
 len:=fun p=>by unfold ceQ;rw[bU,Ao]
 val:=fun p=>by rw[En];rfl
 cells:=fun p=>by rw[Le];rfl
 one:=fun p c hc=>Oo p c hc
def c2K {L:List Slc} {f:FuncId} (hu:SE H 1 (fun s:Slc=>[vs s]) u L) (hl:L.length<=1000) (ef:q8 prog f=true) (hf:∀H' s,Pl H H'->s∈L->j5 prog f [vs s] H' (.bool false)):j5 prog 107 [u,.func (.func f) #[] #[]] H (.bool false):=by
 have hi:j5 prog 168 [u,.func (.func f) #[] #[]] H (ii (-1)):=by
  refine g9 mixed d3M ?_;refine r8 yv hu ?_;refine t6 (α:=Nat×Int) (fun⟨i,p⟩=>[ii p,ii (i:Nat)]) (fun⟨i,p⟩=>fun H'=>i<=L.length/\Pl H H') (fun⟨i,p⟩=>L.length-i) ((0,0)) rfl (⟨bJ _,Pl.refl _⟩) fun⟨i,p⟩ H' hQ=> ?_;simp only[cA,nA];obtain⟨hi,l1⟩:=hQ;refine b9 (b9 ?_);refine g8 (b:=decide (((i:Nat):Int)<(L.length:Nat))) rfl (fun h=> ?_) (fun h=> ?_)
  ·replace h:=oDt h;have pO:i<L.length:=aA;obtain⟨x,hx,_⟩:=u6 pO;refine r6 yv (hu.mono l1) hx fun _=> ?_;simp only[cA,nA];refine j4 (Bh (f:=f) (caps:= #[]) (vs:=[vs x]) rfl rfl rfl ef (hf _ x l1 (aJ hx))) rfl ?_;rintro _ H2 ⟨l2,rfl⟩;refine nmI ?_;simp only[cA,nA];refine b9 ?_;refine j1 rfl ?_;exact⟨(i+1,p),by show L.length-(i+1)<L.length-i;omega,(j0 rfl (p6 rfl aA)),⟨pO,l1.trans l2⟩⟩
  ·replace h:=oDf h;exact c9 rfl ⟨l1,rfl⟩
 refine g9 mixed d3L ?_;refine i9 (hi) rfl fun H1 l1=> ?_;simp only[cA,nA];refine b9 ?_;exact c9 rfl ⟨l1,rfl⟩
def c2L {L:List Rat} {f:FuncId} (hu:SE H 16 ceQ u L) (hl:L.length<=1000) (ef:q8 prog f=true) (hf:∀H' r,Pl H H'->r∈L->j5 prog f [shR r] H' (.bool false)):j5 prog 110 [u,.func (.func f) #[] #[]] H (.bool false):=by
 have hi:j5 prog 171 [u,.func (.func f) #[] #[]] H (ii (-1)):=by
  refine g9 mixed d3O ?_;refine r8 yw hu ?_;refine t6 (α:=Nat×Int) (fun⟨i,p⟩=>[ii p,ii (i:Nat)]) (fun⟨i,p⟩=>fun H'=>i<=L.length/\Pl H H') (fun⟨i,p⟩=>L.length-i) ((0,0)) rfl (⟨bJ _,Pl.refl _⟩) fun⟨i,p⟩ H' hQ=> ?_;simp only[cA,nA];obtain⟨hi,l1⟩:=hQ;refine b9 (b9 ?_);refine g8 (b:=decide (((i:Nat):Int)<(L.length:Nat))) rfl (fun h=> ?_) (fun h=> ?_)
  ·replace h:=oDt h;have pO:i<L.length:=aA;obtain⟨x,hx,_⟩:=u6 pO;refine r6 yw (hu.mono l1) hx fun _=> ?_;simp only[cA,nA];refine j4 (Bh (f:=f) (caps:= #[]) (vs:=[shR x]) rfl rfl rfl ef (hf _ x l1 (aJ hx))) rfl ?_;rintro _ H2 ⟨l2,rfl⟩;refine nmI ?_;simp only[cA,nA];refine b9 ?_;refine j1 rfl ?_;exact⟨(i+1,p),by show L.length-(i+1)<L.length-i;omega,(j0 rfl (p6 rfl aA)),⟨pO,l1.trans l2⟩⟩
  ·replace h:=oDf h;exact c9 rfl ⟨l1,rfl⟩
 refine g9 mixed d3N ?_;refine i9 (hi) rfl fun H1 l1=> ?_;simp only[cA,nA];refine b9 ?_;exact c9 rfl ⟨l1,rfl⟩
def c2M:q8 prog 108=true:=aB
def c2N:q8 prog 111=true:=aB
def b8o {r:Rat} (hr:Rg r):j5 prog 111 [shR r] H (.bool false):=by
 refine g9 mixed c7K ?_;refine b4 (r4 _ _) ?_;refine i9 (yu hr) rfl fun H1 l1=> ?_;simp only[cA,nA];refine b9 ?_;exact c9 rfl ⟨l1,rfl⟩
def b8p (hu:SE H 32 ceM v m) (hT:TalP l m) (h0:0<l.length) (hl:l.length<=400):j5 prog 108 [v] H (.bool false):=by
 refine g9 mixed c7J ?_;refine i9 (c2H hu hT h0 hl) rfl fun H1 l1=> ?_;simp only[cA,nA];refine b9 ?_;exact c9 rfl ⟨l1,rfl⟩
def c2O {L:List Slc} {R:List Rat} (hu:SE H 1 (fun s:Slc=>[vs s]) u L) (hv:SE H 16 ceQ v R) (hL:L.length<=1000) (hR:R.length<=1000) (h1:∀H' s,Pl H H'->s∈L->j5 prog 108 [vs s] H' (.bool false)) (h2:∀r∈R,Rg r):j5 prog 68 [u,v] H (ii 0):=by
 refine g9 mixed d3J ?_;refine i9 (c2K hu hL c2M h1) rfl fun H1 l1=> ?_;simp only[cA,nA];refine b9 ?_;refine j1 rfl ?_;refine i9 (c2L (hv.mono l1) hR c2N (fun H' r _ hr=>b8o (h2 r hr))) rfl fun H2 l2=> ?_;simp only[cA,nA];refine b9 ?_;refine j1 rfl ?_;exact c9 rfl ⟨l1.trans l2,rfl⟩
noncomputable def fA0:Field:=((prog.fieldsOf 61)[0]?).getD default
noncomputable def fP0:Field:=((prog.fieldsOf 61)[1]?).getD default
def d7W:(prog.fieldsOf 61).toList=[fA0,fP0]:=aB
def e2u:fA0.type=46:=aB
def e2v:fA0.offset=0:=aB
def e2w:(fA0.name≠ "_")=True:=eq_true (by decide+kernel)
def e2x:fP0.type=46:=aB
def e2y:fP0.offset=16:=aB
def e2z:(fP0.name≠ "_")=True:=eq_true (by decide+kernel)
def Vg:prog.cellsOf 46=16:=aB
def d4e (q:MaT) (w:World):(part 46 (shw q.1.1++shw q.1.2) 0).run prog w= .ok (shR q.1.1) w:=by
 rw[Qa aB (by rw[Vg,cQ,Ao,Ao];omega) (by rw[Vg];omega) w,Vg,show p8 prog 46=true from aB,if_pos rfl];rw[Ve]
def d7X (q:MaT) (w:World):(part 46 (shw q.1.1++shw q.1.2) 16).run prog w= .ok (shR q.1.2) w:=by
 rw[Qa aB (by rw[Vg,cQ,Ao,Ao];omega) (by rw[Vg];omega) w,Vg,show p8 prog 46=true from aB,if_pos rfl];rw[yr]
def OQ (r:Rat) (d:Nat) (w:World):(Op.equalIn (d+3) 46 (shR r) (shR r)).run prog w= .ok true w:=by
 show(Op.equalIn (d+2+1) 46 (.agg (words (rs r.num)++words (rs (r.den:Int)))) (.agg (words (rs r.num)++words (rs (r.den:Int))))).run prog w=_;rw[run_equalIn_struct w (d+2) _ _ _ aB aB,T5];simp[Op.eqFields,T8,U1,T6,T7,T9,U0,U2,U3,T4]
end
section
variable {H B:PH} {u v w e:Value} {l:List Rat} {m:List MaT} {i:Nat} {r:Rat}
def Lh (l:List Rat) (r:Rat) (m:List MaT):Nat:=((m.filter fun q=>decide (q.1.1<r)).map fun q=>l.count q.1.1).sum
def Oq (l:List Rat) (r:Rat) (m:List MaT):Nat:=if m.any (fun q=>decide (q.1.1=r))then l.count r else 0
def c2P (x:MaT):Lh l r (m++[x])=Lh l r m+if x.1.1<r then l.count x.1.1 else 0:=by
 unfold Lh;rw[List.filter_append,bI,kL];by_cases h:x.1.1<r
 ·rw[if_pos h,List.filter_cons_of_pos (by simpa using h)];simp
 ·rw[if_neg h,dZ (by simpa using h)];simp
def c2Q (x:MaT):Oq l r (m++[x])=if x.1.1=r then l.count r else Oq l r m:=by
 unfold Oq;rw[kO];by_cases h:x.1.1=r
 ·rw[if_pos h,if_pos (by simp[h])]
 ·rw[if_neg h];simp[h]
def d4f (i:Nat):Lh l r (m.take i)<=cuM l m i:=by
 unfold Lh cuM;generalize m.take i=k;induction k with
 |nil=>exact aS _
 |cons a k ih=>
  rw[aU,eY,List.filter_cons];split
  ·rw[aU,eY];omega
  ·omega
def d4g:Oq l r m<=l.length:=by
 unfold Oq;split
 ·exact iM
 ·exact bJ _
def OR {r:Rat} {v:Value} (hx:Rp H v r) (hr:Rg r):j5 prog 74 [v] H (.tuple #[shR r,ii 0]):=(IM hx).mono fun u H' h=>⟨h.1,h.2.trans (fk hr)⟩
def c2R (hu:SE H 32 ceM v m) (hT:TalP l m) (h0:0<l.length) (hl:l.length<=400) (hr:Rg r):j5 prog 34 [v,shR r] H (.tuple #[shR (qN (Lh l r m) l.length),shR (qN (Oq l r m) l.length),ii 0]):=by
 refine g9 mixed d3K ?_;have qM:=hT.all;have hml:=hT.len;have uB:∀i,Lh l r (m.take i)<=l.length:=fun i=>by
  have h1:=d4f (l:=l) (m:=m) (r:=r) i;have h2:=ON (l:=l) (m:=m) i;omega
 have z0:((0:Int):Rat)=qN 0 l.length:=by
  unfold qN;rw[Rat.divInt_eq_div];show(0:Rat)=_
  grind
 obtain⟨_,a,c,rfl,_⟩:=id hu;refine b4 (r4 _ _) ?_;refine vg yv (a:=(a,m.length,c)) rfl rfl rfl fun v2 H1 l1 o1 _=> ?_;simp only[cA,nA];refine vg yw (a:=r) rfl rfl rfl fun v3 H2 l2 o2 _=> ?_;simp only[cA,nA];refine i9 (c2O (o1.se.mono l2) o2.se aD aD (fun H' s hl' hs=>by rw[bA.1 hs];exact b8p (hu.mono (l1.trans (l2.trans hl'))) hT h0 hl) (fun x hx=>by rw[bA.1 hx];exact hr)) rfl fun H3 l3=> ?_;simp only[cA,nA];refine b9 ?_;refine j1 (bF (p:=(0:Int)≠0) aD) ?_;refine g5 (jq 0 aA aA) rfl ?_;rintro v5 H4 ⟨l4,q4⟩;refine nmI ?_;simp only[cA,nA];refine g5 (jq 0 aA aA) rfl ?_;rintro v6 H5 ⟨l5,q5⟩;refine nmI ?_;simp only[cA,nA];refine b4 q4.rq ?_;refine b4 q5.rq ?_;rw[z0]at q4 q5;have l05:=l1.trans (l2.trans (l3.trans (l4.trans l5)));refine r8 el_mass (hu.mono l05) ?_;simp only[cA,nA];refine t6 (α:=Nat×Value×Value) (fun⟨i,x,y⟩=>[ii (i:Nat),x,y]) (fun⟨i,x,y⟩=>fun H'=>i<=m.length/\Pl H H'/\Rp H' x (qN (Lh l r (m.take i)) l.length)/\Rp H' y (qN (Oq l r (m.take i)) l.length)) (fun⟨i,x,y⟩=>m.length-i) ((0,v5,v6)) rfl (⟨bJ _,l05,q4.mono l5,q5⟩) fun⟨i,x,y⟩ H' hQ=> ?_;simp only[cA,nA];obtain⟨hi,lX,qx,qy⟩:=hQ;refine b9 (b9 ?_);refine g8 (b:=decide (((i:Nat):Int)<(m.length:Nat))) rfl (fun h=> ?_) (fun h=> ?_)
 ·replace h:=oDt h;have pO:i<m.length:=aA;obtain⟨z,hz,_⟩:=u6 pO;have hzm:=aJ hz;have vP:l.count z.1.1<=l.length:=iM;have hUs:=c2P (l:=l) (r:=r) (m:=m.take i) z;have hSs:=c2Q (l:=l) (r:=r) (m:=m.take i) z;rw[<-take_snoc hz]at hUs hSs;have a5s:=uB i;refine r6 el_mass (hu.mono lX) hz fun _=> ?_;simp only[cA,nA];refine b4 (Ld z) ?_;refine g5 (Zc z.2.1) (congrArg (fun z=>[z]) (Ve z)) ?_;rintro v13 H6 ⟨l6,q6⟩;refine⟨(fun _=>l6),?_⟩;simp only[cA,nA];refine g5 (Zc hr) rfl ?_;rintro v14 H7 ⟨l7,q7⟩;refine⟨(fun _=>l7),?_⟩;simp only[cA,nA];refine g5 (yt (q6.mono l7) q7 z.2.1 hr) rfl ?_;rintro _ H8 ⟨l8,rfl⟩;refine⟨(fun _=>l8),?_⟩;simp only[cA,nA];have l68:=l6.trans (l7.trans l8);refine b9 ?_;refine g8 (b:=decide (sgR z.1.1 r<0)) rfl (fun h1=> ?_) (fun h1=> ?_)
  ·replace h1:=oDt h1;have oV:=sgR_neg.1 h1;rw[if_pos oV]at hUs;rw[if_neg (fun e=>by rw[e]at oV;exact Rat.lt_irrefl oV)]at hSs;refine g5 (jo z) rfl ?_;rintro v16 H9 ⟨l9,q9⟩;refine⟨(fun _=>l9),?_⟩;simp only[cA,nA];rw[hT.p hzm]at q9;refine g5 (IN (qx.mono (l68.trans l9)) q9 (Zd h0 aA aA) (Zd h0 aA aA) aC) (j0 (Qy qx) rfl) ?_;rintro v17 H10 ⟨l10,q10⟩;refine⟨(fun _=>l10),?_⟩;simp only[cA,nA];rw[OL h0,<-hUs]at q10;refine b4 q10.rq ?_;exact⟨(i+1,v17,y),by show m.length-(i+1)<m.length-i;omega,(Dp (p6 rfl aA) rfl rfl),⟨pO,lX.trans (l68.trans (l9.trans l10)),q10,by rw[hSs];exact qy.mono (l68.trans (l9.trans l10))⟩⟩
  ·replace h1:=oDf h1;have hnl:¬z.1.1<r:=fun e=>h1 (sgR_neg.2 e);rw[if_neg hnl,cP]at hUs;refine g8 (b:=decide (sgR z.1.1 r=0)) rfl (fun h2=> ?_) (fun h2=> ?_)
   ·replace h2:=oDt h2;have heq:z.1.1=r:=by unfold sgR at h2;rw[if_neg hnl]at h2;exact bW fun e=>by rw[if_neg e]at h2;cases h2
    rw[if_pos heq]at hSs;refine g5 (jo z) rfl ?_;rintro v16 H9 ⟨l9,q9⟩;refine nmI ?_;simp only[cA,nA];rw[hT.p hzm,heq,<-hSs]at q9;refine b4 q9.rq ?_;exact⟨(i+1,x,v16),by show m.length-(i+1)<m.length-i;omega,(Dp (p6 rfl aA) rfl rfl),⟨pO,lX.trans (l68.trans l9),by rw[hUs];exact qx.mono (l68.trans l9),q9⟩⟩
   ·replace h2:=oDf h2;have pI:¬z.1.1=r:=fun e=>h2 (by rw[e];exact OO r);rw[if_neg pI]at hSs;exact⟨(i+1,x,y),by show m.length-(i+1)<m.length-i;omega,(Dp (p6 rfl aA) rfl rfl),⟨pO,lX.trans l68,by rw[hUs];exact qx.mono l68,by rw[hSs];exact qy.mono l68⟩⟩
 ·replace h:=oDf h;rw[aI aA]at qx qy;have hU2:=uB m.length;rw[dV]at hU2;have hS2:=d4g (l:=l) (r:=r) (m:=m);refine i9 (OR qx (Ze h0 aA aA)) (j7 (Qy qx)) fun H6 l6=> ?_;simp only[cA,nA];refine g7 (g7 ?_);refine b4 (r4 _ _) ?_;refine i9 (OR (qy.mono l6) (Ze h0 aA aA)) (j7 (Qy qy)) fun H7 l7=> ?_;simp only[cA,nA];refine g7 (g7 ?_);refine b4 (r4 _ _) ?_;refine b9 ?_;refine j1 (bF (p:=(0:Int)≠0) aD) ?_;refine b9 ?_;refine j1 (bF (p:=(0:Int)≠0) aD) ?_;exact c9 rfl ⟨lX.trans (l6.trans l7),rfl⟩
end
end Go.Z
namespace Go.GS
def wlU (us:List Un) (n:Nat):List Int:=(us.take n).map (·.ppl)
def s8 (us:List Un) (n:Nat):Bool:=(us.take n).any fun x=>decide (0<x.ppl)
end Go.GS
namespace Go.Z
open Proofs.Tryz RowKit RX GS RZ WD
section
variable {dm:Dm} {H B:PH} {n k ms lv who:Nat} {es:List (Nat×Nat)} {us:List Un} {w rw wts:Value} {lo hi:Int} {b:Nat} {lived:Bool}
def c7U:Asks prog 36 [ii 0] H (.tuple #[]):=by
 refine g9 mixed OB ?_;refine b9 ?_;refine j1 (bF (p:=(0:Int)≠0) aD) ?_;exact c9 rfl ⟨rfl,rfl⟩
def OS (e:Int):Asks prog 30 [.bool false,ii e] H (.tuple #[]):=by
 refine g9 mixed OA ?_;refine b9 ?_;refine j1 rfl ?_;exact c9 rfl ⟨rfl,rfl⟩
def OT (a b:Nat):Asks prog 61 [shv a b,ii 0] H (shv a b):=by
 refine g9 mixed d3U ?_;refine b4 (r4 a b) ?_;refine b9 ?_;refine j1 (bF (p:=(0:Int)≠0) aD) ?_;exact c9 rfl ⟨rfl,rfl⟩
def c7V (v:Value):Asks prog 33 [v,ii 0] H v:=by
 refine g9 mixed d3R ?_;refine b9 ?_;refine j1 (bF (p:=(0:Int)≠0) aD) ?_;exact c9 rfl ⟨rfl,rfl⟩
def OU (v:Value):Asks prog 31 [v,ii 0] H v:=by
 refine g9 mixed d3Q ?_;refine b9 ?_;refine j1 (bF (p:=(0:Int)≠0) aD) ?_;exact c9 rfl ⟨rfl,rfl⟩
def Zf:q8 prog 93=true:=aB
def stC (dm:Dm) (n k ms lv who:Int) (w rw:Value) (lo hi:Int):List Value:=[ii n,w,ii (dm.g:Nat),ii (dm.p:Nat),ii (dm.l:Nat),rw,ii k,ii lo,ii hi,ii ms,ii lv,ii who]
def stV (dm:Dm) (n k ms lv who:Int) (w rw:Value) (lo hi:Int):Value:= .agg (stC dm n k ms lv who w rw lo hi).toArray
def woC (dm:Dm) (n k ms lv who:Int) (w rw:Value) (lo hi:Int) (wts:Value) (lived:Bool):Array Value:= #[ii n,w,ii (dm.g:Nat),ii (dm.p:Nat),ii (dm.l:Nat),rw,ii k,ii lo,ii hi,ii ms,ii lv,ii who,wts,ii lo,ii hi,ii k,.bool lived]
def Ep {n k ms lv who:Int} (h1:n8 w=true) (h2:n8 rw=true):(stV dm n k ms lv who w rw lo hi).cells.size=12/\i8 (stV dm n k ms lv who w rw lo hi).cells:=⟨rfl,fun c hc=>by
 simp[stV,stC,Value.cells]at hc;rcases hc with rfl|rfl|rfl|rfl|rfl|rfl|rfl|rfl|rfl|rfl|rfl|rfl
 ·rfl
 ·exact h1
 ·rfl
 ·rfl
 ·rfl
 ·exact h2
 ·rfl
 ·rfl
 ·rfl
 ·rfl
 ·rfl
 ·rfl⟩
def Bv:FA prog 93 0 0:=⟨aB,oDt aB,aB,aB,oDt aB⟩
def Lj:FA prog 93 1 12:=⟨aB,oDt aB,aB,aB,oDt aB⟩
def jt:FA prog 93 2 16:=⟨aB,oDt aB,aB,aB,oDt aB⟩
def Re:FA prog 30 0 0:=⟨aB,oDt aB,aB,aB,oDt aB⟩
def Zg:FA prog 30 1 2:=⟨aB,oDt aB,aB,aB,oDt aB⟩
def OV:FA prog 30 2 6:=⟨aB,oDt aB,aB,aB,oDt aB⟩
def yx:FA prog 30 5 9:=⟨aB,oDt aB,aB,aB,oDt aB⟩
def yy:FA prog 30 6 10:=⟨aB,oDt aB,aB,aB,oDt aB⟩
def yz:FA prog 30 7 11:=⟨aB,oDt aB,aB,aB,oDt aB⟩
def OW:FA prog 28 2 2:=⟨aB,oDt aB,aB,aB,oDt aB⟩
def za:FA prog 91 0 0:=⟨aB,oDt aB,aB,aB,oDt aB⟩
def Vh:Ag prog 91 4:=⟨aB,aB,aB⟩
end
end Go.Z
namespace Go.RX
open RowKit
def OX {P:Program} {o:Oper} {x:Operand} {v:Value} {T:TypeId} (ho:o.op= .makeInterface T x) (hx:e8 [x] [v] x=v) (hc:P.concrete T=true):Yld P o [v] (.iface T v):=fun w=>by
 have pD:o.op.operands.toList=[x]:=by simp[ho,Op.operands]
 rw[pD];simp only[execOp,ho,hx,Sem.run_bind,Go.run_makeInterface _ _ _ hc,Result.andThen_ok];rfl
end Go.RX
namespace Go.GS
def c7W {us:List Un} {i:Nat} {x:Un} (h:us[i]? =some x):wlU us (i+1)=wlU us i++[x.ppl]:=by
 unfold wlU;rw[cK,h,bI];rfl
def OY {us:List Un} {i:Nat} {x:Un} (h:us[i]? =some x):s8 us (i+1)=(s8 us i||decide (0<x.ppl)):=by
 unfold s8;rw[cK,h,kO];simp
def Dx (dm:Dm) (ms lv who:Int) (lived:Bool):Int:=
 if ¬(0<=ms/\ms<9)\/ms=0 then 2
 else if ms=1 then(if lived then 0 else 7)
 else if ms=5\/ms=6 then(if 0<=lv/\lv<(dm.l:Nat)then 0 else 2)
 else if ms=7 then(if 0<=who/\who<(dm.g:Nat)then 0 else 2)
 else if ms=8 then(if 0<=who/\who<(dm.p:Nat)then 0 else 2)
 else 0
end Go.GS
namespace Go.Z
open Proofs.Tryz RowKit RX GS RZ WD
def Am (e:Int):Value:= .iface 120 (.agg #[ii e])
def Brk (f:FuncId) (vs:List Value) (H:PH) (e:Int):Prop:=ConX prog f vs H (fun v H'=>e=0/\H=H'/\v= .tuple #[]) fun x H'=>e≠0/\Pl H H'/\x=Am e
section
variable {dm:Dm} {H B:PH} {n k ms lv who:Int} {us:List Un} {w rw wts:Value} {lo hi:Int} {b:Nat} {lived:Bool}
def Vi (e:Int):Brk 36 [ii e] H e:=by
 refine Cj mixed OB aB rfl ?_;refine b9 ?_;refine y7 (p:=(e≠0)) (bN e 0) (fun he=> ?_) fun he=> ?_
 ·refine b4 (el_int.vcells _) ?_;refine j6 ((OX (v:= .agg #[ii e]) rfl rfl aB).rds _) rfl ?_;simp only[cA,nA];exact Qg (FH (T:=120) (u:= .agg #[ii e]) rfl rfl) rfl (fun _ _ h=>h.elim) ((fun x H' h=>⟨he,by rw[h.2];exact Pl.refl _,h.1⟩))
 ·exact c9 rfl ⟨bW he,rfl,rfl⟩
def OZ (v:Value) (e:Int):ConX prog 57 [v,ii e] H (fun r H'=>e=0/\H=H'/\r=v) fun x H'=>e≠0/\Pl H H'/\x=Am e:=by
 refine Cj mixed d3T aB rfl ?_;refine b9 ?_;refine y7 (p:=(e≠0)) (bN e 0) (fun he=> ?_) fun he=> ?_
 ·refine b4 (el_int.vcells _) ?_;refine j6 ((OX (v:= .agg #[ii e]) rfl rfl aB).rds _) rfl ?_;simp only[cA,nA];exact Qg (FH (T:=120) (u:= .agg #[ii e]) rfl rfl) rfl (fun _ _ h=>h.elim) ((fun x H' h=>⟨he,by rw[h.2];exact Pl.refl _,h.1⟩))
 ·exact c9 rfl ⟨bW he,rfl,rfl⟩
def Rf {c:Bool} {e:Int} (he:e≠0):Brk 30 [.bool c,ii e] H (if c then e else 0):=by
 refine Cj mixed OA aB rfl ?_;refine b9 ?_;refine g8 (b:=c) rfl (fun hc=> ?_) (fun hc=> ?_)
 ·skip
  rw[if_pos hc];refine Av (Vi e) rfl ?_ ((fun x H' h=>h));rintro _ _ ⟨h0,rfl,rfl⟩;simp only[cA,nA];exact c9 rfl (absurd h0 he)
 ·skip
  rw[if_neg (by rw[hc];decide)];exact c9 rfl ⟨rfl,rfl,rfl⟩
def Zh {a c:Int}:Brk 93 [ii a,ii c] H (if 0<=a/\a<c then 0 else 2):=by
 refine Cj mixed c7L aB rfl ?_;refine b9 ?_;refine g8 (b:=decide (a<0)) rfl (fun h0=> ?_) (fun h0=> ?_)
 ·replace h0:=oDt h0;rw[if_neg aA];refine Av (Rf (c:=true) aC) rfl ?_ ((fun x H' h=>h));rintro _ _ ⟨h0,rfl,rfl⟩;simp only[cA,nA];exact c9 rfl (absurd h0 aC)
 ·replace h0:=oDf h0;refine b9 ?_;refine Av (Rf (c:=decide (a≥c)) (e:=2) aC) rfl ?_ ((fun x H' h=>by by_cases h2:a≥c;(rw[oDd h2]at h;rw[if_neg aA];exact h);(rw[decide_eq_false h2]at h;exact absurd rfl h.1)));rintro _ _ ⟨h1,rfl,rfl⟩;simp only[cA,nA];exact c9 rfl ⟨by by_cases h2:a≥c;(rw[oDd h2]at h1;exact absurd h1 aC);exact if_pos aA,rfl,rfl⟩
def d4h (hb:H b=some (.cells (woC dm n k ms lv who w rw lo hi wts lived) 93 (0,0))):Brk 55 [.pointer (some ⟨b,0,none⟩)] H (Dx dm ms lv who lived):=by
 refine Cj mixed d3W aB rfl ?_;refine j9 ?_;simp only[cA,nA];refine i0 Bv ?_;simp only[cA,nA];refine i0 yx ?_;simp only[cA,nA];refine i7 sc_int rfl rfl hb rfl rfl ?_;simp only[cA,nA];refine Qg (Xh (f:=93) (caps:= #[]) (vs:=[ii ms,ii 9]) rfl rfl rfl Zf Zh) rfl ?_ ((fun x H' h=>by have e:¬(0<=ms/\ms<9):=fun e=>h.1 (if_pos e);rw[if_neg e]at h;unfold Dx;rw[if_pos (.inl e)];exact h));rintro _ _ ⟨h9,rfl,rfl⟩;simp only[cA,nA];have h9:0<=ms/\ms<9:=bW fun e=>by rw[if_neg e]at h9;exact absurd h9 aC
 refine j9 ?_;simp only[cA,nA];refine i0 Bv ?_;simp only[cA,nA];refine i0 yx ?_;simp only[cA,nA];refine i7 sc_int rfl rfl hb rfl rfl ?_;simp only[cA,nA];refine b9 ?_;refine g8 (b:=decide (ms=0)) rfl (fun m0=> ?_) (fun m0=> ?_)
 ·replace m0:=oDt m0;have e0:Dx dm ms lv who lived=2:=if_pos (.inr m0);rw[e0];refine Av (Vi 2) rfl ?_ ((fun x H' h=>h));rintro _ _ ⟨h0,rfl,rfl⟩;simp only[cA,nA];exact c9 rfl (absurd h0 aC)
 ·replace m0:=oDf m0;have e0:¬(¬(0<=ms/\ms<9)\/ms=0):=aA;unfold Dx;rw[if_neg e0];refine g8 (b:=decide (ms=1)) rfl (fun m1=> ?_) (fun m1=> ?_)
  ·replace m1:=oDt m1;rw[if_pos m1];refine j9 ?_;simp only[cA,nA];refine i0 jt ?_;simp only[cA,nA];refine i7 Qz rfl rfl hb rfl rfl ?_;simp only[cA,nA];refine b9 ?_;refine Av (Rf (c:= !lived) (e:=7) aC) rfl ?_ ((fun x H' h=>by cases lived<;>exact h));rintro _ _ ⟨h0,rfl,rfl⟩;simp only[cA,nA];exact c9 rfl ⟨by cases lived<;>exact h0,rfl,rfl⟩
  ·replace m1:=oDf m1;rw[if_neg m1];refine g8 (b:=decide (ms=5)) rfl (fun m5=> ?_) (fun m5=> ?_)
   ·replace m5:=oDt m5;rw[if_pos (.inl m5)];refine j9 ?_;simp only[cA,nA];refine i0 Bv ?_;simp only[cA,nA];refine i0 yy ?_;simp only[cA,nA];refine i7 sc_int rfl rfl hb rfl rfl ?_;simp only[cA,nA];refine j9 ?_;simp only[cA,nA];refine i0 Bv ?_;simp only[cA,nA];refine i0 Zg ?_;simp only[cA,nA];refine i0 OW ?_;simp only[cA,nA];refine i7 sc_int rfl rfl hb rfl rfl ?_;simp only[cA,nA];refine Qg (Xh (f:=93) (caps:= #[]) (vs:=[ii lv,ii (dm.l:Nat)]) rfl rfl rfl Zf Zh) rfl ?_ ((fun x H' h=>h));rintro _ _ ⟨h0,rfl,rfl⟩;simp only[cA,nA];exact c9 rfl ⟨h0,rfl,rfl⟩
   ·replace m5:=oDf m5;refine g8 (b:=decide (ms=6)) rfl (fun m6=> ?_) (fun m6=> ?_)
    ·replace m6:=oDt m6;rw[if_pos (.inr m6)];refine j9 ?_;simp only[cA,nA];refine i0 Bv ?_;simp only[cA,nA];refine i0 yy ?_;simp only[cA,nA];refine i7 sc_int rfl rfl hb rfl rfl ?_;simp only[cA,nA];refine j9 ?_;simp only[cA,nA];refine i0 Bv ?_;simp only[cA,nA];refine i0 Zg ?_;simp only[cA,nA];refine i0 OW ?_;simp only[cA,nA];refine i7 sc_int rfl rfl hb rfl rfl ?_;simp only[cA,nA];refine Qg (Xh (f:=93) (caps:= #[]) (vs:=[ii lv,ii (dm.l:Nat)]) rfl rfl rfl Zf Zh) rfl ?_ ((fun x H' h=>h));rintro _ _ ⟨h0,rfl,rfl⟩;simp only[cA,nA];exact c9 rfl ⟨h0,rfl,rfl⟩
    ·replace m6:=oDf m6;rw[if_neg aA];refine g8 (b:=decide (ms=7)) rfl (fun m7=> ?_) (fun m7=> ?_)
     ·replace m7:=oDt m7;rw[if_pos m7];refine j9 ?_;simp only[cA,nA];refine i0 Bv ?_;simp only[cA,nA];refine i0 yz ?_;simp only[cA,nA];refine i7 sc_int rfl rfl hb rfl rfl ?_;simp only[cA,nA];refine j9 ?_;simp only[cA,nA];refine i0 Bv ?_;simp only[cA,nA];refine i0 Zg ?_;simp only[cA,nA];refine i0 d7L ?_;simp only[cA,nA];refine i7 sc_int rfl rfl hb rfl rfl ?_;simp only[cA,nA];refine Qg (Xh (f:=93) (caps:= #[]) (vs:=[ii who,ii (dm.g:Nat)]) rfl rfl rfl Zf Zh) rfl ?_ ((fun x H' h=>h));rintro _ _ ⟨h0,rfl,rfl⟩;simp only[cA,nA];exact c9 rfl ⟨h0,rfl,rfl⟩
     ·replace m7:=oDf m7;rw[if_neg m7];refine g8 (b:=decide (ms=8)) rfl (fun m8=> ?_) (fun m8=> ?_)
      ·replace m8:=oDt m8;rw[if_pos m8];refine j9 ?_;simp only[cA,nA];refine i0 Bv ?_;simp only[cA,nA];refine i0 yz ?_;simp only[cA,nA];refine i7 sc_int rfl rfl hb rfl rfl ?_;simp only[cA,nA];refine j9 ?_;simp only[cA,nA];refine i0 Bv ?_;simp only[cA,nA];refine i0 Zg ?_;simp only[cA,nA];refine i0 d7M ?_;simp only[cA,nA];refine i7 sc_int rfl rfl hb rfl rfl ?_;simp only[cA,nA];refine Qg (Xh (f:=93) (caps:= #[]) (vs:=[ii who,ii (dm.p:Nat)]) rfl rfl rfl Zf Zh) rfl ?_ ((fun x H' h=>h));rintro _ _ ⟨h0,rfl,rfl⟩;simp only[cA,nA];exact c9 rfl ⟨h0,rfl,rfl⟩
      ·replace m8:=oDf m8;rw[if_neg m8];exact c9 rfl ⟨rfl,rfl,rfl⟩
end
structure StOk (dm:Dm) (n k ms lv who:Nat) (es:List (Nat×Nat)) (us:List Un) (lo hi:Int):Prop where
 n12:n<=12
 gv:GV n es
 rv:RoV dm n us
 hk:1<=k/\k<=8
 m1:1<=ms
 m8:ms<=8
 lv:ms=5\/ms=6->lv<dm.l
 wg:ms=7->who<dm.g
 wp:ms=8->who<dm.p
 bd:Kz n (wlU us n) lo hi (k:Nat)
 mv:ms=2\/ms=3
structure StM (H:PH) (w rw:Value) (es:List (Nat×Nat)) (us:List Un):Prop where
 tb:Tb H
 gr:SG H w es
 ro:RoR H rw us
structure Wo (dm:Dm) (H:PH) (b n k ms lv who:Nat) (w rw:Value) (es:List (Nat×Nat)) (us:List Un) (lo hi:Int) (wts:Value):Prop where
 bk:H b=some (.cells (woC dm n k ms lv who w rw lo hi wts (s8 us n)) 93 (0,0))
 mm:StM H w rw es us
 wt:SI H wts (wlU us n)
section
variable {dm:Dm} {H B:PH} {n k ms lv who:Nat} {es:List (Nat×Nat)} {us:List Un} {w rw wts:Value} {lo hi:Int} {b:Nat}
def StM.mono {H':PH} (h:StM H w rw es us) (hl:Pl H H'):StM H' w rw es us:=⟨h.tb.mono hl,h.gr.mono hl,h.ro.mono hl⟩
def Wo.mono {H':PH} (h:Wo dm H b n k ms lv who w rw es us lo hi wts) (hl:Pl H H'):Wo dm H' b n k ms lv who w rw es us lo hi wts:=⟨hl _ _ h.bk,h.mm.mono hl,h.wt.mono hl⟩
def d7Y:(j3 prog 4).cells= #[.bool false]:=aB
def d4i:(j3 prog 3).cells= #[ii 0]:=aB
def Rh (a b c:SV):SV:= .cat (.z 33) 1 (.cat (.sub (.put (.cat a 1 (.cat (.z 3) 1 (.z 3))) 1 1 b 0 noI) 0 2 0 noI) 2 c)
def PC {k:Int} {a b c:SV} {ρ:List Value} (ha:D prog ρ a=ii lo) (hb:D prog ρ b=ii hi) (hc:D prog ρ c=ii k):D prog ρ (Rh a b c)=bv (.slice none 0 0) lo hi k:=by
 unfold Rh;simp only[D,ha,hb,hc,d7N,d4i];rfl
def d8a {k:Int} {a b c:SV} {ρ:List Value} (ha:D prog ρ a=ii lo) (hb:D prog ρ b=ii hi) (hc:D prog ρ c=ii k):Rq.holds prog ρ (.cells 4 (Rh a b c)):=by
 show(D prog ρ (Rh a b c)).cells.size=4/\i8 (D prog ρ (Rh a b c)).cells;rw[PC ha hb hc];exact Ky (wts:= .slice none 0 0) rfl lo hi k
def d8b {n k ms lv who:Int} {x a b c:SV} {ρ:List Value} (hx:D prog ρ x=stV dm n k ms lv who w rw lo hi) (ha:D prog ρ a=ii lo) (hb:D prog ρ b=ii hi) (hc:D prog ρ c=ii k):(D prog ρ (.cat (.ag x) 12 (.cat (Rh a b c) 4 (.z 4)))).cells=woC dm n k ms lv who w rw lo hi (.slice none 0 0) false:=by
 show(Value.agg ((Value.agg (D prog ρ x).cells).cells++(Value.agg ((D prog ρ (Rh a b c)).cells++(j3 prog 4).cells)).cells)).cells=_;rw[PC ha hb hc,hx,d7Y];rfl
def Dy (eg ec:Int) (ne:Bool) (ee em:Int):Int:=if eg≠0 then eg else if ec≠0 then ec else if ne then 5 else if ee≠0 then ee else em
set_option maxHeartbeats 400000 in
def PD {n k ms lv who eg ec ee:Int} {m:Nat} (h1:n8 w=true) (h2:n8 rw=true) (hg:∀H',Pl H H'->j5 prog 52 [.agg #[ii n,w]] H' (ii eg)) (hc:eg=0->∀H',Pl H H'->j5 prog 53 [rov dm rw] H' (ii ec)) (hv:eg=0->ec=0->RoV dm m us/\RoR H rw us)
  (he:eg=0->ec=0->(m:Int)=n->∀H' wts,Pl H H'->SI H' wts (wlU us m)->j5 prog 54 [.agg #[ii n,w],bv wts lo hi k] H' (ii ee)):
  ConX prog 20 [stV dm n k ms lv who w rw lo hi] H (fun r H'=>(eg=0/\ec=0/\(m:Int)=n/\ee=0/\Dx dm ms lv who (s8 us m)=0)/\Pl H H'/\∃b wts,r= .pointer (some ⟨b,0,none⟩)/\H' b=some (.cells (woC dm n k ms lv who w rw lo hi wts (s8 us m)) 93 (0,0))/\SI H' wts (wlU us m))
   fun x H'=>Pl H H'/\x=Am (Dy eg ec (decide ((m:Int)≠n)) ee (Dx dm ms lv who (s8 us m)))/\Dy eg ec (decide ((m:Int)≠n)) ee (Dx dm ms lv who (s8 us m))≠0:=by
 refine Cj mixed d3V aB rfl ?_;refine b4 (Ep h1 h2) ?_;refine i9 (hg H (Pl.refl H)) rfl fun H1 l1=> ?_;simp only[cA,nA];refine Av (Vi eg) rfl ?_ ((fun x H' h=>⟨l1.trans h.2.1,by unfold Dy;rw[if_pos h.1];exact h.2.2,by unfold Dy;rw[if_pos h.1];exact h.1⟩));rintro _ _ ⟨eg0,rfl,rfl⟩;simp only[cA,nA];refine i9 (hc eg0 _ l1) rfl fun H2 l2=> ?_;simp only[cA,nA];refine Av (Vi ec) rfl ?_ ((fun x H' h=>⟨(l1.trans l2).trans h.2.1,by unfold Dy;rw[if_neg (by simp[eg0]),if_pos h.1];exact h.2.2,by unfold Dy;rw[if_neg (by simp[eg0]),if_pos h.1];exact h.1⟩));rintro _ _ ⟨ec0,rfl,rfl⟩;simp only[cA,nA];obtain⟨hv,vL⟩:=hv eg0 ec0;have oW:=hv.le;have sA:=hv.l64;obtain⟨ul,zK,pB,sC⟩:=id vL;have l02:=l1.trans l2;refine b4 (el_int.vcells _) ?_;refine b4 (el_int.vcells _) ?_;refine b4 (el_int.vcells _) ?_;refine b4 (d8a (lo:=lo) (hi:=hi) (k:=k) rfl rfl rfl) ?_;refine o0 (cs:=woC dm n k ms lv who w rw lo hi (.slice none 0 0) false) (d8b (ms:=ms) (lv:=lv) (who:=who) (w:=w) (rw:=rw) (n:=n) (lo:=lo) (hi:=hi) (k:=k) rfl rfl rfl rfl) fun b hb=> ?_;simp only[cA,nA];have lb:=PH.le_put hb (.cells (woC dm n k ms lv who w rw lo hi (.slice none 0 0) false) 93 (0,0));have qC:=PH.put_self H2 b (.cells (woC dm n k ms lv who w rw lo hi (.slice none 0 0) false) 93 (0,0));generalize H2.put b (.cells (woC dm n k ms lv who w rw lo hi (.slice none 0 0) false) 93 (0,0))=H3 at lb qC⊢;have yU:H b=none:=by
  cases e:H b with
  |none=>rfl
  |some o=>rw[l02 _ _ e]at hb;cases hb
 have l03:=l02.trans lb;refine r8 el_unit (zK.mono l03) ?_;simp only[cA,nA];refine t6 (α:=Nat×Value) (fun⟨i,out⟩=>[ii (i:Nat)]) (fun⟨i,out⟩=>fun H'=>i<=us.length/\Pl H H'/\H' b=some (.cells (woC dm n k ms lv who w rw lo hi out (s8 us (min i m))) 93 (0,0))/\SO H H' 3 1 (fun z:Int=>[ii z]) out (wlU us (min i m))) (fun⟨i,out⟩=>us.length-i) ((0,.slice none 0 0)) rfl (⟨bJ _,l03,by rw[oC];exact qC,by rw[oC];exact SO.nil _ _ _ _ _⟩) fun⟨i,out⟩ H' hQ=> ?_;simp only[cA,nA];obtain⟨hiI,lX,yM,oX⟩:=hQ;refine b9 (b9 ?_);refine g8 (b:=decide (((i:Nat):Int)<(ul.length:Nat))) rfl (fun h=> ?_) (fun h=> ?_)
 ·replace h:=oDt h;have yR:i<ul.length:=aA;obtain⟨u,hu,_⟩:=u6 yR;obtain⟨x,hx,_⟩:=u6 (show i<us.length by omega);have wO:=sC i u x hu hx;have pY:u.wat=decide (m<=i):=wO.wat.trans (hv.wat i x hx);have hxp:=jk hv x (aJ hx);have hup:=wO.ppl;refine r6 el_unit (zK.mono lX) hu fun _=> ?_;simp only[cA,nA];refine b4 (La u) ?_;refine b9 ?_;refine g8 (b:= !u.wat) rfl (fun pS=> ?_) (fun pS=> ?_)
  ·skip
   have hni:¬m<=i:=fun hh=>by rw[pY,oDd hh]at pS;cases pS
   rw[show min i m=i by omega]at yM oX;have uP:min (i+1) m=i+1:=aA;refine j9 ?_;simp only[cA,nA];refine i0 Lj ?_;simp only[cA,nA];refine i0 za ?_;simp only[cA,nA];refine i7 Uw rfl rfl yM rfl rfl ?_;simp only[cA,nA];obtain⟨XB,xb1,xb2,xb3,xb4⟩:=Uu oX lX;refine Hy el_int rfl rfl rfl aF aF xb2 xb3 (by unfold wlU;rw[aW,bD];omega) (show _=[ii u.ppl]from rfl) aF rfl fun pv2 v15 H7 l7 o7=> ?_;simp only[cA,nA];obtain⟨_,a2,c2,rfl,_⟩:=id o7.se;have hb7:=l7 _ _ ((xb4 b (fun cs=>by rw[yM];simp only[ne_eq,dF,Obj.cells.injEq,not_and];intro _ e;exact absurd e.symm aC)).trans yM);refine j9 ?_;simp only[cA,nA];refine i0 Lj ?_;simp only[cA,nA];refine i0 za ?_;simp only[cA,nA];refine Ek (u:= .slice a2 (wlU us i++[u.ppl]).length c2) Uw rfl rfl rfl hb7 (by show 0+12+0<17;decide) rfl rfl rfl (fun h=>(nomatch h)) ?_;simp only[cA,nA];change den _ _ _ _ _ _ (H7.put b (.cells (woC dm n k ms lv who w rw lo hi (.slice a2 (wlU us i++[u.ppl]).length c2) (s8 us i)) 93 (0,0)));have a0y:∀{Y:PH} {ob:Obj},Pl H Y->Pl H (Y.put b ob):=fun hy b' ob' a0z=>by rw[PH.put_ne _ _ (fun e=>by subst e;rw[yU]at a0z;cases a0z)];exact hy _ _ a0z
   have l8:=a0y (ob:= .cells (woC dm n k ms lv who w rw lo hi (.slice a2 (wlU us i++[u.ppl]).length c2) (s8 us i)) 93 (0,0)) (xb1.trans l7);have o8:=(Qu (o7.less xb1) hb7 (show 3≠93 by decide)).mono (PH.cut_put H7 b (.cells (woC dm n k ms lv who w rw lo hi (.slice a2 (wlU us i++[u.ppl]).length c2) (s8 us i)) 93 (0,0)));have hb8:=PH.put_self H7 b (.cells (woC dm n k ms lv who w rw lo hi (.slice a2 (wlU us i++[u.ppl]).length c2) (s8 us i)) 93 (0,0));generalize H7.put b (.cells (woC dm n k ms lv who w rw lo hi (.slice a2 (wlU us i++[u.ppl]).length c2) (s8 us i)) 93 (0,0))=H8 at l8 o8 hb8⊢;have a4p:wlU us i++[u.ppl]=wlU us (i+1):=by rw[c7W hx,hup]
   rw[a4p]at hb8 o8;refine j9 ?_;simp only[cA,nA];refine i0 jt ?_;simp only[cA,nA];refine i7 Qz rfl rfl hb8 rfl rfl ?_;simp only[cA,nA];refine b9 ?_;refine g8 (b:=s8 us i) rfl (fun a1a=> ?_) (fun a1a=> ?_)
   ·skip
    refine j9 ?_;simp only[cA,nA];refine i0 jt ?_;simp only[cA,nA];refine Ek (u:= .bool true) Qz rfl rfl rfl hb8 (by show 0+16<17;decide) rfl rfl rfl (fun h=>(nomatch h)) ?_;simp only[cA,nA];change den _ _ _ _ _ _ (H8.put b (.cells (woC dm n k ms lv who w rw lo hi (.slice a2 (wlU us (i+1)).length c2) true) 93 (0,0)));exact⟨(i+1,.slice a2 (wlU us (i+1)).length c2),by show us.length-(i+1)<us.length-i;omega,(j7 (p6 rfl aA)),⟨by show i+1<=us.length;omega,a0y l8,by rw[uP,OY hx,a1a];exact PH.put_self _ _ _,by rw[uP];exact(Qu o8 hb8 (show 3≠93 by decide)).mono (PH.cut_put _ _ _)⟩⟩
   ·skip
    refine b9 ?_;refine j9 ?_;simp only[cA,nA];refine i0 jt ?_;simp only[cA,nA];refine Ek (u:= .bool (decide (u.ppl>0))) Qz rfl rfl rfl hb8 (by show 0+16<17;decide) rfl rfl rfl (fun h=>(nomatch h)) ?_;simp only[cA,nA];change den _ _ _ _ _ _ (H8.put b (.cells (woC dm n k ms lv who w rw lo hi (.slice a2 (wlU us (i+1)).length c2) (decide (u.ppl>0))) 93 (0,0)));exact⟨(i+1,.slice a2 (wlU us (i+1)).length c2),by show us.length-(i+1)<us.length-i;omega,(j7 (p6 rfl aA)),⟨by show i+1<=us.length;omega,a0y l8,by rw[uP,OY hx,a1a,<-hup];exact PH.put_self _ _ _,by rw[uP];exact(Qu o8 hb8 (show 3≠93 by decide)).mono (PH.cut_put _ _ _)⟩⟩
  ·skip
   have hni:m<=i:=by rw[pY]at pS;simpa using pS
   have uP:min (i+1) m=min i m:=aA;exact⟨(i+1,out),by show us.length-(i+1)<us.length-i;omega,(j7 (p6 rfl aA)),⟨by show i+1<=us.length;omega,lX,by rw[uP];exact yM,by rw[uP];exact oX⟩⟩
 ·replace h:=oDf h;rw[show min i m=m by omega]at yM oX;refine j9 ?_;simp only[cA,nA];refine i0 Lj ?_;simp only[cA,nA];refine i0 za ?_;simp only[cA,nA];refine i7 Uw rfl rfl yM rfl rfl ?_;simp only[cA,nA];refine Gt el_int rfl rfl oX.se rfl ?_;simp only[cA,nA];have hwl:(wlU us m).length=m:=by unfold wlU;rw[aW,bD];omega
  refine b9 (b9 ?_);refine Av (Rf (c:=decide ((((wlU us m).length:Nat):Int)≠n)) (e:=5) aC) (j0 (bN _ _) rfl) ?_ ((fun x H' h=>by have pI:(m:Int)≠n:=fun e=>(by rw[hwl,decide_eq_false (by simp[e])]at h;exact absurd rfl h.1);rw[hwl,oDd pI]at h;exact⟨lX.trans h.2.1,by unfold Dy;rw[if_neg (by simp[eg0]),if_neg (by simp[ec0]),oDd pI];exact h.2.2,by unfold Dy;rw[if_neg (by simp[eg0]),if_neg (by simp[ec0]),oDd pI];exact(aC:(5:Int)≠0)⟩));rintro _ _ ⟨hmn,rfl,rfl⟩;simp only[cA,nA];have hmn:(m:Int)=n:=bW fun e=>by rw[hwl,oDd e]at hmn;exact absurd hmn aC
  have hE:∀em,Dy eg ec (decide ((m:Int)≠n)) ee em=if ee≠0 then ee else em:=fun em=>by unfold Dy;rw[if_neg (by simp[eg0]),if_neg (by simp[ec0]),decide_eq_false (by simp[hmn])];rfl
  refine j9 ?_;simp only[cA,nA];refine i0 Lj ?_;simp only[cA,nA];refine s5 (vs:=[out,ii lo,ii hi,ii k]) Vh rfl rfl yM rfl (show 0+12+4<=17 by decide) rfl ?_;simp only[cA,nA];refine i9 (he eg0 ec0 hmn _ out lX oX.se) rfl fun H4 l4=> ?_;simp only[cA,nA];refine Av (Vi ee) rfl ?_ ((fun x H' h=>⟨(lX.trans l4).trans h.2.1,by rw[hE,if_pos h.1];exact h.2.2,by rw[hE,if_pos h.1];exact h.1⟩));rintro _ _ ⟨ee0,rfl,rfl⟩;simp only[cA,nA];refine Av (d4h (l4 _ _ yM)) rfl ?_ ((fun x H' h=>⟨(lX.trans l4).trans h.2.1,by rw[hE,if_neg (by simp[ee0])];exact h.2.2,by rw[hE,if_neg (by simp[ee0])];exact h.1⟩));rintro _ _ ⟨em0,rfl,rfl⟩;simp only[cA,nA];exact c9 rfl ⟨⟨eg0,ec0,hmn,ee0,em0⟩,lX.trans l4,b,out,rfl,l4 _ _ yM,oX.se.mono l4⟩
def d4k (hS:StOk dm n k ms lv who es us lo hi) (hz:ms=1->s8 us n=true):Dx dm ms lv who (s8 us n)=0:=by
 have h1:=hS.m1;have h8:=hS.m8;have hl:=hS.lv;have hg:=hS.wg;have hp:=hS.wp;unfold Dx;rw[if_neg aA];by_cases m1:ms=1
 ·rw[if_pos aA,if_pos (hz m1)]
 ·rw[if_neg aA];split
  ·exact if_pos aA
  ·split
   ·exact if_pos aA
   ·split
    ·exact if_pos aA
    ·rfl
def Ij (hM:StM H w rw es us) (hS:StOk dm n k ms lv who es us lo hi) (hz:ms=1->s8 us n=true):Con prog 20 [stV dm n k ms lv who w rw lo hi] H fun r H'=>Pl H H'/\∃b wts,r= .pointer (some ⟨b,0,none⟩)/\Wo dm H' b n k ms lv who w rw es us lo hi wts:=
 ((PD (eg:=0) (ec:=0) (ee:=0) (m:=n) (t7 hM.gr) hM.ro.one (fun H' l=>Fv (hM.gr.mono l) hS.gv) (fun _ H' l=>Uz (hM.ro.mono l) hS.rv) (fun _ _=>⟨hS.rv,hM.ro⟩) fun _ _ _ H' wts l hw=>ye (hM.gr.mono l) hS.gv hS.n12 hw hS.bd).con fun x H' h=>h.2.2 (by unfold Dy;rw[d4k hS hz];simp)).mono fun r H' ⟨_,l,b,wts,e,hb,hw⟩=>⟨l,b,wts,e,hb,hM.mono l,hw⟩
end
end Go.Z
namespace Go.RX
open RowKit
def PH.sub (H X:PH):PH:=fun b=>match X b with|some _=>none|none=>H b
def PH.or_sub {X H:PH} (h:Pl X H):X.or (H.sub X)=H:=funext fun b=>by
 unfold PH.or PH.sub;cases e:X b with
 |none=>rfl
 |some o=>exact(h b o e).symm
def PH.disj_sub (X H:PH):Disj X (H.sub X):=fun b hb=>by
 unfold PH.sub;cases e:X b with
 |none=>exact absurd e hb
 |some o=>rfl
def PH.or_nil (X:PH):X.or PH.nil=X:=funext fun b=>by
 unfold PH.or;cases e:X b<;>rfl
end Go.RX
namespace Go.Z
open Proofs.Tryz RowKit RX GS RZ WD
section
variable {dm:Dm} {H B:PH} {n k ms lv who:Nat} {es:List (Nat×Nat)} {us:List Un} {w rw wts u:Value} {lo hi:Int} {b:Nat} {p:List Int}
def StOk.mok (hS:StOk dm n k ms lv who es us lo hi) (_:ms=1->s8 us n=true):Vd dm n us ms lv who:=⟨hS.m1,hS.m8,hS.mv⟩
def zc (hW:Wo dm H b n k ms lv who w rw es us lo hi wts) (hS:StOk dm n k ms lv who es us lo hi) (hz:ms=1->s8 us n=true) (hp:SI H u p) (ho:PlOk n k p):j5 prog 35 [.pointer (some ⟨b,0,none⟩),u] H (shR (s0 dm n es us k ms lv who p)):=by
 refine g9 mixed d3X ?_;refine j9 ?_;simp only[cA,nA];refine i0 Bv ?_;simp only[cA,nA];refine i0 Re ?_;simp only[cA,nA];refine s5 (vs:=[ii (n:Nat),w]) Lc rfl rfl hW.bk rfl (show 0+0+0+2<=17 by decide) rfl ?_;simp only[cA,nA];refine j9 ?_;simp only[cA,nA];refine i0 Bv ?_;simp only[cA,nA];refine i0 Zg ?_;simp only[cA,nA];refine s5 (vs:=[ii (dm.g:Nat),ii (dm.p:Nat),ii (dm.l:Nat),rw]) yi rfl rfl hW.bk rfl (show 0+0+2+4<=17 by decide) rfl ?_;simp only[cA,nA];refine j9 ?_;simp only[cA,nA];refine i0 Bv ?_;simp only[cA,nA];refine i0 OV ?_;simp only[cA,nA];refine i7 sc_int rfl rfl hW.bk rfl rfl ?_;simp only[cA,nA];refine j9 ?_;simp only[cA,nA];refine i0 Bv ?_;simp only[cA,nA];refine i0 yx ?_;simp only[cA,nA];refine i7 sc_int rfl rfl hW.bk rfl rfl ?_;simp only[cA,nA];refine j9 ?_;simp only[cA,nA];refine i0 Bv ?_;simp only[cA,nA];refine i0 yy ?_;simp only[cA,nA];refine i7 sc_int rfl rfl hW.bk rfl rfl ?_;simp only[cA,nA];refine j9 ?_;simp only[cA,nA];refine i0 Bv ?_;simp only[cA,nA];refine i0 yz ?_;simp only[cA,nA];refine i7 sc_int rfl rfl hW.bk rfl rfl ?_;simp only[cA,nA];refine i9 (c2x hW.mm.gr hS.gv hW.mm.ro hS.rv hp ho hS.hk (hS.mok hz)) rfl fun H1 l1=> ?_;simp only[cA,nA];refine g7 (g7 ?_);refine s7 (OT _ _) rfl ?_;simp only[cA,nA];refine b4 (r4 _ _) ?_;exact c9 rfl ⟨l1,rfl⟩
def Zi:Sc prog 67:=⟨aB,aB,aB⟩
def Zj:Sc prog 125:=⟨aB,aB,aB⟩
def PE:(j3 prog 125).cells= #[.slice none 0 0]:=aB
def zd:q8 prog 59=true:=aB
noncomputable def y8 (n k:Nat) (es:List (Nat×Nat)) (us:List Un) (lo hi:Int) (i:Nat):List Int:=Gf (alB es (wlU us n) lo hi) n k i
noncomputable def j8 (n k:Nat) (es:List (Nat×Nat)) (us:List Un) (lo hi:Int):Nat:=Bq (alB es (wlU us n) lo hi) n k
structure AllI (dm:Dm) (H:PH) (z c b n k ms lv who:Nat) (w rw:Value) (es:List (Nat×Nat)) (us:List Un) (lo hi:Int) (wts lv':Value) (m:List Slc):Prop where
 zb:H z=some (.cells #[lv'] 125 (0,0))
 cb:H c=some (.cells #[.pointer (some ⟨b,0,none⟩)] 67 (0,0))
 wo:Wo dm H b n k ms lv who w rw es us lo hi wts
 se:SE H 1 (fun s:Slc=>[vs s]) lv' m
 len:m.length=j8 n k es us lo hi
 at':∀(i:Nat) s,m[i]? =some s->SI H (vs s) (y8 n k es us lo hi i)
def AllI.mono {H':PH} {z c:Nat} {lv':Value} {m:List Slc} (h:AllI dm H z c b n k ms lv who w rw es us lo hi wts lv' m) (hl:Pl H H'):AllI dm H' z c b n k ms lv who w rw es us lo hi wts lv' m:=⟨hl _ _ h.zb,hl _ _ h.cb,h.wo.mono hl,h.se.mono hl,h.len,fun i s hs=>(h.at' i s hs).mono hl⟩
def PG (hW:Wo dm H b n k ms lv who w rw es us lo hi wts) (hS:StOk dm n k ms lv who es us lo hi):ConX prog 23 [.pointer (some ⟨b,0,none⟩)] H (fun r H'=>(0<j8 n k es us lo hi/\j8 n k es us lo hi<=400)/\Pl H H'/\∃z c lv' m,r= .func (.func 59) #[] #[.pointer (some ⟨z,0,none⟩),.pointer (some ⟨c,0,none⟩)]/\AllI dm H' z c b n k ms lv who w rw es us lo hi wts lv' m)
  fun x H'=>Pl H H'/\((j8 n k es us lo hi=0/\x=Am 4)\/(400<j8 n k es us lo hi/\x=Am 3)):=by
 refine Cj mixed d3Y aB rfl ?_;refine b4 (yn rfl rfl) ?_;refine o0 (cs:= #[.pointer (some ⟨b,0,none⟩)]) rfl fun c hc=> ?_;simp only[cA,nA];have lc:=PH.le_put hc (.cells #[.pointer (some ⟨b,0,none⟩)] 67 (0,0));have vP:=PH.put_self H c (.cells #[.pointer (some ⟨b,0,none⟩)] 67 (0,0));generalize H.put c (.cells #[.pointer (some ⟨b,0,none⟩)] 67 (0,0))=H1 at lc vP⊢;have rH:=hW.mono lc;refine⟨?_,?_⟩
 ·skip
  refine i7 Zi rfl rfl vP rfl rfl ?_;simp only[cA,nA];refine j9 ?_;simp only[cA,nA];refine i0 Bv ?_;simp only[cA,nA];refine i0 Re ?_;simp only[cA,nA];refine s5 (vs:=[ii (n:Nat),w]) Lc rfl rfl rH.bk rfl (show 0+0+0+2<=17 by decide) rfl ?_;simp only[cA,nA];refine i7 Zi rfl rfl vP rfl rfl ?_;simp only[cA,nA];refine j9 ?_;simp only[cA,nA];refine i0 Lj ?_;simp only[cA,nA];refine s5 (vs:=[wts,ii lo,ii hi,ii (k:Nat)]) Vh rfl rfl rH.bk rfl (show 0+12+4<=17 by decide) rfl ?_;simp only[cA,nA];refine g5 (MY rH.mm.tb rH.mm.gr hS.gv hS.n12 rH.wt hS.bd) rfl ?_;rintro _ H2 ⟨l2,v,e,rfl,hE⟩;refine⟨(fun _=>l2),?_⟩;simp only[cA,nA];refine g7 (g7 ?_);refine Av (OZ v e) rfl ?_ ((fun x H' h=>⟨(lc.trans l2).trans h.2.1,.inr ⟨(hE.resolve_left fun g=>h.1 g.1).2,by rw[h.2.2,(hE.resolve_left fun g=>h.1 g.1).1]⟩⟩));rintro _ _ ⟨e0,rfl,rfl⟩;simp only[cA,nA];obtain⟨-,hN,m,sJ,pB,qK⟩:=hE.resolve_right fun g=>by omega
  obtain⟨_,a1,c1,rfl,_⟩:=id sJ;refine o0 (cs:= #[.slice none 0 0]) PE fun z hz=> ?_;simp only[cA,nA];refine Ek (u:= .slice a1 m.length c1) Zj rfl rfl rfl (PH.put_self _ _ _) aD rfl rfl rfl (fun h=>(nomatch h)) ?_;simp only[cA,nA];rw[PH.put_put];change den _ _ _ _ _ _ (H2.put z (.cells #[.slice a1 m.length c1] 125 (0,0)));have lz:=PH.le_put hz (.cells #[.slice a1 m.length c1] 125 (0,0));have xH:=PH.put_self H2 z (.cells #[.slice a1 m.length c1] 125 (0,0));generalize H2.put z (.cells #[.slice a1 m.length c1] 125 (0,0))=H3 at lz xH⊢;refine i7 Zj rfl rfl xH rfl rfl ?_;simp only[cA,nA];refine r8 Yn (sJ.mono lz) ?_;simp only[cA,nA];refine b9 ?_;refine Av (Rf (c:=decide (((m.length:Nat):Int)=0)) (e:=4) aC) (j0 (bE _ _) rfl) ?_ ((fun x H' h=>by have h0:((m.length:Nat):Int)=0:=bW fun g=>(by rw[decide_eq_false g]at h;exact absurd rfl h.1);rw[oDd h0]at h;exact⟨(lc.trans (l2.trans lz)).trans h.2.1,.inl ⟨by have:m.length=j8 n k es us lo hi:=pB;omega,h.2.2⟩⟩));rintro _ _ ⟨yL,rfl,rfl⟩;simp only[cA,nA];have yL:((m.length:Nat):Int)≠0:=fun g=>by rw[oDd g]at yL;exact absurd yL aC
  refine x5 (Ai (vs:=[.pointer (some ⟨z,0,none⟩),.pointer (some ⟨c,0,none⟩)]) rfl rfl) rfl ?_;simp only[cA,nA];exact c9 rfl ⟨⟨by have:m.length=j8 n k es us lo hi:=pB;omega,hN⟩,lc.trans (l2.trans lz),z,c,_,m,rfl,xH,lz _ _ (l2 _ _ vP),rH.mono (l2.trans lz),sJ.mono lz,pB,fun i s hs=>(qK i s hs).mono lz⟩
 ·skip
  refine i7 Zi rfl rfl vP rfl rfl ?_;simp only[cA,nA];refine j9 ?_;simp only[cA,nA];refine i0 Bv ?_;simp only[cA,nA];refine i0 Re ?_;simp only[cA,nA];refine s5 (vs:=[ii (n:Nat),w]) Lc rfl rfl rH.bk rfl (show 0+0+0+2<=17 by decide) rfl ?_;simp only[cA,nA];refine i7 Zi rfl rfl vP rfl rfl ?_;simp only[cA,nA];refine j9 ?_;simp only[cA,nA];refine i0 Lj ?_;simp only[cA,nA];refine s5 (vs:=[wts,ii lo,ii hi,ii (k:Nat)]) Vh rfl rfl rH.bk rfl (show 0+12+4<=17 by decide) rfl ?_;simp only[cA,nA];refine g5 (MY rH.mm.tb rH.mm.gr hS.gv hS.n12 rH.wt hS.bd) rfl ?_;rintro _ H2 ⟨l2,v,e,rfl,hE⟩;refine⟨(fun _=>l2),?_⟩;simp only[cA,nA];refine g7 (g7 ?_);refine o0 (cs:= #[.slice none 0 0]) PE fun z hz=> ?_;simp only[cA,nA];refine Av (OZ v e) rfl ?_ ((fun x H' h=>⟨((lc.trans l2).trans (PH.le_put hz _)).trans h.2.1,.inr ⟨(hE.resolve_left fun g=>h.1 g.1).2,by rw[h.2.2,(hE.resolve_left fun g=>h.1 g.1).1]⟩⟩));rintro _ _ ⟨e0,rfl,rfl⟩;simp only[cA,nA];obtain⟨-,hN,m,sJ,pB,qK⟩:=hE.resolve_right fun g=>by omega
  obtain⟨_,a1,c1,rfl,_⟩:=id sJ;refine Ek (u:= .slice a1 m.length c1) Zj rfl rfl rfl (PH.put_self _ _ _) aD rfl rfl rfl (fun h=>(nomatch h)) ?_;simp only[cA,nA];rw[PH.put_put];change den _ _ _ _ _ _ (H2.put z (.cells #[.slice a1 m.length c1] 125 (0,0)));have lz:=PH.le_put hz (.cells #[.slice a1 m.length c1] 125 (0,0));have xH:=PH.put_self H2 z (.cells #[.slice a1 m.length c1] 125 (0,0));generalize H2.put z (.cells #[.slice a1 m.length c1] 125 (0,0))=H3 at lz xH⊢;refine i7 Zj rfl rfl xH rfl rfl ?_;simp only[cA,nA];refine r8 Yn (sJ.mono lz) ?_;simp only[cA,nA];refine b9 ?_;refine Av (Rf (c:=decide (((m.length:Nat):Int)=0)) (e:=4) aC) (j0 (bE _ _) rfl) ?_ ((fun x H' h=>by have h0:((m.length:Nat):Int)=0:=bW fun g=>(by rw[decide_eq_false g]at h;exact absurd rfl h.1);rw[oDd h0]at h;exact⟨(lc.trans (l2.trans lz)).trans h.2.1,.inl ⟨by have:m.length=j8 n k es us lo hi:=pB;omega,h.2.2⟩⟩));rintro _ _ ⟨yL,rfl,rfl⟩;simp only[cA,nA];have yL:((m.length:Nat):Int)≠0:=fun g=>by rw[oDd g]at yL;exact absurd yL aC
  refine x5 (Ai (vs:=[.pointer (some ⟨z,0,none⟩),.pointer (some ⟨c,0,none⟩)]) rfl rfl) rfl ?_;simp only[cA,nA];exact c9 rfl ⟨⟨by have:m.length=j8 n k es us lo hi:=pB;omega,hN⟩,lc.trans (l2.trans lz),z,c,_,m,rfl,xH,lz _ _ (l2 _ _ vP),rH.mono (l2.trans lz),sJ.mono lz,pB,fun i s hs=>(qK i s hs).mono lz⟩
def ze (hW:Wo dm H b n k ms lv who w rw es us lo hi wts) (hS:StOk dm n k ms lv who es us lo hi) (hp:0<j8 n k es us lo hi) (hN:j8 n k es us lo hi<=400):Con prog 23 [.pointer (some ⟨b,0,none⟩)] H fun r H'=>Pl H H'/\∃z c lv' m,r= .func (.func 59) #[] #[.pointer (some ⟨z,0,none⟩),.pointer (some ⟨c,0,none⟩)]/\AllI dm H' z c b n k ms lv who w rw es us lo hi wts lv' m:=
 ((PG hW hS).con fun x H' h=>aA).mono fun r H' h=>h.2
def ju {i:Nat} (h:i<j8 n k es us lo hi):PlOk n k (y8 n k es us lo hi i):=by
 obtain⟨h1,h2,h3⟩:=c6Y (ft:=alB es (wlU us n) lo hi) (n:=n) (k:=k) (i:=i) h;refine⟨by unfold y8 Gf;rw[aW];exact h1,fun x hx=> ?_,fun d hd=> ?_⟩
 ·unfold y8 Gf at hx;obtain⟨y,hy,rfl⟩:=bK.1 hx;have:=h2 y hy;omega
 ·unfold y8 Gf;exact bK.2 ⟨d,h3 d hd,rfl⟩
def zf {z c:Nat} {lv':Value} {m:List Slc} {Ro:PH} (hA:AllI dm Ro z c b n k ms lv who w rw es us lo hi wts lv' m) (hS:StOk dm n k ms lv who es us lo hi) (hz:ms=1->s8 us n=true) (ho:∀i,i<j8 n k es us lo hi->PlOk n k (y8 n k es us lo hi i)) (hm:m.length<=1000):
  ItC prog 59 [.pointer (some ⟨z,0,none⟩),.pointer (some ⟨c,0,none⟩)] Ro PH.nil (fun pre xs=>∃s,m[pre.length]? =some s/\xs=[vs s,shR (s0 dm n es us k ms lv who (y8 n k es us lo hi pre.length))]) (fun xs _=>xs.length=m.length) (fun _ _=>True):=by
 intro l J Jx uH hY X hX hd w' qS;refine(t8 (H:=X.or PH.nil) (V:=fun _ H'=>∃X' K',Pl (X'.or K') H'/\Disj X' K'/\((∃xs,xs.length=m.length/\J xs X')\/(∃pre,True/\Jx pre X'))) mixed c7M aB rfl ?_ w' qS).mono fun e w' ⟨v,H',he,pU,hV⟩=>⟨v,H',he,pU,hV⟩;have hA0:=hA.mono ((uH _ _ hX).trans (PH.le_or X PH.nil));refine i7 Zj rfl rfl hA0.zb rfl rfl ?_;simp only[cA,nA];refine Gt Yn rfl rfl hA0.se rfl ?_;simp only[cA,nA];refine t6 (α:=Nat×List (List Value)×PH×PH) (fun⟨i,pre,X',K⟩=>[ii (i:Nat)]) (fun⟨i,pre,X',K⟩=>fun H'=>i<=m.length/\H'=X'.or K/\Disj X' K/\pre.length=i/\J pre X') (fun⟨i,pre,X',K⟩=>m.length-i) ((0,[],X,PH.nil)) rfl (⟨bJ _,rfl,hd,rfl,hX⟩) fun⟨i,pre,X',K⟩ H' hQ=> ?_;simp only[cA,nA];obtain⟨hiI,rfl,pL,pA,hJ⟩:=hQ;have hA1:=hA.mono ((uH _ _ hJ).trans (PH.le_or X' K));refine b9 (b9 ?_);refine g8 (b:=decide (((i:Nat):Int)<(m.length:Nat))) rfl (fun h=> ?_) (fun h=> ?_)
 ·replace h:=oDt h;have pO:i<m.length:=aA;obtain⟨s,hs,_⟩:=u6 pO;have hiN:i<j8 n k es us lo hi:=by have:=hA.len;omega
  refine By Yn rfl rfl rfl rfl aF hA1.se hs rfl aF fun _=> ?_;simp only[cA,nA];refine i7 Zi rfl rfl hA1.cb rfl rfl ?_;simp only[cA,nA];refine i9 (zc hA1.wo hS hz (hA1.at' i s hs) (ho i hiN)) rfl fun H2 l2=> ?_;simp only[cA,nA];have lX2:Pl X' H2:=(PH.le_or X' K).trans l2;rw[<-PH.or_sub lX2];refine Uf (hY _ [vs s,shR (s0 dm n es us k ms lv who (y8 n k es us lo hi i))] X' (H2.sub X') ⟨s,by rw[pA];exact hs,by rw[pA]⟩ hJ (PH.disj_sub _ _)) rfl rfl rfl rfl rfl fun v X2 pE hV=> ?_;simp only[cA,nA];obtain⟨bb,rfl,pV,tR⟩:∃bb,v= .bool bb/\(bb=true->J (pre++[[vs s,shR (s0 dm n es us k ms lv who (y8 n k es us lo hi i))]]) X2)/\(bb=false->Jx (pre++[[vs s,shR (s0 dm n es us k ms lv who (y8 n k es us lo hi i))]]) X2):=by
   rcases hV with⟨rfl,h⟩|⟨rfl,h⟩
   ·exact⟨true,rfl,fun _=>h,(fun h=>nomatch h)⟩
   ·exact⟨false,rfl,(fun h=>nomatch h),fun _=>h⟩
  refine b9 ?_;refine g8 (b:= !bb) rfl (fun qC=> ?_) (fun qC=> ?_)
  ·skip
   exact c9 rfl ⟨X2,H2.sub X',Pl.refl _,pE,.inr ⟨_,trivial,tR (by simpa using qC)⟩⟩
  ·skip
   exact⟨(i+1,pre++[[vs s,shR (s0 dm n es us k ms lv who (y8 n k es us lo hi i))]],X2,H2.sub X'),by show m.length-(i+1)<m.length-i;omega,(j7 (p6 rfl aA)),⟨pO,rfl,pE,by rw[aL];simp;omega,pV (by simpa using qC)⟩⟩
 ·replace h:=oDf h;exact c9 rfl ⟨X',K,Pl.refl _,pL,.inl ⟨pre,aA,hJ⟩⟩
end
end Go.Z
namespace Go.RX
open RowKit
def Dz {P:Program} {G Xp:Value->PH->Prop} {nx:List (List Value->PH->Prop)} {ρ:List Value} {X H:PH} {pf:Bool} {f:FuncId} {args:List SV} {t:Tree} {vs:List Value} {W:Value->PH->Prop} (hc:Con P f vs X fun u X'=>Pl X X'/\W u X') (hX:Pl X H) (ha:args.map (D P ρ)=vs)
  (n:∀u X' H',Pl X X'->W u X'->Pl X' H'->Pl H H'->(∀k,H k≠none->X k=none->X' k=none)->den P G Xp t nx (ρ++[u]) H'):den P G Xp (.call pf f args t) nx ρ H:=by
 refine g5 (hc.frame hX) ha ?_;rintro u H' ⟨X',⟨h1,h2⟩,h3,h4⟩;have oW:Pl H H':=fun k ob hk=>by
  cases e:X k with
  |none=>exact(h4 k ob hk e).2
  |some o2=>
   have:=hX _ _ e;rw[this]at hk;rw[<-hk];exact h3 _ _ (h1 _ _ e)
 exact⟨fun _=>oW,n u X' H' h1 h2 h3 oW fun k hk e=>by
  obtain⟨ob,hk⟩:=Option.ne_none_iff_exists'.1 hk;exact(h4 k ob hk e).1⟩
end Go.RX

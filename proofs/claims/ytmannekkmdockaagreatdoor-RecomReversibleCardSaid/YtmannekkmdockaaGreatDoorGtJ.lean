/- Chapter 32: the examples are answered as they should be. -/
import Derived.Test.YtmannekkmdockaaGreatDoorGtD
import Derived.Test.YtmannekkmdockaaGreatDoorGtG
import Derived.Test.YtmannekkmdockaaGreatDoorGuC
import Derived.Test.YtmannekkmdockaaGreatDoorRzB
namespace Go.Proofs.YtmannekkmdockaaGreatDoor
open Go.Proofs.Tryz
open Go.RowKit Go.RX Go.GS Go.RZ
open Go.WD (BP a1E wd iw rs toI HM sgI Rb a8Y)
set_option maxRecDepth 100000
section
variable {H:PH} {u v w wts:Value} {p wl:List Int} {n k:Nat} {es:List (Nat×Nat)} {lo hi ds:Int}
theorem b8v {l m:List Slc} {cont cont2:Slc->List Int} (hu:SE H 1 (fun s:Slc=>[vs s]) u l) (hv:SE H 1 (fun s:Slc=>[vs s]) v m) (hl:∀s∈l,SI H (vs s) (cont s)) (hm:∀s∈m,SI H (vs s) (cont2 s)):Asks prog 14 [u,v] H (.bool (decide (l.map cont=m.map cont2))):=by
 refine a0b mixed c1F (by kernel_rfl) rfl ?_
 have h1:=hu.len
 have h2:=hv.len
 refine a0h a2e rfl rfl hu rfl ?_
 refine a0h a2e rfl rfl hv rfl ?_
 refine a0a ⟨_,rfl⟩ ?_
 refine a0a ⟨_,rfl⟩ ?_
 refine a0e (b:=decide (l.length≠m.length)) (by show Value.bool (((l.length:Nat):Int) !=((m.length:Nat):Int))=_;rw[bN];congr 1;apply decide_eq_decide.2;omega) (fun hne=> ?_) (fun hne=> ?_)
 ·replace hne:=of_decide_eq_true hne
  exact a0c rfl ⟨rfl,by rw[decide_eq_false (fun e=>hne (by simpa using congrArg List.length e))];rfl⟩
 ·replace hne:=of_decide_eq_false hne
  have hlm:l.length=m.length:=Classical.byContradiction hne
  refine a0K (α:=Nat) (fun i=>[.bool false,ii (i:Nat)]) (fun i=>i<=l.length/\(l.take i).map cont=(m.take i).map cont2) (fun i=>l.length-i) (0) rfl (⟨Nat.zero_le _,rfl⟩) fun i hQ=> ?_
  simp only[cA,nA]
  obtain⟨hi,hq⟩:=hQ
  refine a0h a2e rfl rfl hu rfl ?_
  refine a0a ⟨_,rfl⟩ ?_
  refine a0a ⟨_,rfl⟩ ?_
  refine a0e (b:=decide (((i:Nat):Int)<(l.length:Nat))) rfl (fun h=> ?_) (fun h=> ?_)
  ·replace h:=of_decide_eq_true h
   have hi':i<l.length:=by omega
   obtain⟨x,hx,_⟩:=a0B hi'
   obtain⟨y,hy,_⟩:=a0B (show i<m.length by omega)
   refine a0i a2e rfl rfl rfl rfl (fun _=>rfl) hu hx rfl (fun _=>rfl) fun _=> ?_
   simp only[cA,nA]
   refine a0i a2e rfl rfl rfl rfl (fun _=>rfl) hv hy rfl (fun _=>rfl) fun _=> ?_
   simp only[cA,nA]
   refine a0P (b8o (hl x (List.mem_of_getElem? hx)) (hm y (List.mem_of_getElem? hy))) rfl ?_
   simp only[cA,nA]
   refine a0a ⟨_,rfl⟩ ?_
   refine a0e (b:= !decide (cont x=cont2 y)) rfl (fun hxy=> ?_) (fun hxy=> ?_)
   ·skip
    have hno:¬l.map cont=m.map cont2:=fun e=>by
     have e2:=congrArg (fun z=>z[i]?) e
     simp only[List.getElem?_map,hx,hy,Option.map_some,Option.some.injEq]at e2
     simp[e2]at hxy
    exact a0c rfl ⟨rfl,by rw[decide_eq_false hno];rfl⟩
   ·skip
    exact⟨i+1,by omega,(a1s rfl (a0w rfl (by omega))),⟨⟨hi',by rw[take_snoc hx,take_snoc hy,List.map_append,List.map_append,hq];simp at hxy;simp[hxy]⟩,rfl⟩⟩
  ·replace h:=of_decide_eq_false h
   rw[List.take_of_length_le (by omega),List.take_of_length_le (by omega)]at hq
   exact a0c rfl ⟨rfl,by rw[decide_eq_true hq];rfl⟩
theorem c7k {l m:List Rat} (hu:SE H 16 shc u (l.map tpr)) (hv:SE H 16 shc v (m.map tpr)) (hl:∀r∈l,Rg r) (hm:∀r∈m,Rg r):Asks prog 15 [u,v] H (.bool (decide (l=m))):=by
 refine a0b mixed d0x (by kernel_rfl) rfl ?_
 have h1:=hu.len
 have h2:=hv.len
 have e1:(l.map tpr).length=l.length:=List.length_map _
 have e2:(m.map tpr).length=m.length:=List.length_map _
 rw[e1]at h1
 rw[e2]at h2
 refine a0h a4j rfl rfl hu rfl ?_
 refine a0h a4j rfl rfl hv rfl ?_
 refine a0a ⟨_,rfl⟩ ?_
 refine a0a ⟨_,rfl⟩ ?_
 refine a0e (b:=decide (l.length≠m.length)) (by rw[e1,e2];show Value.bool (((l.length:Nat):Int) !=((m.length:Nat):Int))=_;rw[bN];congr 1;apply decide_eq_decide.2;omega) (fun hne=> ?_) (fun hne=> ?_)
 ·replace hne:=of_decide_eq_true hne
  exact a0c rfl ⟨rfl,by rw[decide_eq_false (fun e=>hne (by rw[e]))];rfl⟩
 ·replace hne:=of_decide_eq_false hne
  have hlm:l.length=m.length:=Classical.byContradiction hne
  refine a0h a4j rfl rfl hu rfl ?_
  refine a0K (α:=Nat) (fun i=>[.bool false,ii (i:Nat)]) (fun i=>i<=l.length/\l.take i=m.take i) (fun i=>l.length-i) (0) rfl (⟨Nat.zero_le _,rfl⟩) fun i hQ=> ?_
  simp only[cA,nA]
  obtain⟨hi,hq⟩:=hQ
  refine a0a ⟨_,rfl⟩ ?_
  refine a0a ⟨_,rfl⟩ ?_
  refine a0e (b:=decide (((i:Nat):Int)<(l.length:Nat))) (by rw[e1];rfl) (fun h=> ?_) (fun h=> ?_)
  ·replace h:=of_decide_eq_true h
   have hi':i<l.length:=by omega
   obtain⟨x,hx,_⟩:=a0B hi'
   obtain⟨y,hy,_⟩:=a0B (show i<m.length by omega)
   refine a0i a4j rfl rfl rfl rfl (fun _=>rfl) hu (show(l.map tpr)[i]? =some (tpr x)from by rw[List.getElem?_map,hx];rfl) rfl (fun _=>rfl) fun _=> ?_
   simp only[cA,nA]
   refine a0i a4j rfl rfl rfl rfl (fun _=>rfl) hv (show(m.map tpr)[i]? =some (tpr y)from by rw[List.getElem?_map,hy];rfl) rfl (fun _=>rfl) fun _=> ?_
   simp only[cA,nA]
   refine a0g ((c0p (hl x (List.mem_of_getElem? hx)) (hm y (List.mem_of_getElem? hy)) rfl (fun _ _=>rfl) (fun _ _=>rfl)).rds _) rfl ?_
   simp only[cA,nA]
   refine a0a ⟨_,rfl⟩ ?_
   refine a0e (b:= !decide (x=y)) rfl (fun hxy=> ?_) (fun hxy=> ?_)
   ·skip
    have hno:¬l=m:=fun e=>by
     subst e
     rw[hx]at hy
     injection hy with hy
     simp[hy]at hxy
    exact a0c rfl ⟨rfl,by rw[decide_eq_false hno];rfl⟩
   ·skip
    exact⟨i+1,by omega,(a1s rfl (a0w rfl (by omega))),⟨⟨hi',by rw[take_snoc hx,take_snoc hy,hq];simp at hxy;rw[hxy]⟩,rfl⟩⟩
  ·replace h:=of_decide_eq_false h
   rw[List.take_of_length_le (by omega),List.take_of_length_le (by omega)]at hq
   exact a0c rfl ⟨rfl,by rw[decide_eq_true hq];rfl⟩
theorem c3x {a b:Int} {t:Rat} (p0: -9223372036854775808<=a) (p1:a<9223372036854775808) (q0: -9223372036854775808<=b) (q1:b<9223372036854775808) (hb:b≠0) (ht:Rat.divInt a b=t) (hT:Rg t):a3M prog 32 [.int .i64 a,.int .i64 b] H (shR t):=by
 refine a0b mixed d6W (by kernel_rfl) rfl ?_
 refine a0d (c9K a b p0 p1 q0 q1) rfl ?_
 rintro _ H1 ⟨l1,rfl⟩
 refine⟨fun h=>(nomatch h),?_⟩
 simp only[cA,nA]
 rw[show b0R a b= .tuple #[shR t,ii 0]from by unfold b0R;rw[if_neg hb,ht];exact a4W hT]
 refine a0a ⟨_,rfl,by simp⟩ ?_
 refine a0a ⟨_,rfl,by simp⟩ ?_
 refine a0a (a0E _ _) ?_
 exact a0c rfl ⟨l1,rfl⟩
theorem b3n (hT:Tb H) (hw:SG H w es) (hg:GV n es) (hwt:SI H wts wl) (hu:SI H u p) (hb:bdE n wl lo hi ds=0):a3M prog 24 [gv n w,bv wts lo hi ds,u] H (.bool (a3L n es wl lo hi ds p)):=by
 refine a0b mixed d1i (by kernel_rfl) rfl ?_
 refine a0a (a0T hw) ?_
 refine a0a (a2J (a0z hwt) _ _ _) ?_
 refine a0n (a8r (lo:=lo) (hi:=hi) (ds:=ds) hT hw hg hwt hu) rfl fun H1 l1=> ?_
 simp only[cA,nA]
 rw[hb]
 refine a0a ⟨_,rfl,by simp⟩ ?_
 refine a0a ⟨_,rfl,by simp⟩ ?_
 refine a0a ⟨_,rfl⟩ ?_
 refine a0e (b:=decide ((0:Int)=0)&&a3L n es wl lo hi ds p) rfl (fun hf=> ?_) (fun hf=> ?_)
 ·skip
  have hf:a3L n es wl lo hi ds p=true:=by simpa using hf
  refine a0a ⟨_,rfl⟩ ?_
  exact a0c rfl ⟨l1,by rw[hf];rfl⟩
 ·skip
  have hf:a3L n es wl lo hi ds p=false:=by simpa using hf
  exact a0c rfl ⟨l1,by rw[hf];rfl⟩
theorem c3y {c:Nat} (hT:Tb H) (hw:SG H w es) (hg:GV n es) (hwt:SI H wts wl) (hu:SI H u p) (hb:bdE n wl lo hi ds=0) (hf:a3L n es wl lo hi ds p=false):a3M prog 19 [gv n w,bv wts lo hi ds,u,chV c] H (.tuple #[.slice none 0 0,.bool false,chV 0,ii 8]):=by
 refine a0b mixed c5W (by kernel_rfl) rfl ?_
 have hbd:=a9J hb
 refine a0a (a0T hw) ?_
 refine a0a (a2J (a0z hwt) _ _ _) ?_
 refine a0a (d0w c) ?_
 refine a0n (a5x hw hg hwt) rfl fun H1 l1=> ?_
 simp only[cA,nA]
 refine a0a ⟨_,rfl⟩ ?_
 refine a0j (by show Value.bool (bdE n wl lo hi ds !=0)=_;rw[hb];rfl) ?_
 refine a1G (cs:=rwc wts lo hi ds n w c 0) (by show(Value.agg ((Value.agg ((bv wts lo hi ds).cells++(gv n w).cells)).cells++(Value.agg ((chV c).cells++(a0I prog 43).cells)).cells)).cells=_;rw[d6Q];rfl) fun bw hbw=> ?_
 simp only[cA,nA]
 have l1B:=l1.trans (PH.le_put hbw (RwO wts lo hi ds n w c 0))
 have hBb:(H1.put bw (RwO wts lo hi ds n w c 0)) bw=some (RwO wts lo hi ds n w c 0):=PH.put_self _ _ _
 have hchB:Chn (H1.put bw (RwO wts lo hi ds n w c 0)) n w wts es wl:=⟨hT.mono l1B,hw.mono l1B,hg,hwt.mono l1B,hbd.1,hbd.2.2.2.2.2⟩
 refine d4v (ad:=⟨bw,0,none⟩) rfl rfl rfl ?_
 simp only[cA,nA]
 refine a2H d7c rfl rfl rfl ?_
 simp only[cA,nA]
 refine a8i (vs:=[wts,ii lo,ii hi,ii ds,ii n,w]) d4D rfl rfl hBb rfl (show 0+0+6<=8 by omega) rfl ?_
 simp only[cA,nA]
 refine a0n (a8q (lo:=lo) (hi:=hi) (ds:=ds) hchB (hu.mono l1B)) rfl fun H2 l2=> ?_
 simp only[cA,nA]
 rw[hf]
 refine a0a ⟨_,rfl⟩ ?_
 refine a1p rfl ?_
 exact a0c (by show Value.tuple #[.slice none 0 0,.bool false,a0I prog _,ii 8]=_;rw[d4w]) ⟨l1B.trans l2,rfl⟩
theorem c3z {ρ:List Value} {x y:SV} {o m:Nat} {a:Array Value} {b:Value} (hx:D prog ρ x= .agg a) (hy:D prog ρ y=b):D prog ρ (.put x o m y 0 noI)= .agg (spl a o b.cells.toList):=by
 show Value.agg (spl (D prog ρ x).cells (o+0*a2r (D prog ρ noI)) (D prog ρ y).cells.toList)=_
 rw[hx,hy,Nat.zero_mul];rfl
theorem d7L {ρ:List Value} {x:SV} {s:Slc} (hx:D prog ρ x=vs s):D prog ρ (.cat x 1 (.cat (.z 3) 1 (.cat (.z 3) 1 (.z 3))))=bv (vs s) 0 0 0:=by
 have hz:D prog ρ (.z 3)=ii 0:=b8b
 rw[b8n hx (b8n hz (b8n hz hz))];rfl
theorem d6b {ρ:List Value} {x y:SV} {s:Slc} {low:Int} (hx:D prog ρ x=vs s) (hy:D prog ρ y=ii low):
  D prog ρ (.put (.cat (.sub (.put (.cat x 1 (.cat (.z 3) 1 (.cat (.z 3) 1 (.z 3)))) 1 1 y 0 noI) 0 2 0 noI) 2 (.cat (.k (.int .i64 3)) 1 (.sub (.put (.cat x 1 (.cat (.z 3) 1 (.cat (.z 3) 1 (.z 3)))) 1 1 y 0 noI) 3 1 0 noI))) 3 1 (.k (.int .i64 2)) 0 noI)=bv (vs s) low 3 2:=by
 have h1:D prog ρ (.put (.cat x 1 (.cat (.z 3) 1 (.cat (.z 3) 1 (.z 3)))) 1 1 y 0 noI)=bv (vs s) low 0 0:=by
  rw[c3z (d7L hx) hy];rfl
 have h2:D prog ρ (.cat (.sub (.put (.cat x 1 (.cat (.z 3) 1 (.cat (.z 3) 1 (.z 3)))) 1 1 y 0 noI) 0 2 0 noI) 2 (.cat (.k (.int .i64 3)) 1 (.sub (.put (.cat x 1 (.cat (.z 3) 1 (.cat (.z 3) 1 (.z 3)))) 1 1 y 0 noI) 3 1 0 noI)))=bv (vs s) low 3 0:=by
  rw[b8n (d5k h1) (b8n (show D prog ρ (.k (.int .i64 3))=ii 3 from rfl) (d5k h1))];rfl
 rw[c3z h2 (show D prog ρ (.k (.int .i64 2))=ii 2 from rfl)];rfl
theorem b7e (low:Int):Con prog 35 [ii low] H fun r H'=>PH.le H H'/\∃w wts,r= .tuple #[gv 4 w,bv wts low 3 2]/\SG H' w es3/\SI H' wts wl1:=by
 refine a0b mixed d1h (by kernel_rfl) rfl ?_
 refine a0X el_edge (l:=es3) (vs:=[ev2 (0,1),ev2 (1,2),ev2 (2,3)]) rfl (by decide) (by decide) rfl rfl (a8T (c6x (a:=0) (b:=1) rfl rfl) (c6x (a:=1) (b:=2) rfl rfl) (c6x (a:=2) (b:=3) rfl rfl)) fun v H1 l1 o1 _=> ?_
 simp only[cA,nA]
 obtain⟨sa,rfl⟩:=a4e o1.se
 refine a0a o1.se.one ?_
 refine a0X el_int (l:=wl1) (vs:=[ii 1,ii 1,ii 1,ii 1]) rfl (by decide) (by decide) rfl rfl rfl fun v2 H2 l2 o2 _=> ?_
 simp only[cA,nA]
 obtain⟨sb,rfl⟩:=a4e o2.se
 refine a0a o2.se.one ?_
 refine a0a (b2Y low) ?_
 refine a0a (by show(D prog _ (.put _ 3 1 _ 0 noI)).cells.size=4/\_;rw[d6b (s:=sb) (low:=low) rfl rfl];exact a2J (a0z o2.se) _ _ _) ?_
 exact a0c (by show Value.tuple #[_,D prog _ (.put _ 3 1 _ 0 noI)]=_;rw[d6b (s:=sb) (low:=low) rfl rfl];rfl) ⟨l1.trans l2,_,_,rfl,o1.se.mono l2,o2.se⟩
end
end Go.Proofs.YtmannekkmdockaaGreatDoor
/- Chapter 32: works returns true. -/
namespace Go.Proofs.YtmannekkmdockaaGreatDoor
open Go.Proofs.Tryz
open Go.RowKit Go.RX Go.GS Go.RZ
open Go.WD (BP a1E wd iw rs toI HM sgI Rb a8Y)
set_option maxRecDepth 100000
theorem d7l {ρ:List Value}:D prog ρ (.cat (.k (.int .i64 13)) 1 (.z 35))=gv 13 (.slice none 0 0):=by
 have hz:D prog ρ (.z 35)= .slice none 0 0:=d7D
 rw[b8n (show D prog ρ (.k (.int .i64 13))=ii 13 from rfl) hz];rfl
theorem d7m {ρ:List Value} {x:SV} {s:Slc} (hx:D prog ρ x=vs s):D prog ρ (.put (.cat x 1 (.cat (.z 3) 1 (.cat (.z 3) 1 (.z 3)))) 3 1 (.k (.int .i64 1)) 0 noI)=bv (vs s) 0 0 1:=by
 rw[c3z (d7L hx) (show D prog ρ (.k (.int .i64 1))=ii 1 from rfl)];rfl
theorem d8i:GV 13 []:=⟨by decide,by decide,by decide,by simp,List.Pairwise.nil⟩
theorem d8j:smE 13 [] (List.replicate 13 0) 0 0 1 [[]]=3:=by
 have hb:bdE 13 (List.replicate 13 0) 0 0 1=0:=by decide
 unfold smE
 rw[if_neg (by rw[hb];simp),if_pos (by decide)]
theorem c3A (H:PH) {α:Type} (sz:Nat) (ce:α->List Value):SE H sz ce (.slice none 0 0) ([]:List α):=(SO.nil H H 0 sz ce).se
theorem rg3:Rg (1/3)/\Rg 1:=⟨⟨256,by decide,rb3.1⟩,⟨256,by decide,rb3.2⟩⟩
theorem tell3:a3x (1/3)= .tuple #[shR (1/3),ii 0]/\a3x 1= .tuple #[shR 1,ii 0]:=⟨a4W rg3.1,a4W rg3.2⟩
theorem div3:Rat.divInt 1 3=1/3/\Rat.divInt 1 1=1:=by decide+kernel
theorem goR3:goR 4 es3 wl1 1 3 2 [0,0,1,1] [1,1,1,0]= .tuple #[shR (1/3),ii 0]/\goR 4 es3 wl1 2 3 2 [0,0,1,1] [0,0,1,1]= .tuple #[shR 1,ii 0]:=by
 obtain⟨f1,f2,f3,f4,f5⟩:=d7g
 have s1:=a5Q (k:=2) bd3.1 (by decide) [[0,0,1,1],[1,1,1,0]] (fun p hp=>by
  simp only[List.mem_cons,List.not_mem_nil,or_false]at hp
  rcases hp with rfl|rfl
  ·exact f3
  ·exact f5)
 have s2:=a5Q (k:=2) bd3.2 (by decide) [[0,0,1,1],[0,0,1,1]] (fun p hp=>by
  simp only[List.mem_cons,List.not_mem_nil,or_false,or_self]at hp
  subst hp;exact f4)
 unfold goR
 have s1':smE 4 es3 wl1 1 3 2 [[0,0,1,1],[1,1,1,0]]=0:=s1
 have s2':smE 4 es3 wl1 2 3 2 [[0,0,1,1],[0,0,1,1]]=0:=s2
 rw[if_neg (by rw[s1'];simp),if_neg (by rw[s2'];simp)]
 exact⟨by rw[show((2:Int)).toNat=2 from rfl,go3.1];exact tell3.1,by rw[show((2:Int)).toNat=2 from rfl,go3.2];exact tell3.2⟩
theorem d8k {H:PH} {r:Value} (h:d2D H 4 es3 wl1 1 3 2 [0,0,1,1] r):∃(pv ov:Value) (m:List Slc) (cont:Slc->List Int),r= .tuple #[pv,ov,ii 0]/\SE H 1 (fun s:Slc=>[vs s]) pv m/\m.map cont=[[0,0,0,1],[0,0,1,1],[0,1,1,1]]/\(∀s∈m,SI H (vs s) (cont s))/\SE H 16 shc ov ([1/3,1/3,1/3].map tpr):=by
 obtain⟨f1,f2,f3,f4,f5⟩:=d7g
 have s1:=a5Q (k:=2) bd3.1 (by decide) [[0,0,1,1]] (fun p hp=>by rw[List.mem_singleton.1 hp];exact f3)
 have hc:a0x [0,0,1,1]=[0,0,1,1]:=by decide
 unfold d2D at h
 rw[show((2:Int)).toNat=2 from rfl,hc]at h
 rcases h with⟨h1,_⟩|⟨_,ps,h2,h3,h4⟩
 ·exact absurd s1 h1
 ·have hps:=d8h h2 h3
  have hv:∀q∈ps,vO (a1Z es3 wl1 1 3 4 2 [0,0,1,1]) (a0r q)=1/3:=fun q hq=>d7i (hps ▸ hq)
  rcases h4 with⟨_,pv,ov,m,cont,a1,a2,a3,a4,a5⟩|⟨⟨q,hq,h5⟩,_⟩
  ·refine⟨pv,ov,m,cont,a1,a2,a3.trans hps,a4,?_⟩
   have e:(ps.map fun q=>tpr (vO (a1Z es3 wl1 1 3 4 2 [0,0,1,1]) (a0r q)))=[1/3,1/3,1/3].map tpr:=by
    rw[List.map_congr_left (g:=fun _=>tpr (1/3)) (fun q hq=>by rw[hv q hq]),hps];rfl
   rw[<-e];exact a5
  ·rw[hv q hq,c8w rb3.1]at h5;cases h5
theorem c3B {H:PH} (hT:Tb H):a3M prog 7 [] H (.bool true):=by
 refine a0b mixed d1j (by kernel_rfl) rfl ?_
 obtain⟨f1,f2,f3,f4,f5⟩:=d7g
 refine a0d (b7e 1) rfl ?_
 rintro _ H1 ⟨l1,w,wts,rfl,hw,hwt⟩
 refine⟨fun h=>(nomatch h),?_⟩
 simp only[cA,nA]
 refine a0a ⟨_,rfl,by simp⟩ ?_
 refine a0a ⟨_,rfl,by simp⟩ ?_
 refine a0a (a0T hw) ?_
 refine a0a (a2J (a0z hwt) _ _ _) ?_
 refine a0d (b7e 2) rfl ?_
 rintro _ H2 ⟨l2,w2,wts2,rfl,hw2,hwt2⟩
 refine⟨fun h=>(nomatch h),?_⟩
 simp only[cA,nA]
 refine a0a ⟨_,rfl,by simp⟩ ?_
 refine a0a ⟨_,rfl,by simp⟩ ?_
 refine a0a (a0T hw2) ?_
 refine a0a (a2J (a0z hwt2) _ _ _) ?_
 refine a0X el_plan (l:=[0,0,1,1]) rfl (by decide) (by decide) rfl rfl rfl fun v2 H3 l3 o3 _=> ?_
 simp only[cA,nA]
 refine a0X el_plan (l:=[0,1,0,1]) rfl (by decide) (by decide) rfl rfl rfl fun v3 H4 l4 o4 _=> ?_
 simp only[cA,nA]
 have l14:=l2.trans (l3.trans l4)
 refine a0n (a8r (lo:=1) (hi:=3) (ds:=2) (hT.mono (l1.trans l14)) (hw.mono l14) gv3 (hwt.mono l14) o4.se) rfl fun H5 l5=> ?_
 simp only[cA,nA]
 rw[bd3.1,f1]
 refine a0a ⟨_,rfl,by simp⟩ ?_
 refine a0a ⟨_,rfl,by simp⟩ ?_
 refine a0X el_plan (l:=[0,0,0,0]) rfl (by decide) (by decide) rfl rfl rfl fun v5 H6 l6 o6 _=> ?_
 simp only[cA,nA]
 have l16:=l14.trans (l5.trans l6)
 refine a0n (a8r (lo:=1) (hi:=3) (ds:=2) (hT.mono (l1.trans l16)) (hw.mono l16) gv3 (hwt.mono l16) o6.se) rfl fun H7 l7=> ?_
 simp only[cA,nA]
 rw[bd3.1,f2]
 refine a0a ⟨_,rfl,by simp⟩ ?_
 refine a0a ⟨_,rfl,by simp⟩ ?_
 refine a0X el_int (l:=[0,1,2]) rfl (by decide) (by decide) rfl rfl rfl fun v7 H8 l8 o8 _=> ?_
 simp only[cA,nA]
 have l18:=l16.trans (l7.trans l8)
 refine a0d (b6j (lo:=1) (hi:=3) (ds:=2) (set:=15) (hT.mono (l1.trans l18)) (hw.mono l18) gv3 (hwt.mono l18) o8.se (by decide)) rfl ?_
 rintro _ H9 ⟨l9,v8,lb,e8,rfl,h8,he8,hl8⟩
 refine⟨fun h=>(nomatch h),?_⟩
 simp only[cA,nA]
 rw[bd3.1,if_neg (by decide),b6h (by decide) d2G]at he8
 subst he8
 rw[if_neg (by decide),bal3.1]at hl8
 subst hl8
 refine a0a ⟨_,rfl,by simp⟩ ?_
 refine a0a ⟨_,rfl,by simp⟩ ?_
 refine a0X el_int (l:=[0,1,2]) rfl (by decide) (by decide) rfl rfl rfl fun v9 H10 l10 o10 _=> ?_
 simp only[cA,nA]
 have la:=l18.trans (l9.trans l10)
 have l2a:PH.le H2 H10:=(l3.trans l4).trans ((l5.trans l6).trans ((l7.trans l8).trans (l9.trans l10)))
 refine a0d (b6j (lo:=2) (hi:=3) (ds:=2) (set:=15) (hT.mono (l1.trans la)) (hw.mono la) gv3 (hwt2.mono l2a) o10.se (by decide)) rfl ?_
 rintro _ H11 ⟨l11,v10,lc,e10,rfl,h10,he10,hl10⟩
 refine⟨fun h=>(nomatch h),?_⟩
 simp only[cA,nA]
 rw[bd3.2,if_neg (by decide),b6h (by decide) d2G]at he10
 subst he10
 rw[if_neg (by decide),bal3.2]at hl10
 subst hl10
 have lb:=la.trans l11
 have l3b:PH.le H3 H11:=l4.trans ((l5.trans l6).trans ((l7.trans l8).trans ((l9.trans l10).trans l11)))
 refine a0a ⟨_,rfl,by simp⟩ ?_
 refine a0a ⟨_,rfl,by simp⟩ ?_
 refine a0n (b3n (lo:=1) (hi:=3) (ds:=2) (hT.mono (l1.trans lb)) (hw.mono lb) gv3 (hwt.mono lb) (o3.se.mono l3b) bd3.1) rfl fun H12 l12=> ?_
 simp only[cA,nA]
 rw[f3]
 refine a0a ⟨_,rfl⟩ ?_
 refine a0j rfl ?_
 refine a0a ⟨_,rfl⟩ ?_
 refine a0j rfl ?_
 refine a0a ⟨_,rfl⟩ ?_
 refine a0j rfl ?_
 refine a0a ⟨_,rfl⟩ ?_
 refine a0j rfl ?_
 refine a0a ⟨_,rfl⟩ ?_
 refine a0j rfl ?_
 refine a0X el_int (l:=[0,1,2]) rfl (by decide) (by decide) rfl rfl rfl fun v12 H13 l13 o13 _=> ?_
 simp only[cA,nA]
 have l9d:=((l10.trans l11).trans l12).trans l13
 refine a0P (b5X (h8.mono l9d) o13.se) rfl ?_
 simp only[cA,nA]
 refine a0a ⟨_,rfl⟩ ?_
 refine a0j rfl ?_
 refine a0a ⟨_,rfl⟩ ?_
 refine a0j rfl ?_
 refine a1X el_int (a:=1) rfl rfl rfl fun v14 H14 l14' o14 _=> ?_
 simp only[cA,nA]
 refine a0P (b5X (h10.mono ((l12.trans l13).trans l14')) o14.se) rfl ?_
 simp only[cA,nA]
 refine a0a ⟨_,rfl⟩ ?_
 refine a0j rfl ?_
 refine a0a ⟨_,rfl⟩ ?_
 refine a0j rfl ?_
 have le:=lb.trans ((l12.trans l13).trans l14')
 have l3e:=l3b.trans ((l12.trans l13).trans l14')
 refine a0d (a8P (lo:=1) (hi:=3) (ds:=2) (hT.mono (l1.trans le)) (hw.mono le) gv3 (hwt.mono le) (o3.se.mono l3e)) rfl ?_
 rintro v16 H15 ⟨l15,hO⟩
 refine⟨fun h=>(nomatch h),?_⟩
 simp only[cA,nA]
 obtain⟨pv,ov,m,cont,rfl,hpv,hmc,hmS,hov⟩:=d8k hO
 refine a0a ⟨_,rfl,by simp⟩ ?_
 refine a0a ⟨_,rfl,by simp⟩ ?_
 refine a0a ⟨_,rfl,by simp⟩ ?_
 refine a0n (c3x (by decide) (by decide) (by decide) (by decide) (by decide) div3.1 rg3.1) rfl fun H16 l16'=> ?_
 simp only[cA,nA]
 refine a0a (a0E _ _) ?_
 refine a0X el_plan (l:=[1,1,1,0]) rfl (by decide) (by decide) rfl rfl rfl fun v18 H17 l17 o17 _=> ?_
 simp only[cA,nA]
 have lf:=le.trans (l15.trans (l16'.trans l17))
 have l3f:=l3e.trans (l15.trans (l16'.trans l17))
 refine a0d (b4L (lo:=1) (hi:=3) (ds:=2) (hT.mono (l1.trans lf)) (hw.mono lf) gv3 (hwt.mono lf) (o3.se.mono l3f) o17.se) rfl ?_
 rintro v19 H18 ⟨l18',hv19⟩
 refine⟨fun h=>(nomatch h),?_⟩
 simp only[cA,nA]
 rw[goR3.1]at hv19
 subst hv19
 refine a0a ⟨_,rfl,by simp⟩ ?_
 refine a0a ⟨_,rfl,by simp⟩ ?_
 refine a0a (a0E _ _) ?_
 have lg:=lf.trans l18'
 have l3g:=l3f.trans l18'
 have l2g:=l3.trans l3g
 refine a0d (b4L (lo:=2) (hi:=3) (ds:=2) (hT.mono (l1.trans lg)) (hw.mono lg) gv3 (hwt2.mono l2g) (o3.se.mono l3g) (o3.se.mono l3g)) rfl ?_
 rintro v20 H19 ⟨l19,hv20⟩
 refine⟨fun h=>(nomatch h),?_⟩
 simp only[cA,nA]
 rw[goR3.2]at hv20
 subst hv20
 refine a0a ⟨_,rfl,by simp⟩ ?_
 refine a0a ⟨_,rfl,by simp⟩ ?_
 refine a0a (a0E _ _) ?_
 refine a0X el_plan (l:=[0,1,0,1]) rfl (by decide) (by decide) rfl rfl rfl fun v21 H20 l20 o20 _=> ?_
 simp only[cA,nA]
 have lh:=lg.trans (l19.trans l20)
 refine a0n (c3y (lo:=1) (hi:=3) (ds:=2) (c:=0) (hT.mono (l1.trans lh)) (hw.mono lh) gv3 (hwt.mono lh) o20.se bd3.1 f1) (d3a rfl rfl rfl d4w) fun H21 l21=> ?_
 simp only[cA,nA]
 refine a0a ⟨_,rfl,by simp⟩ ?_
 refine a0a ⟨_,rfl,by simp⟩ ?_
 refine a0a ⟨_,rfl,by simp⟩ ?_
 refine a0a ⟨_,rfl,by simp⟩ ?_
 refine a3j el_int (z:=(0:Int)) b8b rfl rfl rfl (by decide) rfl fun v23 H22 l22 o22 _=> ?_
 simp only[cA,nA]
 obtain⟨s23,rfl⟩:=a4e o22.se
 refine a0a o22.se.one ?_
 have li:=lh.trans (l21.trans l22)
 refine a0d (a8P (n:=13) (w:= .slice none 0 0) (es:=[]) (wts:=vs s23) (wl:=List.replicate 13 0) (lo:=0) (hi:=0) (ds:=1) (u:= .slice none 0 0) (p:=[]) (hT.mono (l1.trans li)) (c3A _ _ _) d8i o22.se (c3A _ _ _)) (a8T d7l (d7m rfl) rfl) ?_
 rintro v24 H23 ⟨l23,hO2⟩
 refine⟨fun h=>(nomatch h),?_⟩
 simp only[cA,nA]
 unfold d2D at hO2
 rw[d8j]at hO2
 obtain⟨_,rfl⟩:=hO2.resolve_right (fun h=>absurd h.1 (by decide))
 refine a0a ⟨_,rfl,by simp⟩ ?_
 refine a0a ⟨_,rfl,by simp⟩ ?_
 refine a0a ⟨_,rfl,by simp⟩ ?_
 refine a0a ⟨_,rfl⟩ ?_
 refine a1p rfl ?_
 have ln:=(l16'.trans l17).trans ((l18'.trans l19).trans ((l20.trans l21).trans (l22.trans l23)))
 refine a8C el_plan (l:=[0,0,0,1]) rfl (by decide) (by decide) rfl rfl rfl fun v25 K1 k1 q1=> ?_
 simp only[cA,nA]
 refine a8C el_plan (l:=[0,0,1,1]) rfl (by decide) (by decide) rfl rfl rfl fun v26 K2 k2 q2=> ?_
 simp only[cA,nA]
 refine a8C el_plan (l:=[0,1,1,1]) rfl (by decide) (by decide) rfl rfl rfl fun v27 K3 k3 q3=> ?_
 simp only[cA,nA]
 obtain⟨sa,rfl⟩:=a4e q1.se
 obtain⟨sb,rfl⟩:=a4e q2.se
 obtain⟨sc,rfl⟩:=a4e q3.se
 refine a8C a2e (l:=[sa,sb,sc]) rfl (by simp) (by simp) rfl rfl rfl fun v28 K4 k4 q4=> ?_
 simp only[cA,nA]
 have kk:=ln.trans (((k1.trans k2).trans k3).trans k4)
 have hcs:∀s∈[sa,sb,sc],SI K4 (vs s) (a3N K4 s):=fun s hs=>by
  simp only[List.mem_cons,List.not_mem_nil,or_false]at hs
  rcases hs with rfl|rfl|rfl
  ·have h:=q1.se.mono ((k2.trans k3).trans k4);rw[a2p h];exact h
  ·have h:=q2.se.mono (k3.trans k4);rw[a2p h];exact h
  ·have h:=q3.se.mono k4;rw[a2p h];exact h
 have hcm:[sa,sb,sc].map (a3N K4)=[[0,0,0,1],[0,0,1,1],[0,1,1,1]]:=by
  simp only[List.map_cons,List.map_nil]
  rw[a2p (q1.se.mono ((k2.trans k3).trans k4)),a2p (q2.se.mono (k3.trans k4)),a2p (q3.se.mono k4)]
 refine a0P (b8v (hpv.mono kk) q4.se (fun s hs=>(hmS s hs).mono kk) hcs) rfl ?_
 simp only[cA,nA]
 refine a0a ⟨_,rfl⟩ ?_
 refine a1p (by show Value.bool (decide (m.map cont=[sa,sb,sc].map (a3N K4)))=_;rw[hmc,hcm,decide_eq_true rfl]) ?_
 refine a8C a4j (l:=[tpr (1/3),tpr (1/3),tpr (1/3)]) rfl (by decide) (by decide) rfl rfl rfl fun v30 K5 k5 q5=> ?_
 simp only[cA,nA]
 refine a0P (c7k (l:=[1/3,1/3,1/3]) (m:=[1/3,1/3,1/3]) (hov.mono (kk.trans k5)) q5.se (fun r hr=>by simp only[List.mem_cons,List.not_mem_nil,or_false,or_self]at hr;subst hr;exact rg3.1) (fun r hr=>by simp only[List.mem_cons,List.not_mem_nil,or_false,or_self]at hr;subst hr;exact rg3.1)) rfl ?_
 simp only[cA,nA]
 refine a0a ⟨_,rfl⟩ ?_
 refine a1p rfl ?_
 refine a0g ((c7O rg3.1 rg3.1 rfl (fun _ _=>rfl) (fun _ _=>rfl)).rds _) rfl ?_
 simp only[cA,nA]
 refine a0a ⟨_,rfl⟩ ?_
 refine a1p rfl ?_
 refine a0a ⟨_,rfl⟩ ?_
 refine a1p rfl ?_
 refine a0n (c3x (by decide) (by decide) (by decide) (by decide) (by decide) div3.2 rg3.2) rfl fun K6 k6=> ?_
 simp only[cA,nA]
 refine a0g ((c7O rg3.2 rg3.2 rfl (fun _ _=>rfl) (fun _ _=>rfl)).rds _) rfl ?_
 simp only[cA,nA]
 refine a0a ⟨_,rfl⟩ ?_
 refine a1p rfl ?_
 refine a0a ⟨_,rfl⟩ ?_
 refine a1p rfl ?_
 refine a0a ⟨_,rfl⟩ ?_
 refine a1p rfl ?_
 refine a0a ⟨_,rfl⟩ ?_
 exact a0c rfl ⟨l1.trans (le.trans (l15.trans (kk.trans (k5.trans k6)))),rfl⟩
end Go.Proofs.YtmannekkmdockaaGreatDoor

/- Package share: fractions in memory. -/
import Derived.Test.YtmannekkmdockaaGreatDoorShA
import Derived.Test.YtmannekkmdockaaGreatDoorGuF
import Derived.Test.YtmannekkmdockaaGreatDoorGyH
namespace Go.Proofs.YtmannekkmdockaaGreatDoor
open Go.Proofs.Tryz
open Go.RowKit Go.RX Go.WD
def shv (n d:Nat):Value:= .agg (words n++words d)
theorem a1O (a b:Nat):(words a++words b).size=16/\a0t (words a++words b):=by
 refine⟨by rw[Array.size_append,words_size,words_size],fun c hc=> ?_⟩
 rw[Array.toList_append,List.mem_append]at hc
 rcases hc with h|h
 ·exact words_one a c h
 ·exact words_one b c h
theorem d0o (a b:Nat):(words a++words b).extract 0 8=words a:=by
 apply Array.ext'
 simp[words_size,List.take_of_length_le]
theorem d0p (a b:Nat):(words a++words b).extract 8 16=words b:=by
 apply Array.ext'
 simp[words_size,List.take_of_length_le]
theorem d6m (a b:Nat):Value.agg ((words a++words b).extract 0 8)=wd a:=by rw[d0o];rfl
theorem d6n (a b:Nat):Value.agg ((words a++words b).extract 8 16)=wd b:=by rw[d0p];rfl
def a4g (r:Rat):Value:=if(-(HM:Int)<=r.num/\r.num<HM)/\(r.den:Int)<HM then .tuple #[shv (rs r.num) (rs (r.den:Int)),.int .i64 0]else .tuple #[shv 0 0,.int .i64 6]
theorem b0C:Value.agg ((a0L prog 56).cells++(a0L prog 56).cells)=shv 0 0:=by rw[a6e];rfl
section
variable {H:PH} {x y:Value} {p q:Int} {r s:Rat} {j k:Nat}
theorem a9d (hx:Lw H x p):Con prog 101 [x] H fun u H'=>PH.le H H'/\Rp H' u (p:Rat):=by
 have r0:=hx.rq
 obtain⟨w,rfl,n0⟩:=hx
 refine a0b mixed c1o (by kernel_rfl) rfl (a0a r0 (a0d (a3a 1 (by omega) (by omega)) rfl ?_))
 rintro u1 H1 ⟨l1,hu1⟩
 have r1:=hu1.rq
 obtain⟨w1,rfl,n1⟩:=hu1
 exact⟨fun _=>l1,a0a r1 (a0c rfl ⟨l1,w,w1,rfl,n0.mono l1,n1⟩)⟩
set_option maxRecDepth 100000 in
theorem a4e (hx:Rp H x r):Con prog 52 [x] H fun u H'=>PH.le H H'/\u=a4g r:=by
 have r0:=hx.rq
 obtain⟨w1,w2,rfl,n1,n2⟩:=hx
 have hL1:Lw H (.agg #[.bool (decide (r.num<0)),w1]) r.num:=⟨w1,rfl,n1⟩
 refine a0b mixed c1p (by kernel_rfl) rfl (a0a r0 (a0d (a5f hL1) rfl ?_))
 rintro u1 H1 ⟨l1,rfl⟩
 have hL2:=Lw.den (n2.mono l1)
 have hd0:0<=(r.den:Int):=by omega
 have hHM:=b1y
 unfold a4g
 by_cases f1: -(HM:Int)<=r.num/\r.num<HM
 ·rw[b1J f1]
  simp only[cA,nA]
  refine⟨fun h=>(nomatch h),a0a ⟨_,rfl,Nat.zero_lt_succ _⟩ (a0a ⟨_,rfl,Nat.lt_succ_self _⟩ (a0a ⟨words_size _,words_one _⟩ (a0d (a5f hL2) rfl ?_)))⟩
  rintro u2 H2 ⟨l2,rfl⟩
  by_cases f2:(r.den:Int)<HM
  ·rw[b1J (show -(HM:Int)<=(r.den:Int)/\(r.den:Int)<HM by omega),if_pos ⟨f1,f2⟩]
   simp only[cA,nA]
   refine⟨fun h=>(nomatch h),a0a ⟨_,rfl,Nat.zero_lt_succ _⟩ (a0a ⟨_,rfl,Nat.lt_succ_self _⟩ (a0a ⟨words_size _,words_one _⟩ ⟨fun vals H'=>vals=[.bool false]/\H'=H2,a0a ⟨_,rfl⟩ (a0j rfl (a0a ⟨_,rfl⟩ ⟨rfl,rfl⟩)),?_⟩))⟩
   rintro vals H3-⟨rfl,rfl⟩
   exact a0a ⟨_,rfl⟩ (a0j rfl (a0c rfl ⟨l1.trans l2,rfl⟩))
  ·rw[a9W (show ¬(-(HM:Int)<=(r.den:Int)/\(r.den:Int)<HM) by omega),if_neg (fun h=>f2 h.2)]
   simp only[cA,nA]
   refine⟨fun h=>(nomatch h),a0a ⟨_,rfl,Nat.zero_lt_succ _⟩ (a0a ⟨_,rfl,Nat.lt_succ_self _⟩ (a0a ⟨words_size _,words_one _⟩ ⟨fun vals H'=>vals=[.bool true]/\H'=H2,a0a ⟨_,rfl⟩ (a0j rfl (a0a ⟨_,rfl⟩ ⟨rfl,rfl⟩)),?_⟩))⟩
   rintro vals H3-⟨rfl,rfl⟩
   exact a0a ⟨_,rfl⟩ (a1u rfl (a0c (congrArg (fun z=>Value.tuple #[z,.int .i64 6]) b0C) ⟨l1.trans l2,rfl⟩))
 ·rw[a9W f1,if_neg (fun h=>f1 h.1)]
  simp only[cA,nA]
  refine⟨fun h=>(nomatch h),a0a ⟨_,rfl,Nat.zero_lt_succ _⟩ (a0a ⟨_,rfl,Nat.lt_succ_self _⟩ (a0a ⟨words_size _,words_one _⟩ (a0d (a5f hL2) rfl ?_)))⟩
  rintro u2 H2 ⟨l2,rfl⟩
  obtain⟨m,e,ht⟩:=a4R (r.den:Int)
  rw[ht]
  simp only[cA,nA]
  refine⟨fun h=>(nomatch h),a0a ⟨_,rfl,Nat.zero_lt_succ _⟩ (a0a ⟨_,rfl,Nat.lt_succ_self _⟩ (a0a ⟨words_size _,words_one _⟩ ⟨fun vals H'=>vals=[.bool true]/\H'=H2,a0a ⟨_,rfl⟩ (a1u rfl ⟨rfl,rfl⟩),?_⟩))⟩
  rintro vals H3-⟨rfl,rfl⟩
  exact a0a ⟨_,rfl⟩ (a1u rfl (a0c (congrArg (fun z=>Value.tuple #[z,.int .i64 6]) b0C) ⟨l1.trans l2,rfl⟩))
theorem Rp.out {v:Value} (h:Rp H v r):∃w1 w2,v= .agg #[.bool (decide (r.num<0)),w1,.bool false,w2]/\Lw H (.agg #[.bool (decide (r.num<0)),w1]) r.num/\Lw H (.agg #[.bool false,w2]) (r.den:Int):=by
 obtain⟨w1,w2,rfl,n1,n2⟩:=h
 exact⟨w1,w2,rfl,⟨w1,rfl,n1⟩,Lw.den n2⟩
theorem d3Q (r s:Rat):(r.den:Int)*s.den≠0:=Int.mul_ne_zero (by have:=r.den_nz;omega) (by have:=s.den_nz;omega)
theorem b2F {k:Nat} (h:r.den<2^k):((r.den:Nat):Int).natAbs<2^k:=by rw[b3O];exact h
theorem b7o (hx:Rp H x r) (hy:Rp H y s) (hr:Rb j r) (hs:Rb k s) (hjk:j+k+1<=320000):Con prog 77 [x,y] H fun u H'=>PH.le H H'/\Rp H' u (r+s):=by
 have r1:=hx.rq
 have r2:=hy.rq
 obtain⟨w1,w2,rfl,a1,a2⟩:=hx.out
 obtain⟨w3,w4,rfl,b1,b2⟩:=hy.out
 have m1:=a4F hr.1 (b2F hs.2)
 have m2:=a4F hs.1 (b2F hr.2)
 have m3:=a4F (b2F hr.2) (b2F hs.2)
 rw[Nat.add_comm k j]at m2
 have m4:=Lm.add2 m1 m2 (m:=j+k+1) (Nat.le_refl _) (Nat.le_refl _)
 refine a0b mixed c1q (by kernel_rfl) rfl (a0a r1 (a0a r2 (a0d (a1v a1 b2 (Lm.two hr.1 (by omega)) (Lm.two (b2F hs.2) (by omega))) rfl ?_)))
 rintro u1 H1 ⟨l1,hu1⟩
 simp only[cA,nA]
 refine⟨fun _=>l1,a0d (a1v (b1.mono l1) (a2.mono l1) (Lm.two hs.1 (by omega)) (Lm.two (b2F hr.2) (by omega))) rfl ?_⟩
 rintro u2 H2 ⟨l2,hu2⟩
 simp only[cA,nA]
 refine⟨fun _=>l2,a0d (a3N (hu1.mono l2) hu2 (Lm.two m1 (by omega)) (Lm.two m2 (by omega))) rfl ?_⟩
 rintro u3 H3 ⟨l3,hu3⟩
 simp only[cA,nA]
 refine⟨fun _=>l3,a0d (a1v (a2.mono (l1.trans (l2.trans l3))) (b2.mono (l1.trans (l2.trans l3))) (Lm.two (b2F hr.2) (by omega)) (Lm.two (b2F hs.2) (by omega))) rfl ?_⟩
 rintro u4 H4 ⟨l4,hu4⟩
 simp only[cA,nA]
 refine⟨fun _=>l4,a0d (a3s (hu3.mono l4) hu4 (Lm.two m4 hjk) (Lm.two m3 (by omega)) (d3Q r s)) rfl ?_⟩
 rintro u5 H5 ⟨l5,hu5⟩
 rw[d0m]at hu5
 have r5:=hu5.rq
 obtain⟨w5,w6,rfl,n5⟩:=hu5
 exact⟨fun _=>l5,a0a r5 (a0c rfl ⟨l1.trans (l2.trans (l3.trans (l4.trans l5))),w5,w6,rfl,n5⟩)⟩
theorem a7V (hx:Rp H x r) (hy:Rp H y s) (hr:Rb j r) (hs:Rb k s) (hjk:j+k<=320000):Con prog 82 [x,y] H fun u H'=>PH.le H H'/\Rp H' u (r*s):=by
 have r1:=hx.rq
 have r2:=hy.rq
 obtain⟨w1,w2,rfl,a1,a2⟩:=hx.out
 obtain⟨w3,w4,rfl,b1,b2⟩:=hy.out
 have m1:=a4F hr.1 hs.1
 have m3:=a4F (b2F hr.2) (b2F hs.2)
 refine a0b mixed b7n (by kernel_rfl) rfl (a0a r1 (a0a r2 (a0d (a1v a1 b1 (Lm.two hr.1 (by omega)) (Lm.two hs.1 (by omega))) rfl ?_)))
 rintro u1 H1 ⟨l1,hu1⟩
 simp only[cA,nA]
 refine⟨fun _=>l1,a0d (a1v (a2.mono l1) (b2.mono l1) (Lm.two (b2F hr.2) (by omega)) (Lm.two (b2F hs.2) (by omega))) rfl ?_⟩
 rintro u2 H2 ⟨l2,hu2⟩
 simp only[cA,nA]
 refine⟨fun _=>l2,a0d (a3s (hu1.mono l2) hu2 (Lm.two m1 hjk) (Lm.two m3 (by omega)) (d3Q r s)) rfl ?_⟩
 rintro u5 H5 ⟨l5,hu5⟩
 rw[c1u]at hu5
 have r5:=hu5.rq
 obtain⟨w5,w6,rfl,n5⟩:=hu5
 exact⟨fun _=>l5,a0a r5 (a0c rfl ⟨l1.trans (l2.trans l5),w5,w6,rfl,n5⟩)⟩
theorem b7p (hx:Rp H x r) (hy:Rp H y s) (hr:Rb j r) (hs:Rb k s) (hjk:j+k<=320000) (h0:s≠0):Con prog 147 [x,y] H fun u H'=>PH.le H H'/\Rp H' u (r/s):=by
 have r1:=hx.rq
 have r2:=hy.rq
 obtain⟨w1,w2,rfl,a1,a2⟩:=hx.out
 obtain⟨w3,w4,rfl,b1,b2⟩:=hy.out
 have m1:=a4F hr.1 (b2F hs.2)
 have m3:=a4F (b2F hr.2) hs.1
 refine a0b mixed c1r (by kernel_rfl) rfl (a0a r1 (a0a r2 (a0d (a1v a1 b2 (Lm.two hr.1 (by omega)) (Lm.two (b2F hs.2) (by omega))) rfl ?_)))
 rintro u1 H1 ⟨l1,hu1⟩
 simp only[cA,nA]
 refine⟨fun _=>l1,a0d (a1v (a2.mono l1) (b1.mono l1) (Lm.two (b2F hr.2) (by omega)) (Lm.two hs.1 (by omega))) rfl ?_⟩
 rintro u2 H2 ⟨l2,hu2⟩
 simp only[cA,nA]
 refine⟨fun _=>l2,a0d (a3s (hu1.mono l2) hu2 (Lm.two m1 hjk) (Lm.two m3 (by omega)) (Int.mul_ne_zero (by have:=r.den_nz;omega) (fun e=>h0 (Rat.num_eq_zero.1 e)))) rfl ?_⟩
 rintro u5 H5 ⟨l5,hu5⟩
 rw[d0n]at hu5
 have r5:=hu5.rq
 obtain⟨w5,w6,rfl,n5⟩:=hu5
 exact⟨fun _=>l5,a0a r5 (a0c rfl ⟨l1.trans (l2.trans l5),w5,w6,rfl,n5⟩)⟩
theorem b2l (hx:Rp H x r):Con prog 148 [x] H fun u H'=>PH.le H H'/\Rp H' u (-r):=by
 have r1:=hx.rq
 obtain⟨w1,w2,rfl,a1,a2⟩:=hx.out
 refine a0b mixed b3N (by kernel_rfl) rfl (a0a r1 (a0d (a3n a1) rfl ?_))
 rintro u1 H1 ⟨rfl,hu1⟩
 have r5:=hu1.rq
 obtain⟨w5,rfl,n5⟩:=hu1
 obtain⟨w6,e6,n6⟩:=a2
 refine⟨fun _=>PH.le.refl _,a0a r5 (a0c rfl ⟨PH.le.refl _,w5,w2,?_,?_,?_⟩)⟩
 ·show Value.agg (spl ((#[Value.bool (decide (-r.num<0)),w5]:Array Value)++(a0L prog 116).cells) 2 [.bool false,w2])=_
  rw[d3P];rfl
 ·rw[Rat.neg_num];exact n5
 ·rw[Rat.neg_den]
  simp only[Value.agg.injEq,Array.mk.injEq,List.cons.injEq,and_true]at e6
  rw[e6.2]
  exact n6
theorem b3P (hx:Rp H x r) (hy:Rp H y s) (hr:Rb j r) (hs:Rb k s) (hjk:j+k+1<=320000):Con prog 90 [x,y] H fun u H'=>PH.le H H'/\Rp H' u (r-s):=by
 have r1:=hx.rq
 have r2:=hy.rq
 have hx':=hx
 have hy':=hy
 obtain⟨w1,w2,rfl,_⟩:=hx
 obtain⟨w3,w4,rfl,_⟩:=hy
 refine a0b mixed b7m (by kernel_rfl) rfl (a0a r1 (a0a r2 (a0d (b2l hy') rfl ?_)))
 rintro u1 H1 ⟨l1,hu1⟩
 simp only[cA,nA]
 refine⟨fun _=>l1,a0d (b7o (hx'.mono l1) hu1 hr hs.neg hjk) rfl ?_⟩
 rintro u5 H5 ⟨l5,hu5⟩
 rw[<-Rat.sub_eq_add_neg]at hu5
 have r5:=hu5.rq
 obtain⟨w5,w6,rfl,n5⟩:=hu5
 exact⟨fun _=>l5,a0a r5 (a0c rfl ⟨l1.trans l5,w5,w6,rfl,n5⟩)⟩
end
end Go.Proofs.YtmannekkmdockaaGreatDoor
/- Chapter 32: keys of plans; counts of trees as fractions. -/
namespace Go.Proofs.YtmannekkmdockaaGreatDoor
open Go.Proofs.Tryz
open Go.RowKit Go.RX Go.GS Go.RZ
set_option maxRecDepth 100000
def okK (l:List Int):Prop:=l.length=12/\∀z∈l,0<=z/\z<9223372036854775808
def kV (l:List Int):Value:= .agg (l.map ii).toArray
theorem b0D:b2C prog 112:=by
 have big:6<=(prog).types.size+1:=of_decide_eq_true (by kernel_rfl)
 exact⟨by kernel_rfl,by kernel_rfl,by kernel_rfl,by kernel_rfl,by kernel_rfl,big⟩
def kA (l:List Int):List AV:=l.map fun z=> .int .i64 z
theorem c5k {z:Int} (h:0<=z/\z<9223372036854775808) (d:Nat):b3s prog (d+1) 3 [.int .i64 z]=true:=by
 obtain⟨n,rfl⟩:∃n:Nat,z=(n:Int):=⟨z.toNat,by omega⟩
 exact c8H (by omega) d
theorem a5M {l:List Int} (h:okK l):b3s prog 6 112 (kA l)=true:=by
 have hu:prog.underlying 112=some (.array 12 3):=by kernel_rfl
 have h1:prog.cellsOf 112=12:=by kernel_rfl
 have h2:prog.cellsOf 3=1:=by kernel_rfl
 have hr:List.range 12=[0,1,2,3,4,5,6,7,8,9,10,11]:=by decide
 obtain⟨hl,hz⟩:=h
 match l,hl with
 |[a0,a1,a2,a3,a4,a5,a6,a7,a8,a9,a10,a11],_=>
  have f:∀z∈[a0,a1,a2,a3,a4,a5,a6,a7,a8,a9,a10,a11],b3s prog 5 3 [.int .i64 z]=true:=fun z h=>c5k (hz z h) 4
  simp only[List.mem_cons,List.not_mem_nil,or_false,forall_eq_or_imp,forall_eq]at f
  obtain⟨f0,f1,f2,f3,f4,f5,f6,f7,f8,f9,f10,f11⟩:=f
  unfold b3s
  rw[hu]
  simp only[h1,h2,hr,List.all_cons,List.all_nil,Bool.and_true,kA,List.map_cons,List.map_nil]
  rw[Bool.and_eq_true]
  refine⟨rfl,?_⟩
  simp only[Bool.and_eq_true]
  exact⟨f0,f1,f2,f3,f4,f5,f6,f7,f8,f9,f10,f11⟩
theorem d3R (σ:Rl):∀l:List Int,rzs σ (kA l)=l.map ii
 |[]=>rfl
 |z::l=>by
  show rzs σ (.int .i64 z::kA l)=_
  simp only[rzs,rz,d3R σ l,List.map_cons];rfl
theorem a9e (σ:Rl) (l:List Int):rz σ (.agg (kA l))=kV l:=by
 simp only[rz,d3R];rfl
theorem b2m:d5S prog 112 okK kV where
 check:=fun k hk b w=>by
  have hK:∀t,(fun t=>Nat.beq t 112) t=true->b2C prog t:=fun t ht=>by rw[c6n ht];exact b0D
  have:=b9n (σ:=fun _=>(0,0)) (kty:=fun t=>Nat.beq t 112) hK (v:= .agg (kA k)) (kt:=112) (by simp[a8p,a5M hk]) b w
  rwa[a9e]at this
 stays:=fun k hk w=>by
  have hK:∀t,(fun t=>Nat.beq t 112) t=true->b2C prog t:=fun t ht=>by rw[c6n ht];exact b0D
  have:=b9o (σ:=fun _=>(0,0)) (kty:=fun t=>Nat.beq t 112) hK (v:= .agg (kA k)) (kt:=112) (by simp[a8p,a5M hk]) w
  rwa[a9e]at this
 find:=fun k hk E hE w=>by
  have hK:∀t,(fun t=>Nat.beq t 112) t=true->b2C prog t:=fun t ht=>by rw[c6n ht];exact b0D
  have:=c3U (σ:=fun _=>(0,0)) (kty:=fun t=>Nat.beq t 112) (key:= .agg (kA k)) (kt:=112) hK (by simp[a8p,a5M hk]) E (fun e he=>by
   obtain⟨a,ha,h⟩:=hE e he
   exact⟨.agg (kA a),by rw[a9e];exact h,by simp[a8p,a5M ha]⟩) w
  rwa[a9e]at this
 inj:=fun a b _ _ h=>by
  unfold kV at h
  injection h with h
  have h:=congrArg Array.toList h
  simp only[List.toList_toArray]at h
  have:∀{x y:Int},ii x=ii y->x=y:=fun h=>by injection h
  exact(List.map_inj_right (f:=ii) fun x y h=>this h).1 h
def a0v (p:List Int):List Int:=p++List.replicate (12-p.length) 0
theorem b2n {p:List Int} (hl:p.length<=12) (h:∀z∈p,0<=z/\z<9223372036854775808):okK (a0v p):=by
 refine⟨by unfold a0v;simp;omega,fun z hz=> ?_⟩
 unfold a0v at hz
 rcases List.mem_append.1 hz with hz|hz
 ·exact h z hz
 ·rw[List.mem_replicate]at hz;rw[hz.2];omega
theorem d0q {p q:List Int} (h:p.length=q.length) (he:a0v p=a0v q):p=q:=by
 unfold a0v at he
 exact(List.append_inj he h).1
theorem c1v {p:List Int} (hl:p.length<=12):(a0v p).length=12:=by unfold a0v;simp;omega
theorem c1w {p:List Int} (hl:p.length<=12):((List.replicate 12 (ii 0)).toArray.toList.take 0++(p.flatMap fun z:Int=>[ii z])++(List.replicate 12 (ii 0)).toArray.toList.drop (0+p.length)).toArray=((a0v p).map ii).toArray:=by
 have hf:∀l:List Int,(l.flatMap fun z:Int=>[ii z])=l.map ii:=fun l=>by
  induction l with
  |nil=>rfl
  |cons a l ih=>rw[List.flatMap_cons,ih];rfl
 rw[hf]
 unfold a0v
 rw[List.take_zero,List.nil_append,List.toList_toArray,List.drop_replicate,Nat.zero_add,List.map_append,List.map_replicate]
theorem d0r {b:Nat} {X:PH} {o:Oper} {x:Operand} {T:TypeId} {fz:Nat×Nat} {l:List Int} (ho:o.op= .load 112 x) (hx:a0f [x] [.pointer (some ⟨b,0,none⟩)] x= .pointer (some ⟨b,0,none⟩)) (hX:X b=some (.cells (l.map ii).toArray T fz)) (hl:l.length=12):Rds prog o [.pointer (some ⟨b,0,none⟩)] X (kV l):=by
 have hc:(prog).cellsOf 112=12:=by kernel_rfl
 have ha:a0M prog 112=true:=by kernel_rfl
 have h:=a2d ho hx hX (T:=112) (by kernel_rfl) (by rw[hc];simp[hl]) (fun h=>by rw[ha]at h;cases h)
 rw[ha,hc]at h
 have e:(l.map ii).toArray.extract 0 (0+12)=(l.map ii).toArray:=by
  rw[<-Array.toList_inj];simp only[Array.toList_extract,List.toList_toArray];rw[List.extract_eq_take_drop,List.drop_zero];exact List.take_of_length_le (by simp[hl])
 rw[e]at h
 exact h
theorem d3S {l:List Int} (hl:l.length=12):(kV l).cells.size=12/\a0t (kV l).cells:=by
 refine⟨by show(l.map ii).toArray.size=12;simp[hl],fun c hc=> ?_⟩
 have hc:c∈l.map ii:=by simpa[kV,Value.cells]using hc
 obtain⟨z,_,rfl⟩:=List.mem_map.1 hc
 rfl
section
variable {H:PH} {u w wts:Value} {p wl:List Int} {n:Nat} {es:List (Nat×Nat)} {lo hi ds:Int} {set:Nat}
theorem a4f (hu:SI H u p) (hl:p.length<=12):Con prog 51 [u] H fun r H'=>PH.le H H'/\r=kV (a0v p):=by
 refine a0b mixed c8T (by kernel_rfl) rfl ?_
 have hk:prog.underlying 112=some (.array 12 3):=by kernel_rfl
 have hc:(prog).cellsOf 112=12:=by kernel_rfl
 have ha:a0M prog 112=true:=by kernel_rfl
 have hT:a2k prog 3=true:=by kernel_rfl
 have hk2:a2k prog 112=true:=by kernel_rfl
 have hui:prog.underlying 32=some (.slice 3):=by kernel_rfl
 obtain⟨ti,zv,i1,i2,i3,i4,i5⟩:=el_int.inf
 refine a1C (cs:=(List.replicate 12 (ii 0)).toArray) (by kernel_rfl) fun b hb=> ?_
 simp only[cA,nA]
 refine a0h ((a2S (vs:=[.pointer (some ⟨b,0,none⟩)]) rfl rfl hk hT).rds _) rfl ?_
 simp only[cA,nA]
 have hmo:PH.le H (H.put b (.cells (List.replicate 12 (ii 0)).toArray 112 (0,0))):=PH.le_put hb _
 have hsl:Sl (H.put b (.cells (List.replicate 12 (ii 0)).toArray 112 (0,0))) 1 u p.length (p.flatMap fun z:Int=>[ii z]):=hu.mono hmo
 refine a0l (b4o (P:=prog) (g:=b) (q:=0) (dLen:=12) (dCap:=12) (m:=p.length) (u:=u) (vs:=[.slice (some ⟨b,0,none⟩) 12 12,u]) rfl rfl rfl hui i1 (by rw[i3]) (PH.put_self _ _ _) hsl (fun c hc=>by rw[List.mem_flatMap]at hc;obtain⟨z,_,hz⟩:=hc;rw[List.mem_singleton]at hz;subst hz;rfl) hl (by simp;omega)) rfl ?_
 rintro _ H2 rfl
 refine⟨fun h=>(nomatch h),?_⟩
 simp only[cA,nA]
 rw[c1w hl]
 refine a0h ((d0r rfl rfl (PH.put_self _ _ _) (c1v hl))) rfl ?_
 simp only[cA,nA]
 refine a0a (d3S (c1v hl)) ?_
 exact a0c rfl ⟨fun k ob hk=>by rw[PH.put_ne _ _ (fun e=>by subst e;rw[hb]at hk;cases hk)];exact hmo _ _ hk,rfl⟩
end
end Go.Proofs.YtmannekkmdockaaGreatDoor
/- Chapter 32: counts of trees as fractions, parts of a set. -/
namespace Go.GS
theorem c5l {F:Nat->Nat->Int} {B:Nat} (h:∀i j,(F i j).natAbs<=B) (k:Nat):(pk F k).natAbs<=(k*B)^k:=by
 have:=b0u (B:=B) (blk k) ((blk k).map F) k (by simp[b0w]) (fun r hr c hc=>by
  obtain⟨x,_,rfl⟩:=List.mem_map.1 hr
  exact h _ _)
 unfold pk
 simpa[b0w]using this
theorem d0s {set n:Nat} (h:set<2^n) (hn:n<=64) (f:Nat->Nat):(b2g set f).length<=n:=by
 have e:b2g set f=(els set).filter fun x=>decide (f x=x)&&decide (x≠f (lst set)):=by
  unfold b2g els
  rw[List.filter_filter]
  refine List.filter_congr fun x _=> ?_
  cases bit set x<;>simp
 rw[e,<-d5r h hn]
 refine Nat.le_trans (List.length_filter_le _ _) (Nat.le_trans (List.length_filter_le _ _) ?_)
 simp
end Go.GS
namespace Go.Proofs.YtmannekkmdockaaGreatDoor
open Go.Proofs.Tryz
open Go.RowKit Go.RX Go.GS
open Go.WD (BP a1L wd rs toI HM)
set_option maxRecDepth 100000
theorem a9f {H:PH} {v:Value} {r:Rat} (h:Rp H v r):Value.agg v.cells=v:=by
 obtain⟨w1,w2,rfl,_⟩:=h;rfl
noncomputable def tN (es:List (Nat×Nat)) (set:Nat):Int:=b2D set es [] []
theorem c1x (es:List (Nat×Nat)) (set:Nat):0<=tN es set:=by
 unfold tN;rw[a5m];exact d3i _ _ _
theorem d0t {es:List (Nat×Nat)} {set n:Nat} (hg:GV n es) (hn:n<=12) (h:set<2^n):tN es set<(BP 5:Nat):=by
 have h0:=c1x es set
 have h1:(tN es set).natAbs<=(12*200)^12:=by
  unfold tN
  rw[a5m]
  unfold d3M KK
  rw[<-b3D]
  refine Nat.le_trans (c5l (B:=200) (fun i j=>Nat.le_trans (a7M _ _ _ i j) (Nat.le_trans (d0k 0) hg.len)) _) ?_
  have hl:=d0s h (by omega) (lab (etl es []))
  exact Nat.le_trans (Nat.pow_le_pow_left (show _<=12*200 by omega) _) (Nat.pow_le_pow_right (by decide) (by omega))
 have h2:(12*200)^12<BP 5:=by
  rw[show BP 5=2^160 from by unfold BP;rfl]
  decide
 omega
theorem d5y {k:Nat} (hk:k<=15):BP k<=HM:=by
 rw[d2s]
 exact Nat.le_trans (a1L hk) (Nat.le_mul_of_pos_right _ (by decide))
section
variable {H:PH} {u w wts:Value} {p wl:List Int} {n:Nat} {es:List (Nat×Nat)} {lo hi ds:Int} {set:Nat}
theorem b0E (hw:SG H w es) (hwt:a8l wts=true) (hg:GV n es) (hn:n<=12) (h0:set≠0/\set<2^n) (hT:Tb H):Con prog 145 [chv wts lo hi ds n w,GS.uv set] H fun r H'=>PH.le H H'/\Rp H' r ((tN es set:Int):Rat):=by
 refine a0b mixed c8V (by kernel_rfl) rfl ?_
 have hs:=a1g hg.n64 h0.2
 have hb:=d0t hg hn h0.2
 have hb0:=c1x es set
 have hfit: -(HM:Int)<=tN es set/\tN es set<HM:=by
  have:=d5y (k:=5) (by decide);omega
 refine a0a (a5E hwt (a0A hw) _ _ _ _) ?_
 refine a0d (a6F hw hg h0 hs hT) rfl ?_
 rintro v2 H1 ⟨l1,rfl⟩
 refine⟨fun h=>(nomatch h),?_⟩
 simp only[cA,nA]
 rw[show told (b2D set es [] [])= .tuple #[wd (rs (tN es set)),ii 0]from if_pos hfit]
 refine a0a ⟨_,rfl,by simp⟩ ?_
 refine a0a ⟨_,rfl,by simp⟩ ?_
 refine a0a (a4E _) ?_
 refine a0d (a3o (rs (tN es set))) rfl ?_
 rintro v3 H2 ⟨l2,w2⟩
 refine⟨fun h=>(nomatch h),?_⟩
 simp only[cA,nA]
 rw[Go.WD.toI_rs hfit]at w2
 refine a0d (a9d w2) rfl ?_
 rintro v4 H3 ⟨l3,w3⟩
 refine⟨fun h=>(nomatch h),?_⟩
 simp only[cA,nA]
 refine a0a w3.rq ?_
 exact a0c (a9f w3) ⟨l1.trans (l2.trans l3),w3⟩
theorem c5m {s:Nat}:Con prog 146 [GS.uv s] H fun u H'=>∃b,H b=none/\H'=H.or (a6o b s)/\u= .func (.func 203) #[] #[.pointer (some ⟨b,0,none⟩)]:=by
 refine a0b mixed c8U (by kernel_rfl) rfl ?_
 refine a0a ⟨rfl,fun c hc=>by simp[D,Value.cells,GS.uv]at hc;subst hc;rfl⟩ ?_
 refine a1C (cs:= #[GS.uv s]) rfl fun b hb=> ?_
 simp only[cA,nA]
 refine a3j (a1i (vs:=[.pointer (some ⟨b,0,none⟩)]) rfl rfl) rfl ?_
 simp only[cA,nA]
 exact a0c rfl ⟨b,hb,by unfold a6o;rw[PH.put_or hb],rfl⟩
end
end Go.Proofs.YtmannekkmdockaaGreatDoor
/- Chapter 32: probabilities of the next plans that differ. -/
namespace Go.Proofs.YtmannekkmdockaaGreatDoor
open Go.Proofs.Tryz
open Go.RowKit Go.RX Go.GS Go.RZ
open Go.WD (BP a1L wd rs toI HM)
set_option maxRecDepth 100000
theorem a5N {H:PH} (n:Int) (h0: -9223372036854775808<=n) (h1:n<9223372036854775808):Con prog 58 [.int .i64 n] H fun u H'=>PH.le H H'/\Rp H' u (n:Rat):=by
 refine a0b mixed c5j (by kernel_rfl) rfl (a0d (a3a n h0 h1) rfl ?_)
 rintro u1 H1 ⟨l1,hu1⟩
 simp only[cA,nA]
 refine⟨fun h=>(nomatch h),a0d (a9d hu1) rfl ?_⟩
 rintro u2 H2 ⟨l2,hu2⟩
 refine⟨fun h=>(nomatch h),a0a hu2.rq (a0c (a9f hu2) ⟨l1.trans l2,hu2⟩)⟩
theorem b0F {rest least:Nat}:∀{n part y:Nat},y∈b7D rest least n part->∃x,x&&&rest=x/\x<part/\y=x|||least
 |0,_,_,h=>by cases h
 |n+1,part,y,h=>by
  unfold b7D at h
  split at h
  ·cases h
  ·rename_i h0
   have hle:(part-1)&&&rest<=part-1:=Nat.and_le_left
   have hidem:((part-1)&&&rest)&&&rest=(part-1)&&&rest:=by rw[Nat.and_assoc,Nat.and_self]
   rcases List.mem_cons.1 h with rfl|h
   ·exact⟨_,hidem,by omega,rfl⟩
   ·obtain⟨x,h1,h2,h3⟩:=b0F h
    exact⟨x,h1,by omega,h3⟩
theorem b0G {S y:Nat} (hs:S<M64) (h0:S≠0) (hy:y∈a1E S):(∀x,bit y x=true->bit S x=true)/\bit y (lst S)=true/\y≠S:=by
 obtain⟨m,r,he,hm,_,_⟩:=b3y hs h0
 have hl:a1c S=2^m:=a7u hs he
 have hlm:lst S=m:=by unfold lst;rw[he];rfl
 obtain⟨x,h1,h2,rfl⟩:=b0F hy
 rw[hl]at h1 h2⊢
 have hb:∀z,bit x z=true->bit S z=true/\z≠m:=fun z hz=>by
  have h3:bit (x&&&sdf S (2^m)) z=true:=by rw[h1];exact hz
  rw[show bit (x&&&sdf S (2^m)) z=(bit x z&&bit (sdf S (2^m)) z)from Nat.testBit_and _ _ _,a0y,a0z]at h3
  simp only[Bool.and_eq_true,Bool.not_eq_true',decide_eq_false_iff_not]at h3
  exact⟨h3.2.1,fun e=>h3.2.2 e.symm⟩
 refine⟨fun z hz=> ?_,by rw[hlm,a0F,a0z];simp,fun e=> ?_⟩
 ·rw[a0F,a0z,Bool.or_eq_true,decide_eq_true_eq]at hz
  rcases hz with hz|rfl
  ·exact(hb z hz).1
  ·exact hm
 ·have:sdf S (2^m)=x:=by
   refine a0G fun z=> ?_
   rw[a0y,a0z,<-e,a0F,a0z]
   by_cases hz:m=z
   ·subst hz
    have:bit x m=false:=by
     cases hx:bit x m with
     |false=>rfl
     |true=>exact absurd rfl (hb m hx).2
    simp[this]
   ·simp[hz]
  omega
theorem a7W {S y n:Nat} (hs:S<2^n) (h64:n<=64) (h0:S≠0) (hy:y∈a1E S):(y≠0/\y<2^n)/\(sdf S y≠0/\sdf S y<2^n):=by
 have hM:S<M64:=Nat.lt_of_lt_of_le hs (Nat.pow_le_pow_right (n:=2) (by decide) h64)
 obtain⟨h1,h2,h3⟩:=b0G hM h0 hy
 refine⟨⟨(fun e=>by rw[e,a0J]at h2;cases h2),a7I hs h1⟩,fun e=>h3 ?_,a7I hs fun x hx=>by rw[a0y]at hx;simp at hx;exact hx.1⟩
 refine a0G fun z=> ?_
 have hz:bit (sdf S y) z=false:=by rw[e,a0J]
 rw[a0y]at hz
 cases hS:bit S z with
 |true=>rw[hS]at hz;simpa using hz
 |false=>
  cases hY:bit y z with
  |true=>rw[h1 z hY]at hS;cases hS
  |false=>rfl
theorem d3T {o:Oper} {x y:Operand} {a b:List Int} {H:PH} (ho:o.op= .binOp .neq 112 x y 112) {vs:List Value} (hx:a0f [x,y] vs x=kV a) (hy:a0f [x,y] vs y=kV b) (ha:okK a) (hb:okK b):Rds prog o vs H (.bool (!decide (a=b))):=by
 have h:=c8G (H:=H) b0D (a5M ha) (a5M hb) ho (hx.trans (a9e (fun _=>(0,0)) a).symm) (hy.trans (a9e (fun _=>(0,0)) b).symm)
 have e:a2c (kA a) (kA b)=decide (a=b):=by
  have:∀(a b:List Int),a2c (kA a) (kA b)=true↔a=b:=fun a=>by
   induction a with
   |nil=>intro b;cases b<;>simp[kA,a2c]
   |cons x a ih=>
    intro b
    cases b with
    |nil=>simp[kA,a2c]
    |cons y b=>
     have:=ih b
     simp only[kA,List.map_cons]at this⊢
     simp[a2c,isK,c6o,this]
  rw[Bool.eq_iff_iff,this,decide_eq_true_iff]
 rw[e]at h
 exact h
end Go.Proofs.YtmannekkmdockaaGreatDoor

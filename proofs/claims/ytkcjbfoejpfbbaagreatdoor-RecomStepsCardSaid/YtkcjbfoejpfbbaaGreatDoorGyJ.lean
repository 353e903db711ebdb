/- Chapter 32: the reference's Below returns what chance.Below does. -/
import Derived.Test.YtkcjbfoejpfbbaaGreatDoorGwC
import Derived.Test.YtkcjbfoejpfbbaaGreatDoorRfM
import Derived.Test.YtkcjbfoejpfbbaaGreatDoorGyC
import Derived.Test.YtkcjbfoejpfbbaaGreatDoorGyH
namespace Go.GS
open Go.RowKit Go.RX
theorem c4G {P:Program} {ρ:List Value} {a b:SV} {A B:Nat} (ha:D P ρ a=uv A) (hb:D P ρ b=uv B) (hA:A<M64):D P ρ (.op2 .quo .u64 a b)=uv (A/B):=by
 show a1y .quo .u64 (intOf (D P ρ a)) (intOf (D P ρ b))=_
 rw[ha,hb]
 show Value.int .u64 (IntKind.u64.wrap (Int.tdiv (A:Int) (B:Int)))= .int .u64 _
 rw[<-Int.ofNat_tdiv,IntKind.wrap_u64]
 congr 1
 have:A/B<=A:=Nat.div_le_self _ _
 generalize A/B=q at this⊢
 simp only[M64]at hA
 exact Int.emod_eq_of_lt (by omega) (by omega)
theorem d2u {n x:Nat} (hn0:0<n) (hn:n<M64) (hx:x<M64):a8L n x=decide (x<M64/n*n):=by
 have e:a9Z n=M64%n:=by
  unfold a9Z
  rw[Nat.mod_eq_of_lt (show M64-n<M64 by omega)]
  conv=>rhs;rw[show M64=(M64-n)+n by omega,Nat.add_mod_right]
 have hr:M64%n<n:=Nat.mod_lt _ hn0
 have hd:M64/n*n+M64%n=M64:=by rw[Nat.mul_comm];exact Nat.div_add_mod _ _
 unfold a8L
 rw[e]
 rw[Bool.eq_iff_iff]
 simp only[Bool.or_eq_true,decide_eq_true_eq]
 by_cases h0:M64%n=0
 ·rw[h0]at hd⊢
  constructor
  ·intro _;omega
  ·intro _;exact .inr rfl
 ·rw[Nat.mod_eq_of_lt (show M64-M64%n<M64 by omega),show M64-M64%n+(M64-1)=(M64-M64%n-1)+M64 by omega,Nat.add_mod_right,Nat.mod_eq_of_lt (show M64-M64%n-1<M64 by omega)]
  constructor
  ·rintro(h|h)
   ·omega
   ·exact absurd h h0
  ·intro h;left;omega
end Go.GS
namespace Go.Proofs.YtkcjbfoejpfbbaaGreatDoor
open Go.Proofs.Tryz
open Go.RowKit Go.RX Go.GS Go.WD
section
variable {H:PH} {s x:Nat} {z:Int}
theorem b7f (hs:s<M64):Det prog 140 [chV s] (.tuple #[uv (drw s),chV (nxS s)]):=by
 refine a1e a0n c2S (by kernel_rfl) rfl ?_
 refine a0Q (a0W s) ?_
 refine a0Q ⟨_,rfl⟩ ?_
 refine a2q ?_ rfl
 have hn:=b5x s
 have d0:D prog [chV s] (.op2 .add .u64 (.cell (.v 0) 0 0 noI) (.k (.int .u64 11400714819323198485)))=uv (nxS s):=c3S rfl rfl
 have dA:D prog [chV s] (.op2 .mul .u64 (.op2 .xor .u64 (.op2 .add .u64 (.cell (.v 0) 0 0 noI) (.k (.int .u64 11400714819323198485))) (.op2 .quo .u64 (.op2 .add .u64 (.cell (.v 0) 0 0 noI) (.k (.int .u64 11400714819323198485))) (.k (.int .u64 1073741824)))) (.k (.int .u64 13787848793156543929)))=uv (d2b (nxS s)):=b5z (a8J d0 (c4G (B:=2^30) d0 rfl hn) hn (a2X hn)) rfl
 have hA:=c3T (nxS s)
 have dB:=b5z (b:= .k (.int .u64 10723151780598845931)) (B:=10723151780598845931) (a8J dA (c4G (b:= .k (.int .u64 134217728)) (B:=2^27) dA rfl hA) hA (a2X hA)) rfl
 have hB:d2H (d2b (nxS s))<M64:=a9X _
 have dC:=a8J (A:=d2H (d2b (nxS s))) dB (c4G (A:=d2H (d2b (nxS s))) (b:= .k (.int .u64 2147483648)) (B:=2^31) dB rfl hB) hB (a2X hB)
 show Value.tuple #[D prog [chV s] _,.agg (D prog [chV s] _).cells]=_
 rw[dC,d0]
 rfl
end
end Go.Proofs.YtkcjbfoejpfbbaaGreatDoor
/- Chapter 32: the reference's Below. -/
namespace Go.Proofs.YtkcjbfoejpfbbaaGreatDoor
open Go.Proofs.Tryz
open Go.RowKit Go.RX Go.GS Go.WD
theorem d2v:a0O prog 53= .agg #[uv 0,uv 0,uv 0,uv 0,uv 0,uv 0,uv 0,uv 0]:=by kernel_rfl
theorem d7F {ρ:List Value} {a:SV} {x:Int} (ha:D prog ρ a=ii x):D prog ρ (.op2 .lss .i64 a (.k (.int .i64 0)))= .bool (decide (x<0)):=by
 show a1y .lss .i64 (intOf (D prog ρ a)) 0=_
 rw[ha];rfl
theorem c8n {x:Nat} (hx:x<M64):wd x= .agg #[uv x,uv 0,uv 0,uv 0,uv 0,uv 0,uv 0,uv 0]:=by
 have h0:dig x 0=x:=by unfold dig;rw[a9w,Nat.div_one];exact Nat.mod_eq_of_lt hx
 have hi:∀i,0<i->dig x i=0:=fun i hi=>by
  unfold dig
  have h1:PW 1<=PW i:=d3h hi
  have h2:PW 1=18446744073709551616:=by rw[a6Q,a9w,Nat.one_mul]
  rw[Nat.div_eq_of_lt (Nat.lt_of_lt_of_le (by rw[h2];exact hx) h1)]
 unfold wd words wf
 rw[h0,hi 1 (by omega),hi 2 (by omega),hi 3 (by omega),hi 4 (by omega),hi 5 (by omega),hi 6 (by omega),hi 7 (by omega)]
 rfl
section
variable {H:PH} {s x:Nat} {z:Int}
theorem c4H (hx:x<M64):toI x=(x:Int):=by
 have h1:PW 1<=PW 7:=d3h (by omega)
 have e1:PW 1=18446744073709551616:=by rw[a6Q,a9w,Nat.one_mul]
 have e8:PW 8=PW 7*18446744073709551616:=a6Q 7
 have hH:HM=9223372036854775808*PW 7:=by unfold HM;rfl
 have hM:=b6k
 simp only[M64]at hx
 unfold toI
 rw[Nat.mod_eq_of_lt (by omega),if_pos (by omega)]
theorem b7g (hx:x<M64):Con prog 141 [uv x] H fun u H'=>PH.le H H'/\Lg H' u (x:Int):=by
 refine a0j a0n c2T ?_
 refine a0c (el_u64.vcells x) ?_
 refine a0f (d1z x) (a2S ?_) fun u H1 ⟨l1,hu⟩=>⟨fun h=>(nomatch h),?_⟩
 ·show Value.agg (spl (a0O prog _).cells 0 [uv x])=wd x
  rw[d2v,c8n hx];rfl
 ·simp only[cA,nA]
  refine a0c hu.rq ?_
  rw[c4H hx]at hu
  obtain⟨w,rfl,hw⟩:=hu
  exact a0b rfl ⟨l1,w,rfl,hw⟩
theorem Lg.agg {H:PH} {v:Value} {z:Int} (h:Lg H v z):Value.agg v.cells=v:=by obtain⟨w,rfl,_⟩:=h;rfl
theorem a6j {z:Int} (h0:0<=z) (h1:z<=2^64):Lm z:=by
 have:=b4V (k:=64) (by omega)
 unfold Lm at this⊢
 have e:((2:Int)^64).natAbs=18446744073709551616:=by decide
 rw[e]at this
 have h2:(2:Int)^64=18446744073709551616:=by decide
 rw[h2]at h1
 omega
theorem a3a {n:Nat} (hs:s<M64) (hz:n<9223372036854775808):a3Z prog 72 [chV s,ii (n:Nat)] H (.tuple #[ii ((a1m s n).1:Nat),chV (a1m s n).2.1,ii ((a1m s n).2.2:Nat)]):=by
 refine a0j a0n c2U ?_
 refine a0c (a0W s) ?_
 refine a0a ?_
 refine a0e (b:=decide (((n:Nat):Int)<1)) rfl (fun h=> ?_) (fun h=> ?_)
 ·replace h:=of_decide_eq_true h
  obtain rfl:n=0:=by omega
  refine a0b ?_ ⟨PH.le.refl _,rfl⟩
  show Value.tuple #[ii 0,a0O prog _,ii 2]=_
  rw[a3e];rfl
 ·replace h:=of_decide_eq_false h
  have hn0:0<n:=by omega
  have hn:n<M64:=by simp only[M64];omega
  have hfound:∀i,(∀j,j<i->a8L n (drw (nxN j s))=false)->a8L n (drw (nxN i s))=true->i<200->a1m s n=(drw (nxN i s)%n,nxN (i+1) s,0):=fun i h1 h2 h3=>by
   unfold a1m;rw[if_neg (by omega),c3W n i 200 s h1 h2 h3]
  have hnone:(∀j,j<200->a8L n (drw (nxN j s))=false)->a1m s n=(0,0,9):=fun h1=>by
   unfold a1m;rw[if_neg (by omega),a7s n 200 s h1]
  generalize a1m s n=Q at hfound hnone⊢
  have h64:(2:Int)^64=18446744073709551616:=by decide
  have lm2:Lm ((2:Int)^64):=b4V (by omega)
  have lmn:Lm ((n:Nat):Int):=a6j (by omega) (by rw[h64];omega)
  refine a0f (a2p 2 (by omega) (by omega)) rfl fun u1 H1 ⟨l1,g1⟩=>⟨fun h=>(nomatch h),?_⟩
  refine a0f (b3i 64 (by omega) g1) rfl fun u2 H2 ⟨l2,g2⟩=>⟨fun h=>(nomatch h),?_⟩
  refine a0f (a2p (n:Int) (by omega) (by omega)) rfl fun u3 H3 ⟨l3,g3⟩=>⟨fun h=>(nomatch h),?_⟩
  refine a0f (b6F (g2.mono l3) g3 lm2 lmn (by omega)) rfl fun u4 H4 ⟨l4,a,b,hu,ga,gb⟩=>⟨fun h=>(nomatch h),?_⟩
  subst hu
  simp only[cA,nA]
  refine a0m ?_
  refine a0m ?_
  refine a0c ga.rq ?_
  refine a0c gb.rq ?_
  refine a0f (a2p (n:Int) (by omega) (by omega)) rfl fun u5 H5 ⟨l5,g5⟩=>⟨fun _=>l5,?_⟩
  have hq:((2:Int)^64/(n:Int))=((M64/n:Nat):Int):=by
   rw[h64,Int.natCast_ediv]
   congr 1
  rw[hq]at ga
  have hlim:M64/n*n<=M64:=Nat.div_mul_le_self _ _
  have hqle:M64/n<=M64:=Nat.div_le_self _ _
  have lmq:Lm ((M64/n:Nat):Int):=a6j (Int.natCast_nonneg _) (by rw[h64];generalize M64/n=q at hqle⊢;simp only[M64]at hqle;omega)
  refine a0f (a8z (ga.mono l5) g5 lmq lmn) (a0F (Lg.agg ga) rfl) fun u6 H6 ⟨l6,g6⟩=>⟨fun _=>l6,?_⟩
  refine a0c g6.rq ?_
  rw[show((M64/n:Nat):Int)*(n:Int)=((M64/n*n:Nat):Int)from(Int.natCast_mul _ _).symm]at g6
  have lml:Lm ((M64/n*n:Nat):Int):=a6j (Int.natCast_nonneg _) (by rw[h64];generalize M64/n*n=q at hlim⊢;simp only[M64]at hlim;omega)
  have hle:PH.le H H6:=l1.trans (l2.trans (l3.trans (l4.trans (l5.trans l6))))
  refine a0i (α:=Nat) (fun i=>[ii 0,ii 0,ii (i:Nat),chV (nxN i s)]) (fun i H'=>i<=200/\PH.le H6 H'/\∀j,j<i->a8L n (drw (nxN j s))=false) (fun i=>200-i) 0 rfl ⟨Nat.zero_le _,PH.le.refl _,fun j hj=>absurd hj (Nat.not_lt_zero _)⟩ fun i H7 hQ=> ?_
  obtain⟨hi,l7,hacc⟩:=hQ
  refine a0a ?_
  refine a0e (b:=decide (((i:Nat):Int)<200)) rfl (fun h2=> ?_) (fun h2=> ?_)
  ·replace h2:=of_decide_eq_true h2
   have hd:=d4Z (nxN i s)
   refine a0x (b7f (c9r hs i)) rfl ?_
   refine a0m ?_
   refine a0m ?_
   refine a0c (a0W (nxS (nxN i s))) ?_
   refine a0f (b7g hd) rfl fun u8 H8 ⟨l8,g8⟩=>⟨fun _=>l8,?_⟩
   have lmd:Lm ((drw (nxN i s):Nat):Int):=a6j (by omega) (by rw[h64];simp only[M64]at hd;omega)
   refine a0f (b6E g8 (g6.mono (l7.trans l8)) lmd lml) (a0F rfl (Lg.agg g6)) fun u9 H9 ⟨l9,hu9⟩=>⟨fun _=>l9,?_⟩
   subst hu9
   simp only[cA,nA]
   refine a0a ?_
   have hx:=d2u hn0 hn hd
   have key:∀X Y:Nat,(sgI ((X:Nat):Int) ((Y:Nat):Int)<0)↔X<Y:=fun X Y=>by rw[d4z];omega
   refine a0e (b:=a8L n (drw (nxN i s))) ((d7F rfl).trans (by rw[hx];exact congrArg Value.bool (decide_eq_decide.2 (key _ _)))) (fun h3=> ?_) (fun h3=> ?_)
   ·rw[hfound i hacc h3 (by omega)]
    refine a0a ?_
    refine a0c (by show intOf (D prog _ (.cv .u64 (.v 1)))≠0;rw[b3a (n:=n) rfl hn];show((n:Nat):Int)≠0;omega) ?_
    refine a0b ?_ ⟨hle.trans (l7.trans (l8.trans l9)),rfl⟩
    have hlt:drw (nxN i s)%n<n:=Nat.mod_lt _ hn0
    show Value.tuple #[.int .i64 (IntKind.i64.wrap (intOf (D prog _ (.op2 .rem .u64 (.proj (.v 12) 0) (.cv .u64 (.v 1)))))),chV (nxS (nxN i s)),ii 0]=_
    rw[c3X (A:=drw (nxN i s)) (B:=n) rfl (b3a rfl hn)]
    show Value.tuple #[.int .i64 (IntKind.i64.wrap ((drw (nxN i s)%n:Nat):Int)),chV (nxS (nxN i s)),ii 0]=_
    rw[b4y (by omega)];rfl
   ·exact⟨i+1,by omega,c8z rfl rfl (a0k rfl (by omega)) rfl,⟨by omega,l7.trans (l8.trans l9),fun j hj=>by
     by_cases e:j=i
     ·subst e;exact h3
     ·exact hacc j (by omega)⟩⟩
  ·replace h2:=of_decide_eq_false h2
   rw[hnone fun j hj=>hacc j (by omega)]
   refine a0b ?_ ⟨hle.trans l7,rfl⟩
   show Value.tuple #[ii 0,a0O prog _,ii 9]=_
   rw[a3e];rfl
end
end Go.Proofs.YtkcjbfoejpfbbaaGreatDoor
/- Chapter 32: the reference's walks and trees. -/
namespace Go.GS
theorem d2w {n:Nat} {es:List (Nat×Nat)} (hg:GV n es) (set x:Nat) (hs:set<M64):((List.range n).filter fun y=>bit set y&&bit (nb es x) y)=nbl es set x:=by
 have hx:∀y,bit (nb es x&&&set) y=(bit set y&&bit (nb es x) y):=fun y=>by
  rw[show bit (nb es x&&&set) y=(bit (nb es x) y&&bit set y)from Nat.testBit_and _ _ _,Bool.and_comm]
 have hf:∀y,(bit set y&&bit (nb es x) y)=true->y<n:=fun y hy=>by
  rw[Bool.and_eq_true]at hy
  obtain⟨e,he,h3⟩:=(b8y es x y).1 hy.2
  have:=hg.ed e he
  rcases h3 with⟨_,h⟩|⟨_,_,h⟩<;>omega
 have key:∀d,((List.range (n+d)).filter fun y=>bit set y&&bit (nb es x) y)=(List.range n).filter fun y=>bit set y&&bit (nb es x) y:=fun d=>by
  induction d with
  |zero=>rfl
  |succ d ih=>
   rw[show n+(d+1)=(n+d)+1 by omega,List.range_succ,List.filter_append,ih,List.filter_cons,List.filter_nil,if_neg (fun h=>by have:=hf _ h;omega),List.append_nil]
 unfold nbl els
 rw[<-key (64-n),show n+(64-n)=64 by have:=hg.n64;omega]
 refine List.filter_congr fun y _=> ?_
 exact(hx y).symm
theorem c4I {p:Int->Bool}:∀(l:List Int) (k:Nat),(∀y∈l.take k,p y=true)->(∀z,l[k]? =some z->p z=false)->l.takeWhile p=l.take k/\l.dropWhile p=l.drop k
 |[],k,_,_=>by simp
 |a::l,0,_,h2=>by
  have:=h2 a rfl
  simp[List.takeWhile_cons,List.dropWhile_cons,this]
 |a::l,k+1,h1,h2=>by
  have ha:=h1 a (by simp)
  obtain⟨g1,g2⟩:=c4I l k (fun y hy=>h1 y (by simp[hy])) (fun z hz=>h2 z (by simpa using hz))
  simp[List.takeWhile_cons,List.dropWhile_cons,ha,g1,g2]
theorem c4J {l:List Int} {x:Int} {k:Nat} (h1:∀y∈l.take k,y<=x) (h2:∀z,l[k]? =some z->x<z):c4Y l x=l.take k++x::l.drop k:=by
 obtain⟨g1,g2⟩:=c4I (p:=fun y=>decide (y<=x)) l k (fun y hy=>decide_eq_true (h1 y hy)) (fun z hz=>decide_eq_false (by have:=h2 z hz;omega))
 unfold c4Y;rw[g1,g2]
end Go.GS
namespace Go.Proofs.YtkcjbfoejpfbbaaGreatDoor
open Go.Proofs.Tryz
open Go.RowKit Go.RX Go.GS
section
variable {H H0:PH} {u v w:Value} {n x y c set til left a b:Nat} {es:List (Nat×Nat)} {l:List Nat} {li:List Int}
def jnE (x y:Nat) (e:Nat×Nat):Prop:=(e.1=x/\e.2=y)\/(e.1=y/\e.2=x)
theorem b7h (hw:SG H w es) (hg:GV n es):Asks prog 232 [gv n w,ii (x:Nat),ii (y:Nat)] H (.bool (bit (nb es x) y)):=by
 refine a0j a0n c4s ?_
 have hl:=hw.len
 have hyes:∀{i:Nat} {e:Nat×Nat},es[i]? =some e->jnE x y e->bit (nb es x) y=true:=fun he hj=>(b3O hg.ed).2 ⟨_,List.mem_of_getElem? he,hj.elim .inl fun h=> .inr ⟨h.2,h.1⟩⟩
 refine a0c (a0G hw) ?_
 refine a0A (α:=Nat×Value) (fun⟨i,z⟩=>[z,ii (i:Nat)]) (fun⟨i,z⟩=>i<=es.length/\∀e∈es.take i,¬jnE x y e) (fun⟨i,z⟩=>es.length-i) ((0,.bool false)) rfl (⟨Nat.zero_le _,fun y hy=>by cases hy⟩) fun⟨i,z⟩ hQ=> ?_
 obtain⟨hi,hq⟩:=hQ
 refine a0p el_edge hw ?_
 refine a0a ?_
 refine a0a ?_
 refine a0e (b:=decide (((i:Nat):Int)<(es.length:Nat))) rfl (fun h=> ?_) (fun h=> ?_)
 ·replace h:=of_decide_eq_true h
  have hi':i<es.length:=by omega
  obtain⟨e,he,_⟩:=a0q hi'
  have hnx:¬jnE x y e->(i+1<=es.length/\∀e∈es.take (i+1),¬jnE x y e)/\H=H:=fun hn=>⟨⟨hi',by rw[take_snoc he];intro f hf;rw[List.mem_append,List.mem_singleton]at hf;rcases hf with hf|rfl;(exact hq f hf);exact hn⟩,rfl⟩
  refine a0t el_edge hw he fun _=> ?_
  refine a0c (el_edge.vcells e) ?_
  refine a0a ?_
  refine a0a ?_
  refine a0o (p:=(e.1=x)) (bEn _ _) (fun h1=> ?_) fun h1=> ?_
  ·refine a0a ?_
   refine a0a ?_
   refine a0o (p:=(e.2=y)) (bEn _ _) (fun h2=> ?_) fun h2=> ?_
   ·exact a0b rfl ⟨rfl,by rw[hyes he (.inl ⟨h1,h2⟩)];rfl⟩
   ·refine a0o (p:=(e.1=y)) (bEn _ _) (fun h3=> ?_) fun h3=> ?_
    ·refine a0o (p:=(e.2=x)) (bEn _ _) (fun h4=> ?_) fun h4=> ?_
     ·exact a0b rfl ⟨rfl,by rw[hyes he (.inr ⟨h3,h4⟩)];rfl⟩
     ·exact⟨(i+1,z),by show es.length-(i+1)<es.length-i;omega,(a0F rfl (a0k rfl (by omega))),hnx (fun h=>h.elim (fun h=>h2 h.2) (fun h=>h4 h.2))⟩
    ·exact⟨(i+1,z),by show es.length-(i+1)<es.length-i;omega,(a0F rfl (a0k rfl (by omega))),hnx (fun h=>h.elim (fun h=>h2 h.2) (fun h=>h3 h.1))⟩
  ·refine a0a ?_
   refine a0o (p:=(e.1=y)) (bEn _ _) (fun h3=> ?_) fun h3=> ?_
   ·refine a0a ?_
    refine a0o (p:=(e.2=x)) (bEn _ _) (fun h4=> ?_) fun h4=> ?_
    ·exact a0b rfl ⟨rfl,by rw[hyes he (.inr ⟨h3,h4⟩)];rfl⟩
    ·exact⟨(i+1,z),by show es.length-(i+1)<es.length-i;omega,(a0F rfl (a0k rfl (by omega))),hnx (fun h=>h.elim (fun h=>h1 h.1) (fun h=>h4 h.2))⟩
   ·exact⟨(i+1,z),by show es.length-(i+1)<es.length-i;omega,(a0F rfl (a0k rfl (by omega))),hnx (fun h=>h.elim (fun h=>h1 h.1) (fun h=>h3 h.1))⟩
 ·replace h:=of_decide_eq_false h
  rw[List.take_of_length_le (by omega)]at hq
  exact a0b rfl ⟨rfl,by rw[show bit (nb es x) y=false from Bool.eq_false_iff.2 (fun h=>by obtain⟨e,he,h5⟩:=(b3O hg.ed).1 h;exact hq e he (h5.elim .inl fun h=> .inr ⟨h.2,h.1⟩))];rfl⟩
theorem b7i (hw:SG H w es) (hg:GV n es):Asks prog 145 [gv n w,ii (x:Nat),ii (y:Nat)] H (ii (c7O es (min x y,max x y))):=by
 refine a0j a0n c4w ?_
 have hl:=hw.len
 have hyes:∀{i:Nat} {e:Nat×Nat},es[i]? =some e->(∀e∈es.take i,e≠(min x y,max x y))->jnE x y e->c7O es (min x y,max x y)=(i:Nat):=fun{i e} he hq hj=>by
  have hev:=hg.mem he
  have:e=(min x y,max x y):=by
   rcases hj with⟨h1,h2⟩|⟨h1,h2⟩<;>exact Prod.ext (by simp only;omega) (by simp only;omega)
  exact b1U (this ▸ he) hq
 refine a0c (a0G hw) ?_
 refine a0A (α:=Nat×Value) (fun⟨i,z⟩=>[z,ii (i:Nat)]) (fun⟨i,z⟩=>i<=es.length/\∀e∈es.take i,e≠(min x y,max x y)) (fun⟨i,z⟩=>es.length-i) ((0,ii 0)) rfl (⟨Nat.zero_le _,fun y hy=>by cases hy⟩) fun⟨i,z⟩ hQ=> ?_
 obtain⟨hi,hq⟩:=hQ
 refine a0p el_edge hw ?_
 refine a0a ?_
 refine a0a ?_
 refine a0e (b:=decide (((i:Nat):Int)<(es.length:Nat))) rfl (fun h=> ?_) (fun h=> ?_)
 ·replace h:=of_decide_eq_true h
  have hi':i<es.length:=by omega
  obtain⟨e,he,_⟩:=a0q hi'
  have hnx:¬jnE x y e->(i+1<=es.length/\∀e∈es.take (i+1),e≠(min x y,max x y))/\H=H:=fun hn=>⟨⟨hi',by rw[take_snoc he];intro f hf;rw[List.mem_append,List.mem_singleton]at hf;rcases hf with hf|rfl;(exact hq f hf);exact fun e2=>hn (by rw[e2];unfold jnE;simp only;omega)⟩,rfl⟩
  refine a0t el_edge hw he fun _=> ?_
  refine a0c (el_edge.vcells e) ?_
  refine a0a ?_
  refine a0a ?_
  refine a0o (p:=(e.1=x)) (bEn _ _) (fun h1=> ?_) fun h1=> ?_
  ·refine a0a ?_
   refine a0a ?_
   refine a0o (p:=(e.2=y)) (bEn _ _) (fun h2=> ?_) fun h2=> ?_
   ·exact a0b rfl ⟨rfl,by rw[hyes he hq (.inl ⟨h1,h2⟩)];rfl⟩
   ·refine a0o (p:=(e.1=y)) (bEn _ _) (fun h3=> ?_) fun h3=> ?_
    ·refine a0o (p:=(e.2=x)) (bEn _ _) (fun h4=> ?_) fun h4=> ?_
     ·exact a0b rfl ⟨rfl,by rw[hyes he hq (.inr ⟨h3,h4⟩)];rfl⟩
     ·exact⟨(i+1,z),by show es.length-(i+1)<es.length-i;omega,(a0F rfl (a0k rfl (by omega))),hnx (fun h=>h.elim (fun h=>h2 h.2) (fun h=>h4 h.2))⟩
    ·exact⟨(i+1,z),by show es.length-(i+1)<es.length-i;omega,(a0F rfl (a0k rfl (by omega))),hnx (fun h=>h.elim (fun h=>h2 h.2) (fun h=>h3 h.1))⟩
  ·refine a0a ?_
   refine a0o (p:=(e.1=y)) (bEn _ _) (fun h3=> ?_) fun h3=> ?_
   ·refine a0a ?_
    refine a0o (p:=(e.2=x)) (bEn _ _) (fun h4=> ?_) fun h4=> ?_
    ·exact a0b rfl ⟨rfl,by rw[hyes he hq (.inr ⟨h3,h4⟩)];rfl⟩
    ·exact⟨(i+1,z),by show es.length-(i+1)<es.length-i;omega,(a0F rfl (a0k rfl (by omega))),hnx (fun h=>h.elim (fun h=>h1 h.1) (fun h=>h4 h.2))⟩
   ·exact⟨(i+1,z),by show es.length-(i+1)<es.length-i;omega,(a0F rfl (a0k rfl (by omega))),hnx (fun h=>h.elim (fun h=>h1 h.1) (fun h=>h3 h.1))⟩
 ·replace h:=of_decide_eq_false h
  rw[List.take_of_length_le (by omega)]at hq
  exact a0b rfl ⟨rfl,by rw[b5B hq];rfl⟩
theorem b7j (hw:SG H w es) (hg:GV n es) (hs:set<M64):Con prog 192 [gv n w,uv set,ii (x:Nat)] H fun r H'=>PH.le H H'/\SI H' r ((nbl es set x).map fun y:Nat=>(y:Int)):=by
 refine a0j a0n c4t ?_
 have h64:=hg.n64
 refine a0c (a0G hw) ?_
 refine a0i (α:=Nat×Value) (fun⟨i,v⟩=>[v,ii (i:Nat)]) (fun⟨i,v⟩=>fun H'=>i<=n/\PH.le H H'/\OI H H' v (((List.range i).filter fun y=>bit set y&&bit (nb es x) y).map fun y:Nat=>(y:Int))) (fun⟨i,v⟩=>n-i) ((0,.slice none 0 0)) rfl (⟨Nat.zero_le _,PH.le.refl _,SO.nil _ _ _ _ _⟩) fun⟨i,v⟩ H' hQ=> ?_
 obtain⟨hi,l1,o1⟩:=hQ
 refine a0a ?_
 refine a0a ?_
 refine a0e (b:=decide (((i:Nat):Int)<(n:Nat))) rfl (fun h=> ?_) (fun h=> ?_)
 ·replace h:=of_decide_eq_true h
  have hi':i<n:=by omega
  have hst:((List.range (i+1)).filter fun y=>bit set y&&bit (nb es x) y)=((List.range i).filter fun y=>bit set y&&bit (nb es x) y)++if(bit set i&&bit (nb es x) i)=true then[i]else[]:=by rw[List.range_succ,List.filter_append,List.filter_cons,List.filter_nil]
  have hln:(((List.range i).filter fun y=>bit set y&&bit (nb es x) y).map fun y:Nat=>(y:Int)).length<=i:=by rw[List.length_map];exact Nat.le_trans (List.length_filter_le _ _) (by rw[List.length_range];omega)
  refine a0x (a0y (s:=set) (n:=i) hs (by omega)) rfl ?_
  refine a0a ?_
  refine a0e (b:=bit set i) rfl (fun b1=> ?_) (fun b1=> ?_)
  ·skip
   refine a0s (b7h (x:=x) (y:=i) (hw.mono l1) hg) rfl ?_
   refine a0a ?_
   refine a0e (b:=bit (nb es x) i) rfl (fun b2=> ?_) (fun b2=> ?_)
   ·skip
    refine a0B el_int rfl rfl rfl (fun _=>rfl) (fun _=>rfl) l1 o1 (by omega) rfl (fun _=>rfl) rfl fun q5 v5 H5 l5 o5=> ?_
    exact⟨(i+1,v5),by show n-(i+1)<n-i;omega,(a0F rfl (a0k rfl (by omega))),⟨hi',l5,by rw[hst,if_pos (by rw[b1,b2];rfl),List.map_append];exact o5⟩⟩
   ·skip
    exact⟨(i+1,v),by show n-(i+1)<n-i;omega,(a0F rfl (a0k rfl (by omega))),⟨hi',l1,by rw[hst,if_neg (by rw[b1,b2];simp),List.append_nil];exact o1⟩⟩
  ·skip
   exact⟨(i+1,v),by show n-(i+1)<n-i;omega,(a0F rfl (a0k rfl (by omega))),⟨hi',l1,by rw[hst,if_neg (by rw[b1];simp),List.append_nil];exact o1⟩⟩
 ·replace h:=of_decide_eq_false h
  have he:i=n:=by omega
  subst he
  rw[d2w hg set x hs]at o1
  exact a0b rfl ⟨l1,o1.se⟩
def d8F (l:List Int) (x:Int) (i:Nat) (d:Bool) (o:List Int):Prop:=(d=false/\o=l.take i/\∀y∈l.take i,y<=x)\/(d=true/\∃k z,k<i/\(∀y∈l.take k,y<=x)/\l[k]? =some z/\x<z/\o=l.take k++x::(l.take i).drop k)
theorem b7k {z:Int} (hu:SI H u li) (hl:li.length<=1000):Con prog 144 [u,ii z] H fun r H'=>PH.le H H'/\SI H' r (c4Y li z):=by
 refine a0j a0n c4x ?_
 refine a0i (α:=Bool×Nat×List Int×Value) (fun⟨d,i,o,v⟩=>[.bool d,v,ii (i:Nat)]) (fun⟨d,i,o,v⟩=>fun H'=>i<=li.length/\d8F li z i d o/\o.length<=i+1/\PH.le H H'/\OI H H' v o) (fun⟨d,i,o,v⟩=>li.length-i) ((false,0,[],.slice none 0 0)) rfl (⟨Nat.zero_le _,.inl ⟨rfl,rfl,fun y hy=>by cases hy⟩,Nat.zero_le _,PH.le.refl _,SO.nil _ _ _ _ _⟩) fun⟨d,i,o,v⟩ H' hQ=> ?_
 obtain⟨hi,hP,hol,l1,o1⟩:=hQ
 refine a0p el_int (hu.mono l1) ?_
 refine a0a ?_
 refine a0a ?_
 refine a0e (b:=decide (((i:Nat):Int)<(li.length:Nat))) rfl (fun h=> ?_) (fun h=> ?_)
 ·replace h:=of_decide_eq_true h
  have hi':i<li.length:=by omega
  obtain⟨y,hy,_⟩:=a0q hi'
  refine a0a ?_
  refine a0e (b:= !d) rfl (fun b1=> ?_) (fun b1=> ?_)
  ·skip
   obtain⟨-,rfl,hall⟩:d=false/\o=li.take i/\∀y∈li.take i,y<=z:=hP.resolve_right (fun h=>by rw[h.1]at b1;cases b1)
   have hd:d=false:=by simpa using b1
   refine a0t el_int (hu.mono l1) hy fun _=> ?_
   refine a0a ?_
   refine a0a ?_
   refine a0e (b:=decide (y>z)) rfl (fun h2=> ?_) (fun h2=> ?_)
   ·replace h2:=of_decide_eq_true h2
    refine a0B el_int rfl rfl rfl (fun _=>rfl) (fun _=>rfl) l1 o1 (by omega) rfl (fun _=>rfl) rfl fun q5 v5 H5 l5 o5=> ?_
    refine a0t el_int (hu.mono l5) hy fun _=> ?_
    refine a0B el_int rfl rfl rfl (fun _=>rfl) (fun _=>rfl) l5 o5 (by rw[List.length_append];simp only[List.length_cons,List.length_nil];omega) rfl (fun _=>rfl) rfl fun q6 v6 H6 l6 o6=> ?_
    exact⟨(true,i+1,li.take i++[z]++[y],v6),by show li.length-(i+1)<li.length-i;omega,(a5b rfl rfl (a0k rfl (by omega))),⟨hi',.inr ⟨rfl,i,y,by show i<i+1;omega,hall,hy,h2,by show li.take i++[z]++[y]=li.take i++z::(li.take (i+1)).drop i;rw[take_snoc hy,List.drop_append_of_le_length (by rw[List.length_take];omega),List.drop_of_length_le (by rw[List.length_take];omega)];simp⟩,by show(li.take i++[z]++[y]).length<=i+1+1;simp only[List.length_append,List.length_cons,List.length_nil,List.length_take];omega,l6,o6⟩⟩
   ·replace h2:=of_decide_eq_false h2
    refine a0t el_int (hu.mono l1) hy fun _=> ?_
    refine a0B el_int rfl rfl rfl (fun _=>rfl) (fun _=>rfl) l1 o1 (by omega) rfl (fun _=>rfl) rfl fun q5 v5 H5 l5 o5=> ?_
    exact⟨(d,i+1,li.take i++[y],v5),by show li.length-(i+1)<li.length-i;omega,(a5b rfl rfl (a0k rfl (by omega))),⟨hi',.inl ⟨hd,(take_snoc hy).symm,by rw[take_snoc hy];intro f hf;rw[List.mem_append,List.mem_singleton]at hf;rcases hf with hf|rfl;(exact hall f hf);omega⟩,by show(li.take i++[y]).length<=i+1+1;simp only[List.length_append,List.length_cons,List.length_nil,List.length_take];omega,l5,o5⟩⟩
  ·skip
   have hd:d=true:=by simpa using b1
   obtain⟨-,k,z2,hk,hall,hz2,hlt,rfl⟩:=hP.resolve_left (fun h=>by rw[h.1]at hd;cases hd)
   refine a0t el_int (hu.mono l1) hy fun _=> ?_
   refine a0B el_int rfl rfl rfl (fun _=>rfl) (fun _=>rfl) l1 o1 (by omega) rfl (fun _=>rfl) rfl fun q5 v5 H5 l5 o5=> ?_
   exact⟨(d,i+1,(li.take k++z::(li.take i).drop k)++[y],v5),by show li.length-(i+1)<li.length-i;omega,(a5b rfl rfl (a0k rfl (by omega))),⟨hi',.inr ⟨hd,k,z2,by show k<i+1;omega,hall,hz2,hlt,by show(li.take k++z::(li.take i).drop k)++[y]=li.take k++z::(li.take (i+1)).drop k;rw[take_snoc hy,List.drop_append_of_le_length (by rw[List.length_take];omega)];simp⟩,by show((li.take k++z::(li.take i).drop k)++[y]).length<=i+1+1;simp only[List.length_append,List.length_cons,List.length_nil,List.length_take,List.length_drop];omega,l5,o5⟩⟩
 ·replace h:=of_decide_eq_false h
  have he:i=li.length:=by omega
  subst he
  refine a0a ?_
  refine a0e (b:= !d) rfl (fun b1=> ?_) (fun b1=> ?_)
  ·skip
   obtain⟨-,rfl,hall⟩:d=false/\o=li.take li.length/\∀y∈li.take li.length,y<=z:=hP.resolve_right (fun h=>by rw[h.1]at b1;cases b1)
   refine a0B el_int rfl rfl rfl (fun _=>rfl) (fun _=>rfl) l1 o1 (by omega) rfl (fun _=>rfl) rfl fun q5 v5 H5 l5 o5=> ?_
   exact a0b rfl ⟨l5,by rw[c4J (k:=li.length) hall (fun z hz=>by rw[List.getElem?_eq_none (Nat.le_refl _)]at hz;cases hz),List.drop_length];exact o5.se⟩
  ·skip
   have hd:d=true:=by simpa using b1
   obtain⟨-,k,z2,hk,hall,hz2,hlt,rfl⟩:=hP.resolve_left (fun h=>by rw[h.1]at hd;cases hd)
   rw[List.take_length]at o1
   exact a0b rfl ⟨l1,by rw[c4J (k:=k) hall (fun z3 hz=>by rw[hz2]at hz;rw[<-Option.some.inj hz];exact hlt)];exact o1.se⟩
end
end Go.Proofs.YtkcjbfoejpfbbaaGreatDoor
/- Chapter 32: the reference's random spanning trees. -/
namespace Go.GS
open Go.RowKit Go.RX
theorem d5l {P:Program} {ρ:List Value} {a b:SV} {p q:Nat} (ha:D P ρ a=ii (p:Nat)) (hb:D P ρ b=ii (q:Nat)):D P ρ (.op2 .eql .i64 a b)= .bool (decide (p=q)):=by
 show a1y .eql .i64 (intOf (D P ρ a)) (intOf (D P ρ b))=_
 rw[ha,hb]
 show Value.bool (((p:Nat):Int)==((q:Nat):Int))=_
 congr 1
 rw[Bool.eq_iff_iff,beq_iff_eq,decide_eq_true_iff];omega
theorem a3D {P:Program} {ρ:List Value} {a:SV} {p:Nat} (ha:D P ρ a=ii (p:Nat)) (h0:0<p) (h:p<9223372036854775807):D P ρ (.op2 .sub .i64 a (.k (.int .i64 1)))=ii ((p-1:Nat):Int):=by
 obtain⟨k,rfl⟩:∃k,p=k+1:=⟨p-1,by omega⟩
 exact a4V ha (by omega)
end Go.GS
namespace Go.Proofs.YtkcjbfoejpfbbaaGreatDoor
open Go.Proofs.Tryz
open Go.RowKit Go.RX Go.GS
section
variable {H H0:PH} {u v w:Value} {n x y c set til left a b:Nat} {es:List (Nat×Nat)} {l:List Nat} {li:List Int}
theorem mat {l:List Nat} {i y:Nat} (h:l[i]? =some y):(l.map fun y:Nat=>(y:Int))[i]? =some ((y:Nat):Int):=by rw[List.getElem?_map,h];rfl
theorem b7u (l:List Nat):(l.map fun y:Nat=>(y:Int)).length=l.length:=List.length_map _
theorem b0l (pre:List Nat) (y:Nat):(pre++[y])[(pre++[y]).length-1]? =some y:=by simp
theorem b7l (hu:SI H u (l.map fun y:Nat=>(y:Int))) (h0:0<l.length) (hl:l.length<=100000):Con prog 143 [u] H fun r H'=>PH.le H H'/\SI H' r ((a1u l).map fun y:Nat=>(y:Int)):=by
 refine a0j a0n c4v ?_
 obtain⟨a0,ha0,_⟩:=a0q h0
 have hg0:l.getD 0 0=a0:=by rw[List.getD_eq_getElem?_getD,ha0];rfl
 obtain⟨j0,hj0,_⟩:=a4X ha0 h0
 obtain⟨z,hz,_⟩:=a0q (show l.length-1<l.length by omega)
 refine a0t el_int hu (mat ha0) fun _=> ?_
 simp only[cA,nA]
 refine a1Z el_int rfl rfl rfl fun v3 H1 l1 o1 _=> ?_
 simp only[cA,nA]
 refine a0i (α:=Nat×Nat×List Nat×Value) (fun⟨f,y,pre,v⟩=>[v]) (fun⟨f,y,pre,v⟩=>fun H5=>(pre++[y])++b7s l f y=a1u l/\pre.length+f<=l.length/\(∃j,a2Y l l.length y=some j/\l.length<=f+j)/\PH.le H H5/\OI H H5 v ((pre++[y]).map fun y:Nat=>(y:Int))) (fun⟨f,y,pre,v⟩=>f) ((l.length,a0,[],v3)) rfl (⟨by unfold a1u;rw[hg0];rfl,by show 0+l.length<=l.length;omega,⟨j0,hj0,by omega⟩,l1,o1⟩) fun⟨f,y,pre,v⟩ H5 hQ5=> ?_
 simp only[cA,nA]
 obtain⟨hE,hof,⟨j,hj,hfj⟩,l5,o5⟩:=hQ5
 obtain⟨hj1,hj2,hj3⟩:=a2b hj
 have hpl:0<(pre++[y]).length:=by simp
 have hpl2:(pre++[y]).length=pre.length+1:=by simp
 refine a1C el_int rfl rfl o5.se rfl ?_
 simp only[cA,nA]
 rw[b7u]
 refine a0a ?_
 refine a0I el_int rfl rfl rfl rfl (fun _=>rfl) o5.se (mat (b0l pre y)) (a0F rfl (a3D rfl hpl (by omega))) (fun _=>rfl) fun _=> ?_
 simp only[cA,nA]
 refine a0p el_int (hu.mono l5) ?_
 simp only[cA,nA]
 rw[b7u]
 refine a0a ?_
 refine a0I el_int rfl rfl rfl rfl (fun _=>rfl) (hu.mono l5) (mat hz) (a0F rfl (a3D rfl h0 (by omega))) (fun _=>rfl) fun _=> ?_
 simp only[cA,nA]
 refine a0a ?_
 refine a0a ?_
 refine a0o (p:=(y≠z)) (by show Value.bool (((y:Nat):Int) !=((z:Nat):Int))=_;rw[bN];congr 1;apply decide_eq_decide.2;omega) (fun hyz=> ?_) fun hyz=> ?_
 ·have hx:l[l.length-1]?≠some y:=fun e=>by rw[hz]at e;exact hyz (Option.some.inj e).symm
  obtain⟨y2,j2,k1,k2,k3,k4⟩:=b0c hx hj
  refine a1C el_int rfl rfl o5.se rfl ?_
  simp only[cA,nA]
  rw[b7u]
  refine a0a ?_
  refine a0I el_int rfl rfl rfl rfl (fun _=>rfl) o5.se (mat (b0l pre y)) (a0F rfl (a3D rfl hpl (by omega))) (fun _=>rfl) fun _=> ?_
  simp only[cA,nA]
  refine a0p el_int (hu.mono l5) ?_
  simp only[cA,nA]
  rw[b7u]
  refine a0a ?_
  refine a0A (α:=Nat) (fun k=>[ii (k:Nat)]) (fun k=>k<l.length/\∀m,k<m->m<l.length->l[m]?≠some y) (fun k=>k) (l.length-1) (a2S (a3D rfl h0 (by omega))) (⟨by omega,fun m h1 h2=>by omega⟩) fun k hQ=> ?_
  simp only[cA,nA]
  obtain⟨hkl,hkm⟩:=hQ
  obtain⟨q,hq,_⟩:=a0q hkl
  refine a0t el_int (hu.mono l5) (mat hq) fun _=> ?_
  simp only[cA,nA]
  refine a0a ?_
  refine a0a ?_
  refine a0o (p:=(q≠y)) (by show Value.bool (((q:Nat):Int) !=((y:Nat):Int))=_;rw[bN];congr 1;apply decide_eq_decide.2;omega) (fun hqy=> ?_) fun hqy=> ?_
  ·have hk0:0<k:=by
    apply Nat.pos_of_ne_zero
    intro e
    subst e
    by_cases e2:j=0
    ·subst e2;rw[hj2]at hq;exact hqy (Option.some.inj hq).symm
    ·exact hkm j (by omega) hj1 hj2
   refine a0a ?_
   exact⟨k-1,by omega,(a2S (a3D rfl hk0 (by omega))),⟨⟨by omega,fun m h1 h2=>by
    by_cases e:m=k
    ·subst e;rw[hq];exact fun e=>hqy (Option.some.inj e)
    ·exact hkm m (by omega) h2⟩,rfl⟩⟩
  ·have hqy2:q=y:=by omega
   have hkj:k=j:=by
    rcases Nat.lt_trichotomy k j with h1|h1|h1
    ·exact absurd hj2 (hkm j h1 hj1)
    ·exact h1
    ·exact absurd (hqy2 ▸ hq) (hj3 k h1 hkl)
   subst hkj
   refine a0a ?_
   refine a0I el_int rfl rfl rfl rfl (fun _=>rfl) (hu.mono l5) (mat k1) (a0F rfl (a0k rfl (by omega))) (fun _=>rfl) fun _=> ?_
   simp only[cA,nA]
   obtain⟨f,rfl⟩:∃g,f=g+1:=⟨f-1,by omega⟩
   refine a0B el_int rfl rfl rfl (fun _=>rfl) (fun _=>rfl) l5 o5 (by rw[b7u];omega) rfl (fun _=>rfl) rfl fun p7 v7 H7 l7 o7=> ?_
   simp only[cA,nA]
   exact⟨(f,y2,pre++[y],v7),by show f<f+1;omega,(a2S rfl),⟨by rw[<-hE,a7v hx hj k2,List.append_assoc];rfl,by show(pre++[y]).length+f<=l.length;omega,⟨j2,k3,by show l.length<=f+j2;omega⟩,l7,by rw[List.map_append (l₁:=pre++[y])];exact o7⟩⟩
 ·have hyz2:y=z:=by omega
  rw[b0d (by rw[hz,hyz2]),List.append_nil]at hE
  exact a0b rfl ⟨l5,by rw[<-hE];exact o5.se⟩
def WlR (H':PH) (r:Value) (R:Nat ⊕ (List Nat×Nat×Nat)):Prop:=∃v c e,r= .tuple #[v,chV c,ii (e:Nat)]/\((e≠0/\R= .inl e/\c=0)\/(e=0/\∃l left,R= .inr (l,c,left)/\c<M64/\SI H' v (l.map fun y:Nat=>(y:Int))))
theorem b7m (hw:SG H w es) (hg:GV n es) (hs:set<M64) (ht:til<M64) (hc:c<M64) (hx:x<n) (hleft:left<=10000):
  Con prog 142 [gv n w,uv set,ii (x:Nat),uv til,chV c,ii (left:Nat)] H fun r H'=>PH.le H H'/\WlR H' r (a2C es set til left [x] x c):=by
 refine a0j a0n c4u ?_
 have h64:=hg.n64
 refine a0c (a0G hw) ?_
 refine a0c (a0W c) ?_
 refine a1Z el_int rfl rfl rfl fun v6 H1 l1 o1 _=> ?_
 simp only[cA,nA]
 refine a0i (α:=List Nat×Nat×Nat×Nat×Value) (fun⟨pre,y,d,k,v⟩=>[.slice none 0 0,ii 0,v,chV d]) (fun⟨pre,y,d,k,v⟩=>fun H'=>a2C es set til k (pre++[y]) y d=a2C es set til left [x] x c/\y<n/\d<M64/\pre.length+k=left/\PH.le H H'/\OI H H' v ((pre++[y]).map fun y:Nat=>(y:Int))) (fun⟨pre,y,d,k,v⟩=>k) (([],x,c,left,v6)) rfl (⟨rfl,hx,hc,by show 0+left=left;omega,l1,o1⟩) fun⟨pre,y,d,k,v⟩ H' hQ=> ?_
 simp only[cA,nA]
 obtain⟨hR,hy,hd,hlk,l2,o2⟩:=hQ
 have hpl:0<(pre++[y]).length:=by simp
 have hpl2:(pre++[y]).length=pre.length+1:=by simp
 refine a1C el_int rfl rfl o2.se rfl ?_
 simp only[cA,nA]
 rw[b7u]
 refine a0a ?_
 refine a0I el_int rfl rfl rfl rfl (fun _=>rfl) o2.se (mat (b0l pre y)) (a0F rfl (a3D rfl hpl (by omega))) (fun _=>rfl) fun _=> ?_
 simp only[cA,nA]
 refine a0x (a0y (s:=til) (n:=y) ht (by omega)) rfl ?_
 simp only[cA,nA]
 refine a0a ?_
 refine a0e (b:= !bit til y) rfl (fun h=> ?_) (fun h=> ?_)
 ·skip
  have hb:bit til y=false:=by simpa using h
  refine a1C el_int rfl rfl o2.se rfl ?_
  simp only[cA,nA]
  rw[b7u]
  refine a0a ?_
  refine a0a ?_
  refine a0o (p:=((pre++[y]).length-1=left)) (d5l (a3D rfl hpl (by omega)) rfl) (fun hk=> ?_) fun hk=> ?_
  ·have hk0:k=0:=by omega
   subst hk0
   rw[a5t hb]at hR
   exact a0b (by show Value.tuple #[.slice none 0 0,a0O prog _,ii 9]=_;rw[a3e]) ⟨l2,by rw[<-hR];exact⟨_,0,9,rfl,.inl ⟨by decide,rfl,rfl⟩⟩⟩
  ·obtain⟨k,rfl⟩:∃j,k=j+1:=⟨k-1,by omega⟩
   refine a1C el_int rfl rfl o2.se rfl ?_
   simp only[cA,nA]
   rw[b7u]
   refine a0a ?_
   refine a0I el_int rfl rfl rfl rfl (fun _=>rfl) o2.se (mat (b0l pre y)) (a0F rfl (a3D rfl hpl (by omega))) (fun _=>rfl) fun _=> ?_
   simp only[cA,nA]
   refine a0f (b7j (x:=y) (hw.mono l2) hg hs) rfl ?_
   rintro v19 H2 ⟨l3,h3⟩
   refine⟨fun _=>l3,?_⟩
   simp only[cA,nA]
   refine a0p el_int h3 ?_
   simp only[cA,nA]
   rw[b7u]
   have hnl:=b3p es set y
   refine a0v (a3a (n:=(nbl es set y).length) hd (by omega)) rfl fun H3 l4=> ?_
   simp only[cA,nA]
   refine a0m ?_
   refine a0m ?_
   refine a0m ?_
   refine a0c (a0W _) ?_
   refine a0a ?_
   refine a0o (p:=((a1m d (nbl es set y).length).2.2≠0)) (bN0 _) (fun h5=> ?_) fun h5=> ?_
   ·rw[show a2C es set til (k+1) (pre++[y]) y d= .inl (a1m d (nbl es set y).length).2.2 by simp only[a2C,hb,if_neg h5];rfl]at hR
    exact a0b (by show Value.tuple #[.slice none 0 0,a0O prog _,ii ((a1m d (nbl es set y).length).2.2:Nat)]=_;rw[a3e]) ⟨(l2.trans l3).trans l4,by rw[<-hR];exact⟨_,0,_,rfl,.inl ⟨h5,rfl,rfl⟩⟩⟩
   ·have h0:(a1m d (nbl es set y).length).2.2=0:=by omega
    obtain⟨q,hq,_⟩:=a0q (a7u h0)
    have hgq:(nbl es set y).getD (a1m d (nbl es set y).length).1 0=q:=by rw[List.getD_eq_getElem?_getD,hq];rfl
    have hqn:q<n:=c4i hg h64 hs (List.mem_of_getElem? hq)
    refine a0t el_int (h3.mono l4) (mat hq) fun _=> ?_
    simp only[cA,nA]
    refine a0B el_int rfl rfl rfl (fun _=>rfl) (fun _=>rfl) ((l2.trans l3).trans l4) (o2.mono (l3.trans l4)) (by rw[b7u];omega) rfl (fun _=>rfl) rfl fun p7 v7 H7 l7 o7=> ?_
    simp only[cA,nA]
    exact⟨(pre++[y],q,(a1m d (nbl es set y).length).2.1,k,v7),by show k<k+1;omega,(c8z rfl rfl rfl rfl),⟨by rw[<-hR];simp only[a2C,hb,if_pos h0,hgq];rfl,hqn,a2B _ _,by show(pre++[y]).length+k=left;omega,l7,by rw[List.map_append (l₁:=pre++[y])];exact o7⟩⟩
 ·skip
  have hb:bit til y=true:=by simpa using h
  rw[a4W hb]at hR
  exact a0b rfl ⟨l2,by rw[<-hR];exact⟨v,d,0,rfl,.inr ⟨rfl,_,_,rfl,hd,o2.se⟩⟩⟩
set_option maxHeartbeats 1000000 in
theorem b7n {x0:Nat} {r0:List Nat} (hw:SG H w es) (hg:GV n es) (hn:n<=9) (h0:set≠0) (hs:set<2^n) (hcn:cnB es set=true) (hc:c<M64) (hel:els set=x0::r0):Con prog 74 [gv n w,uv set,chV c] H fun r H'=>PH.le H H'/\DraR H' r (a2l es set n n (2^x0) [] c 10000):=by
 refine a0j a0n c4y ?_
 have h64:n<=64:=by omega
 have hs':=a0V h64 hs
 obtain⟨hb0,hx0,hlow⟩:=a2w hel
 have hx0n:=b3c hs hb0
 have hcar0:1<=card (2^x0):=by
  have:=a4Y [x0] 0 (by simp) (fun y hy=>by obtain rfl:=List.mem_singleton.1 hy;exact⟨a0P _,hx0⟩)
  have e:orL 0 [x0]=2^x0:=by unfold orL;simp
  rw[e]at this;simp at this;omega
 refine a0c (a0G hw) ?_
 refine a0c (a0W c) ?_
 refine a0s (a8s hw hg hs') rfl ?_
 simp only[cA,nA]
 rw[if_pos hs]
 refine a0a ?_
 refine a0l (bF (p:=(0:Int)≠0) (by simp)) ?_
 refine a0a ?_
 refine a0l (by show Value.bool (((set:Nat):Int)==0)=_;rw[bE0,decide_eq_false h0]) ?_
 refine a0v (a2V hw hg hs) rfl fun H1 l1=> ?_
 simp only[cA,nA]
 rw[hcn]
 refine a0a ?_
 refine a0l rfl ?_
 refine a0i (α:=Nat×Nat×List Int×Nat×Nat×Value) (fun⟨i,d,tr,cc,left,vt⟩=>[.slice none 0 0,ii 0,ii (left:Nat),uv (if i<=x0 then 0 else d),vt,ii (i:Nat),chV cc]) (fun⟨i,d,tr,cc,left,vt⟩=>fun H'=>a2l es set n (n-i) d tr cc left=a2l es set n n (2^x0) [] c 10000/\i<=n/\d<2^n/\(i<=x0->d=2^x0)/\tr.length+1<=card d/\cc<M64/\left<=10000/\PH.le H H'/\SI H' vt (a5M tr)) (fun⟨i,d,tr,cc,left,vt⟩=>n-i) ((0,2^x0,[],c,10000,.slice none 0 0)) rfl (⟨rfl,Nat.zero_le _,Nat.pow_lt_pow_right (by decide) hx0n,fun _=>rfl,hcar0,hc,Nat.le_refl _,l1,SE.nil _ _ _⟩) fun⟨i,d,tr,cc,left,vt⟩ H' hQ=> ?_
 simp only[cA,nA]
 obtain⟨hR,hi,hd,hdx,htl,hcc,hleft,l3,o3⟩:=hQ
 have hd':=a0V h64 hd
 refine a0a ?_
 refine a0a ?_
 refine a0e (b:=decide (((i:Nat):Int)<(n:Nat))) rfl (fun h=> ?_) (fun h=> ?_)
 ·replace h:=of_decide_eq_true h
  have hi':i<n:=by omega
  obtain⟨k,hk⟩:∃k,n-i=k+1:=⟨n-i-1,by omega⟩
  have hki:n-(k+1)=i:=by omega
  have hk':n-(i+1)=k:=by omega
  have hdr:(if i<=x0 then 0 else d)<M64:=by split;exact a2s;exact hd'
  have hskip:¬(bit set i=true/\bit d i=false)->a2l es set n (n-(i+1)) d tr cc left=a2l es set n n (2^x0) [] c 10000:=fun hsk=>by rw[hk',<-hR,hk];simp only[a2l,hki,if_neg hsk]
  refine a0x (a0y (s:=set) (n:=i) hs' (by omega)) rfl ?_
  simp only[cA,nA]
  refine a0a ?_
  refine a0e (b:= !bit set i) rfl (fun h1=> ?_) (fun h1=> ?_)
  ·skip
   have h1':bit set i=false:=by simpa using h1
   have hsame:i≠x0->(if i<=x0 then 0 else d)=(if i+1<=x0 then 0 else d):=fun hne=>by
    by_cases e:i<=x0
    ·rw[if_pos e,if_pos (by omega)]
    ·rw[if_neg e,if_neg (by omega)]
   have hne:i≠x0:=fun e=>by subst e;rw[hb0]at h1';cases h1'
   exact⟨(i+1,d,tr,cc,left,vt),by show n-(i+1)<n-i;omega,(d2r rfl rfl rfl (by show uv (if i<=x0 then 0 else d)=uv (if i+1<=x0 then 0 else d);rw[hsame hne]) rfl (a0k rfl (by omega)) rfl),⟨hskip (fun e=>by rw[h1']at e;cases e.1),hi',hd,fun e=>hdx (by have:i+1<=x0:=e;omega),htl,hcc,hleft,l3,o3⟩⟩
  ·skip
   have h1':bit set i=true:=by simpa using h1
   have hxi:x0<=i:=by apply Nat.le_of_not_lt;intro e;have:=hlow i e;rw[h1']at this;cases this
   refine a0x (a0y (s:=if i<=x0 then 0 else d) (n:=i) hdr (by omega)) rfl ?_
   simp only[cA,nA]
   refine a0a ?_
   refine a0e (b:=bit (if i<=x0 then 0 else d) i) rfl (fun h2=> ?_) (fun h2=> ?_)
   ·skip
    have hix:¬i<=x0:=fun e=>by rw[if_pos e,a0P]at h2;cases h2
    rw[if_neg hix]at h2
    exact⟨(i+1,d,tr,cc,left,vt),by show n-(i+1)<n-i;omega,(d2r rfl rfl rfl (by show uv _=uv _;rw[if_neg hix,if_neg (show ¬i+1<=x0 by omega)]) rfl (a0k rfl (by omega)) rfl),⟨hskip (fun e=>by rw[h2]at e;cases e.2),hi',hd,fun e=>hdx (by have:i+1<=x0:=e;omega),htl,hcc,hleft,l3,o3⟩⟩
   ·skip
    refine a0a ?_
    refine a0o (p:=((if i<=x0 then 0 else d)=0)) (bE0 _) (fun h3=> ?_) fun h3=> ?_
    ·have hix:i=x0:=by
      by_cases e:i<=x0
      ·omega
      ·rw[if_neg e]at h3;subst h3;have:card 0=0:=rfl;omega
     have hde:=hdx (by omega)
     refine a0x (a1j (n:=i) (by omega)) rfl ?_
     simp only[cA,nA]
     exact⟨(i+1,d,tr,cc,left,vt),by show n-(i+1)<n-i;omega,(d2r rfl rfl rfl (by show uv _=uv _;rw[if_neg (show ¬i+1<=x0 by omega),hde,hix]) rfl (a0k rfl (by omega)) rfl),⟨hskip (fun e=>by rw[hde,hix,b0e]at e;simp at e),hi',hd,fun e=>hdx (by have:i+1<=x0:=e;omega),htl,hcc,hleft,l3,o3⟩⟩
    ·have hix:¬i<=x0:=fun e=>h3 (if_pos e)
     rw[if_neg hix]at h2 h3 hdr⊢
     have hsk:bit set i=true/\bit d i=false:=⟨h1',h2⟩
     refine a0f (b7m (hw.mono l3) hg hs' hd' hcc hi' hleft) rfl ?_
     rintro r14 H4 ⟨l4,v,c',e,rfl,hcase⟩
     refine⟨fun h=>(nomatch h),?_⟩
     simp only[cA,nA]
     refine a0m ?_
     refine a0m ?_
     refine a0m ?_
     refine a0c (a0W c') ?_
     refine a0a ?_
     refine a0o (p:=(e≠0)) (bN0 e) (fun h5=> ?_) fun h5=> ?_
     ·obtain⟨-,hW,hc0⟩:=hcase.resolve_right (fun h=>h5 h.1)
      exact a0b (by show Value.tuple #[.slice none 0 0,a0O prog _,ii (e:Nat)]=_;rw[a3e]) ⟨l3.trans l4,by
       rw[hk]at hR
       simp only[a2l,hki,if_pos hsk,hW]at hR
       rw[<-hR]
       exact⟨h5,rfl⟩⟩
     ·obtain⟨he0,W0,left',hW,hc',o4⟩:=hcase.resolve_left (fun h=>h5 (by omega)|>.elim)
      subst he0
      obtain⟨hWl,hWk,hWn,hWc,hWd⟩:=c4l hg h64 hs' hi' hd hW
      refine a0p el_int o4 ?_
      simp only[cA,nA]
      rw[b7u]
      refine a0a ?_
      refine a0a ?_
      refine a0f (b7l o4 hWl (by omega)) rfl ?_
      rintro v16 H5 ⟨l5,o5⟩
      refine⟨fun h=>(nomatch h),?_⟩
      simp only[cA,nA]
      have hcW:=b0f hWd h64
      have hpos:0<(a1u W0).length:=by unfold a1u;simp
      refine a0i (α:=Nat×Value) (fun⟨j,vt2⟩=>[uv (orL d ((a1u W0).take j)),vt2,ii (j:Nat)]) (fun⟨j,vt2⟩=>fun H6=>j<=(a1u W0).length/\PH.le H5 H6/\SI H6 vt2 (a5M (tr++edW es (a1u W0) j))) (fun⟨j,vt2⟩=>(a1u W0).length-j) ((0,vt)) rfl (⟨Nat.zero_le _,PH.le.refl _,by show SI H5 vt (a5M (tr++[]));rw[List.append_nil];exact o3.mono (l4.trans l5)⟩) fun⟨j,vt2⟩ H6 hQ6=> ?_
      simp only[cA,nA]
      obtain⟨hj,l6,o6⟩:=hQ6
      refine a0p el_int (o5.mono l6) ?_
      simp only[cA,nA]
      rw[b7u]
      refine a0a ?_
      refine a0a ?_
      refine a0e (b:=decide (((j:Nat):Int)<((a1u W0).length:Nat))) rfl (fun h6=> ?_) (fun h6=> ?_)
      ·replace h6:=of_decide_eq_true h6
       have hj':j<(a1u W0).length:=by omega
       obtain⟨y,hy,_⟩:=a0q hj'
       have hyn:y<n:=hWn y (List.mem_of_getElem? hy)
       have hgy:(a1u W0).getD j 0=y:=by rw[List.getD_eq_getElem?_getD,hy];rfl
       have hor:orL d ((a1u W0).take j)<M64:=a0V h64 (c4j _ _ hd fun z hz=>hWn z (List.mem_of_mem_take hz))
       have hornx:orL d ((a1u W0).take (j+1))=orL d ((a1u W0).take j)|||2^y:=by rw[take_snoc hy,a2Z]
       refine a0t el_int (o5.mono l6) (mat hy) fun _=> ?_
       simp only[cA,nA]
       refine a0x (a1j (n:=y) (by omega)) rfl ?_
       simp only[cA,nA]
       refine a0a ?_
       refine a0a ?_
       refine a0e (b:=decide (((j:Nat):Int)>0)) rfl (fun h7=> ?_) (fun h7=> ?_)
       ·replace h7:=of_decide_eq_true h7
        obtain⟨q,rfl⟩:∃q,j=q+1:=⟨j-1,by omega⟩
        obtain⟨z,hz,_⟩:=a0q (show q<(a1u W0).length by omega)
        have hgz:(a1u W0).getD (q+1-1) 0=z:=by rw[show q+1-1=q by omega,List.getD_eq_getElem?_getD,hz];rfl
        refine a0I el_int rfl rfl rfl rfl (fun _=>rfl) (o5.mono l6) (mat hz) (a0F rfl (a4V rfl (by omega))) (fun _=>rfl) fun _=> ?_
        simp only[cA,nA]
        refine a0t el_int (o5.mono l6) (mat hy) fun _=> ?_
        simp only[cA,nA]
        refine a0s (b7i (x:=z) (y:=y) (hw.mono (((l3.trans l4).trans l5).trans l6)) hg) rfl ?_
        simp only[cA,nA]
        refine a0f (b7k o6 (by rw[(a7w _).1.length_eq,List.length_append,a5u];omega)) rfl ?_
        rintro v29 H7 ⟨l7,o7⟩
        refine⟨fun _=>l7,?_⟩
        simp only[cA,nA]
        exact⟨(q+1+1,v29),by show(a1u W0).length-(q+1+1)<(a1u W0).length-(q+1);omega,(a5b (by rw[hornx];exact a4q rfl rfl hor (a0R (by omega))) rfl (a0k rfl (by omega))),⟨hj',l6.trans l7,by show SI H7 v29 (a5M (tr++edW es (a1u W0) (q+1+1)));rw[a4Z,if_neg (by omega),<-List.append_assoc,c4k,hgy,hgz,Nat.min_comm,Nat.max_comm];exact o7⟩⟩
       ·replace h7:=of_decide_eq_false h7
        have hj0:j=0:=by omega
        subst hj0
        exact⟨(0+1,vt2),by show(a1u W0).length-(0+1)<(a1u W0).length-0;omega,(a5b (by rw[hornx];exact a4q rfl rfl hor (a0R (by omega))) rfl (a0k rfl (by omega))),⟨hj',l6,by show SI H6 vt2 (a5M (tr++edW es (a1u W0) (0+1)));rw[a4Z,if_pos rfl,List.append_nil];exact o6⟩⟩
      ·replace h6:=of_decide_eq_false h6
       have hje:j=(a1u W0).length:=by omega
       subst hje
       rw[List.take_length]
       exact⟨(i+1,orL d (a1u W0),tr++edW es (a1u W0) (a1u W0).length,c',left',vt2),by show n-(i+1)<n-i;omega,(d2r rfl rfl ((a3s (x:=(left:Nat)) (y:=((W0.length-1:Nat):Int)) rfl (a3D rfl hWl (by omega)) (by omega) (by omega)).trans (by show ii (((left:Nat):Int)-((W0.length-1:Nat):Int))=ii ((left':Nat):Int);congr 1;omega)) (by show uv _=uv _;rw[if_neg (show ¬i+1<=x0 by omega)]) rfl (a0k rfl (by omega)) rfl),⟨by show a2l es set n (n-(i+1)) _ _ _ _=_;rw[hk',<-hR,hk];simp only[a2l,hki,if_pos hsk,hW],hi',hWd,fun e=>absurd (show i+1<=x0 from e) (by omega),by show(tr++edW es (a1u W0) (a1u W0).length).length+1<=card (orL d (a1u W0));rw[List.length_append,a5u];omega,hc',by show left'<=10000;omega,((l3.trans l4).trans l5).trans l6,o6⟩⟩
 ·replace h:=of_decide_eq_false h
  have hin:i=n:=by omega
  subst hin
  rw[Nat.sub_self]at hR
  exact a0b rfl ⟨l3,by rw[<-hR];exact⟨hcc,vt,rfl,o3⟩⟩
end
end Go.Proofs.YtkcjbfoejpfbbaaGreatDoor

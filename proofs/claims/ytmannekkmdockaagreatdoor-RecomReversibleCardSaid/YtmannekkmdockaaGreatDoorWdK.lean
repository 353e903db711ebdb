/- Contracts of package wide: products. -/
import Derived.Test.YtmannekkmdockaaGreatDoorWdM
import Derived.Test.YtmannekkmdockaaGreatDoorRxT
namespace Go.Proofs.YtmannekkmdockaaGreatDoor
open Go.Proofs.Tryz
open Go.RowKit Go.RX Go.WD Go.IntWalk
theorem a1N (a:Nat) (ha:a<18446744073709551616):IntKind.u64.wrap (a:Int)=(a:Int):=by rw[IntKind.wrap_u64];omega
theorem d3K (a:Nat):IntKind.u64.wrap (a:Int)=((a%18446744073709551616:Nat):Int):=by rw[IntKind.wrap_u64];omega
theorem c7E (a b:Nat):(a:Int)*(b:Int)=((a*b:Nat):Int):=(Int.natCast_mul a b).symm
theorem b8A (a b:Nat):(a:Int)+(b:Int)=((a+b:Nat):Int):=(Int.natCast_add a b).symm
theorem c4D (a:Nat):(a:Int).fdiv (2^min (Int.toNat 32) (IntKind.bits .u64))=((a/4294967296:Nat):Int):=a5W a 32 (by omega)
theorem b2r (x y:Nat) (hx:x<18446744073709551616) (hy:y<18446744073709551616):Det prog 240 [.int .u64 x,.int .u64 y] (.tuple #[.int .u64 ((x*y/18446744073709551616:Nat):Int),.int .u64 ((x*y%18446744073709551616:Nat):Int)]):=by
 obtain⟨bd,bt,bw,hhi⟩:=Lib.mul64_hi x y hx hy
 have ba:=Lib.half_mul_le (a:=x/4294967296) (b:=y/4294967296) (by omega) (by omega)
 have bb:=Lib.half_mul_le (a:=x/4294967296) (b:=y%4294967296) (by omega) (by omega)
 have bc:=Lib.half_mul_le (a:=x%4294967296) (b:=y/4294967296) (by omega) (by omega)
 have ba':x/4294967296*(y/4294967296)<18446744073709551616:=by omega
 have bb':x/4294967296*(y%4294967296)<18446744073709551616:=by omega
 have bc':x%4294967296*(y/4294967296)<18446744073709551616:=by omega
 have bh1:x/4294967296*(y/4294967296)+(x/4294967296*(y%4294967296)+x%4294967296*(y%4294967296)/4294967296)/4294967296<18446744073709551616:=by omega
 have bh:x/4294967296*(y/4294967296)+(x/4294967296*(y%4294967296)+x%4294967296*(y%4294967296)/4294967296)/4294967296+((x/4294967296*(y%4294967296)+x%4294967296*(y%4294967296)/4294967296)%4294967296+x%4294967296*(y/4294967296))/4294967296<18446744073709551616:=by
  have:=(Nat.div_lt_iff_lt_mul (show 0<18446744073709551616 by omega)).2 (Nat.mul_lt_mul'' hx hy)
  omega
 refine a0C mixed c4r (by kernel_rfl) rfl (a0m ⟨_,rfl⟩ (a0m ⟨_,rfl⟩ (a1d ?_ rfl)))
 simp only[rxs,a4M,c4D,b2q x hx,b2q y hy,c7E,b8A,a1N _ bd,a1N _ bb',a1N _ bt,b2q _ bt,a1N _ bc',a1N _ bw,a1N _ ba',a1N _ bh1,a1N _ bh,d3K (x*y)]
 rw[hhi]
section
variable {o:Oper} {x y:Operand} {H:PH} {b q n T:Nat} {f:Nat->Nat} {vs:List Value}
theorem b7A {m:Int} (ho:o.op= .indexAddr 336 x y) (hx:a0f [x,y] [.pointer (some ⟨b,0,none⟩),.int .i64 m] x= .pointer (some ⟨b,0,none⟩)) (hy:a0f [x,y] [.pointer (some ⟨b,0,none⟩),.int .i64 m] y= .int .i64 m) (h0:0<=m) (h1:m<16):Yld prog o [.pointer (some ⟨b,0,none⟩),.int .i64 m] (.pointer (some ⟨b,m.toNat,none⟩)):=by
 have:=a3b (P:=prog) (len:=16) (e:=54) ho hx hy (by kernel_rfl) (by kernel_rfl) h0 h1
 rw[show prog.cellsOf 54=1 from by kernel_rfl,Nat.zero_add,Nat.mul_one]at this
 exact this
theorem d6j {fz:Nat×Nat} (ho:o.op= .load 54 x) (hx:a0f [x] [.pointer (some ⟨b,q,none⟩)] x= .pointer (some ⟨b,q,none⟩)) (hH:H b=some (.cells (wa n f) T fz)) (hq:q<n):Rds prog o [.pointer (some ⟨b,q,none⟩)] H (.int .u64 (f q)):=by
 have h1:prog.cellsOf 54=1:=by kernel_rfl
 have:=a2k (P:=prog) ho hx hH (by kernel_rfl) (by rw[h1,a7Q];omega) (fun _=>by rw[a7Q];exact hq)
 rw[show a0N prog 54=false from by kernel_rfl,d3D f hq]at this
 exact this
theorem d6B {d:Nat} (ho:o.op= .store 54 x y) (hx:a0f [x,y] [.pointer (some ⟨b,q,none⟩),.int .u64 d] x= .pointer (some ⟨b,q,none⟩)) (hy:a0f [x,y] [.pointer (some ⟨b,q,none⟩),.int .u64 d] y= .int .u64 d) (hH:H b=some (.cells (wa n f) T (0,0))) (hq:q<n):
  Opn prog o [.pointer (some ⟨b,q,none⟩),.int .u64 d] H fun u H'=>u=undef/\H'=H.put b (.cells (wa n fun j=>if j=q then d else f j) T (0,0)):=by
 have h1:prog.cellsOf 54=1:=by kernel_rfl
 have:=a3a (P:=prog) ho hx hy hH (by kernel_rfl) (by rw[h1,a7Q];omega) (by rw[h1];rfl) (b3R _ _)
 rw[d3r,d3F f hq]at this
 exact this
end
theorem b5o (k:Nat) (h:k<=9223372036854775807):IntKind.i64.wrap (k:Int)=(k:Int):=i64_in _ ⟨by omega,by omega⟩
theorem d7s (k:Nat) (j:Nat):(k:Int)+(j:Int)=((k+j:Nat):Int):=by omega
set_option maxRecDepth 100000 in
theorem b7B (x y N c:Nat) (hx:x<18446744073709551616) (hy:y<18446744073709551616) (hc:c<=14) (H:PH) (b T:Nat) (hH:H b=some (.cells (wa 16 (dig N)) T (0,0))):
  Con prog 263 [.int .u64 x,.int .u64 y,.int .i64 c,.pointer (some ⟨b,0,none⟩)] H fun v H'=>v= .tuple #[]/\H'=H.put b (.cells (wa 16 (dig (N+x*y*PW c))) T (0,0)):=by
 have hp:=b7y hx hy
 have hhi:x*y/18446744073709551616<18446744073709551616:=by
  rw[b9C]at hp
  exact(Nat.div_lt_iff_lt_mul (by omega)).2 hp
 obtain⟨a1,a2⟩:=g0 (N:=N) (p:=x*y) (c:=c)
 obtain⟨b1,b2⟩:=g1 (N:=N) (p:=x*y) (c:=c) hp
 refine a0b mixed b9t (by kernel_rfl) rfl (a0u (b2r x y hx hy) rfl (a0a ⟨_,rfl,Nat.zero_lt_succ _⟩ (a0a ⟨_,rfl,Nat.lt_succ_self _⟩ ?_)))
 refine a0g ((b7A (b:=b) (m:=c) rfl rfl rfl (by omega) (by omega)).rds _) rfl ?_
 rw[Int.toNat_natCast]
 refine a0g (d6j (f:=dig N) rfl rfl hH (by omega)) rfl ?_
 refine a4R (a3d (dig N c) (x*y%18446744073709551616) 0 (a2x _ _) (Nat.mod_lt _ (by omega)) (by omega)) rfl ?_
 rw[a1,a2]
 refine a0a ⟨_,rfl,Nat.zero_lt_succ _⟩ (a0a ⟨_,rfl,Nat.lt_succ_self _⟩ ?_)
 refine a0g ((b7A (b:=b) (m:=c) rfl rfl rfl (by omega) (by omega)).rds _) rfl ?_
 rw[Int.toNat_natCast]
 have hq16:c<16:=by omega
 refine a0l (d6B (d:=dig (N+x*y*PW c) c) rfl rfl rfl hH hq16) (by simp only[rxs]) ?_
 rintro v H1 ⟨rfl,rfl⟩
 refine⟨(fun h=>nomatch h),a0a ⟨_,rfl⟩ ?_⟩
 have e1:IntKind.i64.wrap ((c:Int)+1)=((c+1:Nat):Int):=b5o (c+1) (by omega)
 refine a0g ((b7A (b:=b) (m:=((c+1:Nat):Int)) rfl rfl rfl (by omega) (by omega)).rds _) (by simp only[rxs,e1]) ?_
 rw[Int.toNat_natCast]
 refine a0g (d6j (q:=c+1) rfl rfl (PH.put_self _ _ _) (by omega)) rfl ?_
 rw[if_neg (show ¬c+1=c by omega)]
 refine a4R (a3d (dig N (c+1)) (x*y/18446744073709551616) (cr N (x*y*PW c) (c+1)) (a2x _ _) hhi (d3u _ _ _)) rfl ?_
 rw[b1,b2]
 refine a0a ⟨_,rfl,Nat.zero_lt_succ _⟩ (a0a ⟨_,rfl,Nat.lt_succ_self _⟩ ?_)
 refine a0g ((b7A (b:=b) (m:=((c+1:Nat):Int)) rfl rfl rfl (by omega) (by omega)).rds _) (by simp only[rxs,e1]) ?_
 rw[Int.toNat_natCast]
 refine a0l (d6B (q:=c+1) (n:=16) (d:=dig (N+x*y*PW c) (c+1)) rfl rfl rfl (PH.put_self _ _ _) (by omega)) (by simp only[rxs]) ?_
 rintro v H1 ⟨rfl,rfl⟩
 refine⟨(fun h=>nomatch h),?_⟩
 rw[PH.put_put]
 simp only[cA,nA]
 refine⟨fun l H'=>∃k,c+2<=k/\k<=16/\l=[.int .u64 (cr N (x*y*PW c) k),.int .i64 (k:Nat)]/\H'=H.put b (.cells (wa 16 fun i=>if i<k then dig (N+x*y*PW c) i else dig N i) T (0,0)),fun l _=>(16-intOf (l.getD 1 undef)).toNat,⟨c+2,Nat.le_refl _,by omega,?_,?_⟩,?_⟩
 ·have e2:IntKind.i64.wrap ((c:Int)+2)=((c+2:Nat):Int):=b5o (c+2) (by omega)
  simp only[rxs,e2]
 ·congr 2
  refine a6Y fun i _=> ?_
  by_cases h1:i=c+1
  ·subst h1;simp
  ·by_cases h2:i=c
   ·subst h2;simp
   ·rw[if_neg h1,if_neg h2]
    by_cases h3:i<c
    ·rw[if_pos (by omega)]
     have h4:=a7M N (x*y*PW c) i
     rw[b2p _ h3,b5j _ _ (by omega)]at h4
     rw[h4,Nat.add_zero,Nat.mod_eq_of_lt (a2x _ _)]
    ·rw[if_neg (by omega)]
 ·rintro vals H'-⟨k,hk1,hk2,rfl,rfl⟩
  obtain⟨c1,c2⟩:=gk (N:=N) (p:=x*y) (c:=c) hp hk1
  simp only[cA,nA]
  refine a0a ⟨_,rfl⟩ (a0e (b:=decide (((cr N (x*y*PW c) k:Nat):Int)>0)) rfl (fun h=> ?_) (fun h=> ?_))
  ·refine a0a ⟨_,rfl⟩ (a0e (b:=decide (k=16)) ?_ (fun h2=> ?_) (fun h2=> ?_))
   ·simp only[rxs]
    congr 1
    rw[Bool.eq_iff_iff];simp;omega
   ·have h2:k=16:=by simpa using h2
    subst h2
    refine a0c rfl ⟨rfl,?_⟩
    congr 2
   ·have h2:k≠16:=by simpa using h2
    refine a0g ((b7A (b:=b) (m:=(k:Int)) rfl rfl rfl (by omega) (by omega)).rds _) rfl ?_
    rw[Int.toNat_natCast]
    refine a0g (d6j (q:=k) rfl rfl (PH.put_self _ _ _) (by omega)) rfl ?_
    rw[if_neg (Nat.lt_irrefl k)]
    refine a4R (a3d (dig N k) 0 (cr N (x*y*PW c) k) (a2x _ _) (by omega) (d3u _ _ _)) rfl ?_
    rw[c1,c2]
    refine a0a ⟨_,rfl,Nat.zero_lt_succ _⟩ (a0a ⟨_,rfl,Nat.lt_succ_self _⟩ ?_)
    refine a0g ((b7A (b:=b) (m:=(k:Int)) rfl rfl rfl (by omega) (by omega)).rds _) rfl ?_
    rw[Int.toNat_natCast]
    refine a0l (d6B (q:=k) (n:=16) (d:=dig (N+x*y*PW c) k) rfl rfl rfl (PH.put_self _ _ _) (by omega)) (by simp only[rxs]) ?_
    rintro v H1 ⟨rfl,rfl⟩
    refine⟨(fun h=>nomatch h),?_⟩
    rw[PH.put_put]
    have e3:IntKind.i64.wrap ((k:Int)+1)=((k+1:Nat):Int):=b5o (k+1) (by omega)
    refine⟨⟨k+1,by omega,by omega,?_,?_⟩,?_⟩
    ·simp only[rxs,e3]
    ·congr 2
     exact a6Y fun i _=>b5h _ _ k i
    ·simp only[rxs,e3]
     omega
  ·have h0:cr N (x*y*PW c) k=0:=by simp at h;omega
   have hend:=d7N (N:=N) hp hk1 h0
   refine a0c rfl ⟨rfl,?_⟩
   congr 2
   refine a6Y fun i _=> ?_
   split
   ·rfl
   ·rename_i hi;exact(hend i (by omega)).2.symm
theorem z16:(a0I prog 336).cells=wa 16 (dig 0):=by
 have:a0I prog 336= .agg #[.int .u64 0,.int .u64 0,.int .u64 0,.int .u64 0,.int .u64 0,.int .u64 0,.int .u64 0,.int .u64 0,.int .u64 0,.int .u64 0,.int .u64 0,.int .u64 0,.int .u64 0,.int .u64 0,.int .u64 0,.int .u64 0]:=by kernel_rfl
 rw[this,a6Y (g:=fun _=>0) (fun i _=>a4q i)]
 rfl
theorem d7O (N:Nat):Value.agg ((wa 16 (dig N)).extract 0 8)=wd N:=rfl
theorem b7C:a4B prog 263=true:=by kernel_rfl
set_option maxRecDepth 100000 in
set_option maxHeartbeats 1000000 in
theorem b7D (A B:Nat) (hA:A<M) (hB:B<M):Det prog 236 [wd A,wd B] (.tuple #[wd (A*B),.int .u64 (orn (A*B) 8)]):=by
 rw[a3t]at hA hB
 refine a9t (a0b mixed c4q (by kernel_rfl) rfl (a0a ⟨words_size A,words_one A⟩ (a0a ⟨words_size B,words_one B⟩ ?_)))
 intro b hb
 rw[show D prog [wd A,wd B] (.z 336)=a0I prog 336 from rfl,z16]
 refine a0l ((a1j (vs:=[.pointer (some ⟨b,0,none⟩)]) rfl rfl).opn _) rfl ?_
 rintro v H1 ⟨rfl,rfl⟩
 refine⟨(fun h=>nomatch h),?_⟩
 simp only[cA,nA]
 refine⟨fun l H'=>∃i,i<=8/\l=[.int .i64 (i:Nat)]/\H'=PH.nil.put b (.cells (wa 16 (dig (acc A B i 0))) 336 (0,0)),fun l _=>(8-intOf (l.getD 0 undef)).toNat,⟨0,by omega,rfl,by rw[c4x]⟩,?_⟩
 rintro vals H'-⟨i,hi,rfl,rfl⟩
 simp only[cA,nA]
 refine a0a ⟨_,rfl⟩ (a0e (b:=decide ((i:Int)<8)) rfl (fun h=> ?_) (fun h=> ?_))
 ·have hi:i<8:=by simp at h;omega
  refine a0a ⟨_,_,rfl⟩ (a0a ⟨?_,?_⟩ ?_)
  ·show(0:Int)<=(i:Int);omega
  ·show(i:Int)<8;omega
  refine⟨fun l H'=>∃j,j<=8/\l=[.int .i64 (j:Nat)]/\H'=PH.nil.put b (.cells (wa 16 (dig (acc A B i j))) 336 (0,0)),fun l _=>(8-intOf (l.getD 0 undef)).toNat,⟨0,by omega,rfl,rfl⟩,?_⟩
  rintro vals H'-⟨j,hj,rfl,rfl⟩
  simp only[cA,nA]
  have e3:IntKind.i64.wrap ((i:Int)+1)=((i+1:Nat):Int):=b5o (i+1) (by omega)
  have e4:IntKind.i64.wrap ((j:Int)+1)=((j+1:Nat):Int):=b5o (j+1) (by omega)
  refine a0a ⟨_,rfl⟩ (a0e (b:=decide ((j:Int)<8)) rfl (fun h=> ?_) (fun h=> ?_))
  ·have hj:j<8:=by simp at h;omega
   have hstep:=c4y A B i j
   refine a0a ⟨_,_,rfl⟩ (a0a ⟨?_,?_⟩ (a0a ⟨dig A i,by simp only[rxs,a1b A hi]⟩ ?_))
   ·show(0:Int)<=(j:Int);omega
   ·show(j:Int)<8;omega
   have hnext:∀H',H'=PH.nil.put b (.cells (wa 16 (dig (acc A B i (j+1)))) 336 (0,0))->(∃j',j'<=8/\[Value.int .i64 (IntKind.i64.wrap ((j:Int)+1))]=[.int .i64 (j':Nat)]/\H'=PH.nil.put b (.cells (wa 16 (dig (acc A B i j'))) 336 (0,0)))/\(8-intOf ([Value.int .i64 (IntKind.i64.wrap ((j:Int)+1))].getD 0 undef)).toNat<(8-intOf ([Value.int .i64 (j:Nat)].getD 0 undef)).toNat:=fun H' hH'=>by
    refine⟨⟨j+1,by omega,by rw[e4],hH'⟩,?_⟩
    simp only[List.getD_cons_zero,intOf,e4]
    omega
   refine a0e (b:=decide (dig A i≠0)) ?_ (fun h1=> ?_) (fun h1=> ?_)
   ·simp only[rxs,a1b A hi]
    congr 1
    rw[Bool.eq_iff_iff];simp
   ·refine a0a ⟨dig B j,by simp only[rxs,a1b B hj]⟩ (a0e (b:=decide (dig B j≠0)) ?_ (fun h2=> ?_) (fun h2=> ?_))
    ·simp only[rxs,a1b B hj]
     congr 1
     rw[Bool.eq_iff_iff];simp
    ·refine a0l (a1O (vs:=[.int .u64 (dig A i),.int .u64 (dig B j),.int .i64 ((i+j:Nat):Int)]) (f:=263) (caps:= #[.pointer (some ⟨b,0,none⟩)]) rfl rfl rfl b7C (b7B (dig A i) (dig B j) (acc A B i j) (i+j) (a2x _ _) (a2x _ _) (by omega) _ b _ (PH.put_self _ _ _))) ?_ ?_
     ·simp only[rxs,a1b A hi,a1b B hj,d7s,b5o (i+j) (by omega)]
     ·rintro v H' ⟨rfl,rfl⟩
      refine⟨(fun h=>nomatch h),?_⟩
      rw[PH.put_put,hstep]
      exact hnext _ rfl
    ·have h2:dig B j=0:=by simpa using h2
     rw[h2,Nat.mul_zero,Nat.zero_mul,Nat.add_zero]at hstep
     exact hnext _ (by rw[hstep])
   ·have h1:dig A i=0:=by simpa using h1
    rw[h1,Nat.zero_mul,Nat.zero_mul,Nat.add_zero]at hstep
    exact hnext _ (by rw[hstep])
  ·have hj:j=8:=by simp at h;omega
   subst hj
   refine⟨⟨i+1,by omega,?_,?_⟩,?_⟩
   ·simp only[rxs,e3]
   ·rw[c4z A B i hB]
   ·simp only[rxs,e3]
    omega
 ·have hi:i=8:=by simp at h;omega
  subst hi
  rw[c9e A B hA]
  have hc1:prog.cellsOf 54=1:=by kernel_rfl
  refine a0g ((b2j (e:=54) (n:=16) (l:=8) (k:= .i64) (b:=b) (q:=0) (vs:=[.pointer (some ⟨b,0,none⟩),.int .i64 8]) rfl rfl rfl (by kernel_rfl) (by kernel_rfl) (by omega) (by omega)).rds _) rfl ?_
  rw[hc1,Nat.mul_one,Nat.zero_add]
  refine a0g ((b9q (e:=54) (n:=8) (vs:=[.slice (some ⟨b,8,none⟩) 8 8]) rfl rfl (by kernel_rfl)).rds _) rfl ?_
  simp only[cA,nA]
  refine⟨fun l H'=>∃k,k<=8/\l=[.int .u64 (orn (A*B) k),.int .i64 (k:Nat)]/\H'=PH.nil.put b (.cells (wa 16 (dig (A*B))) 336 (0,0)),fun l _=>(8-intOf (l.getD 1 undef)).toNat,⟨0,by omega,rfl,rfl⟩,?_⟩
  rintro vals H'-⟨k,hk,rfl,rfl⟩
  simp only[cA,nA]
  refine a0a ⟨_,rfl⟩ (a0a ⟨8,rfl⟩ (a0e (b:=decide ((k:Int)<8)) rfl (fun h=> ?_) (fun h=> ?_)))
  ·have hk:k<8:=by simp at h;omega
   have e3:IntKind.i64.wrap ((k:Int)+1)=((k+1:Nat):Int):=b5o (k+1) (by omega)
   refine a0g ((a4p (e:=54) (b:=b) (q:=8) (n:=8) (c:=8) (k:= .i64) (m:=(k:Int)) (vs:=[.slice (some ⟨b,8,none⟩) 8 8,.int .i64 (k:Nat)]) rfl rfl rfl (by kernel_rfl) (by kernel_rfl) (by omega) (by omega)).rds _) rfl ?_
   rw[hc1,Int.toNat_natCast,Nat.mul_one]
   refine a0g (d6j (q:=8+k) rfl rfl (PH.put_self _ _ _) (by omega)) rfl (a0a ⟨_,rfl⟩ (a0a ⟨_,rfl⟩ ?_))
   refine⟨⟨k+1,by omega,?_,rfl⟩,?_⟩
   ·simp only[rxs,e3,b5m _ _ (c7A (A*B) k) (a2x (A*B) (8+k))]
    rfl
   ·simp only[rxs,e3]
    omega
  ·have hk:k=8:=by simp at h;omega
   subst hk
   refine a0g ((a6H (e:=54) (n:=16) (l:=8) (k:= .i64) (b:=b) (q:=0) (vs:=[.pointer (some ⟨b,0,none⟩),.int .i64 8]) rfl rfl rfl (by kernel_rfl) (by kernel_rfl) (by omega) (by omega)).rds _) rfl ?_
   refine a0g ((b3N (e:=54) (n:=8) (len:=8) (a:=some ⟨b,0,none⟩) (c:=16) (vs:=[.slice (some ⟨b,0,none⟩) 8 16]) rfl rfl (by kernel_rfl) (by omega)).rds _) rfl ?_
   have hc8:prog.cellsOf 206=8:=by kernel_rfl
   have hld:=a2k (P:=prog) (H:=PH.nil.put b (.cells (wa 16 (dig (A*B))) 336 (0,0))) (b:=b) (q:=0) b0B rfl (PH.put_self _ _ _) (by kernel_rfl) (by rw[hc8,a7Q];omega) (fun _=>by rw[a7Q];omega)
   rw[show a0N prog 206=true from by kernel_rfl,hc8,if_pos rfl,Nat.zero_add,d7O]at hld
   exact a0g hld rfl (a0a ⟨words_size _,words_one _⟩ (a0c rfl rfl))
theorem b9H (a b:Nat):Det prog 236 [wd a,wd b] (.tuple #[wd (a%M*(b%M)),.int .u64 (orn (a%M*(b%M)) 8)]):=by
 have:=b7D (a%M) (b%M) (Nat.mod_lt _ b0C) (Nat.mod_lt _ b0C)
 rwa[show wd (a%M)=wd a from b0E (Nat.mod_mod _ _),show wd (b%M)=wd b from b0E (Nat.mod_mod _ _)]at this
end Go.Proofs.YtmannekkmdockaaGreatDoor
/- Contracts of package wide: Add, Sub, Mul, Of, Int, Sign, Cmp. -/
namespace Go.Proofs.YtmannekkmdockaaGreatDoor
open Go.Proofs.Tryz
open Go.RowKit Go.RX Go.WD Go.IntWalk
theorem b0K {x y:Int} (hx:x.natAbs<M) (hy:y.natAbs<M):x.natAbs*y.natAbs<PW 16:=by
 rw[show(16:Nat)=8+8 from rfl,a4C,<-a3t]
 exact Nat.mul_lt_mul'' hx hy
theorem c4E (x y:Int) (hx:x.natAbs<M) (hy:y.natAbs<M):∃v,Det prog 199 [nm x,nm y] (.tuple #[.agg v,.bool (decide (M<=(x*y).natAbs))])/\v.size=9/\a0t v/\((x*y).natAbs<M->Value.agg v=nm (x*y)):=by
 have ho:=b9E (b0K hx hy)
 have ht:=b9H x.natAbs y.natAbs
 rw[Nat.mod_eq_of_lt hx,Nat.mod_eq_of_lt hy,<-Int.natAbs_mul]at ht
 rw[<-Int.natAbs_mul]at ho
 refine⟨#[.bool ((decide (x<0) !=decide (y<0))&& !decide ((x*y).natAbs%M=0))]++words (x*y).natAbs,a0C mixed c8T (by kernel_rfl) rfl ?_,a2S _ _,a7O _ _,fun h=> ?_⟩
 ·refine a0m ⟨a2S _ _,a7O _ _⟩ (a0m ⟨a2S _ _,a7O _ _⟩ (a2f ht rfl ?_))
  refine a0m ⟨_,rfl,Nat.zero_lt_succ _⟩ (a0m ⟨_,rfl,Nat.lt_succ_self _⟩ (a0m ⟨words_size _,words_one _⟩ (a0m ⟨_,rfl⟩ (a0m ⟨_,rfl⟩ ?_))))
  refine a2f (d3C (decide (x<0) !=decide (y<0)) (x*y).natAbs) ?_ (a0m ⟨_,rfl⟩ (a0m ⟨a2S _ _,a7O _ _⟩ (a1d rfl ?_)))
  ·show[Value.bool (true !=(decide (x<0)==decide (y<0))),wd (x*y).natAbs]=_
   congr 2
   cases decide (x<0)<;>cases decide (y<0)<;>rfl
  ·show Value.tuple #[nb _ _,.bool (decide (((orn (x*y).natAbs 8:Nat):Int)>0))]=_
   have:decide (((orn (x*y).natAbs 8:Nat):Int)>0)=decide (M<=(x*y).natAbs):=by
    rw[Bool.eq_iff_iff,decide_eq_true_iff,decide_eq_true_iff]
    omega
   rw[this];rfl
 ·show nb _ _=nb _ _
  refine b0D ?_ rfl
  rw[Nat.mod_eq_of_lt h]
  rcases Int.lt_trichotomy x 0 with h1|h1|h1<;>rcases Int.lt_trichotomy y 0 with h2|h2|h2
  ·have:=Int.mul_pos_of_neg_of_neg h1 h2
   simp[h1,h2];omega
  ·subst h2;simp
  ·have:=Int.mul_neg_of_neg_of_pos h1 h2
   simp[h1,this,show ¬y<0 by omega];omega
  ·subst h1;simp
  ·subst h1;simp
  ·subst h1;simp
  ·have:=Int.mul_neg_of_pos_of_neg h1 h2
   simp[h2,this,show ¬x<0 by omega];omega
  ·subst h2;simp
  ·have:=Int.mul_pos h1 h2
   simp[show ¬x<0 by omega,show ¬y<0 by omega];omega
def opM:Array MapEntry:= #[⟨.int .u8 43,.func (.func 197) #[] #[],0⟩,⟨.int .u8 45,.func (.func 198) #[] #[],1⟩,⟨.int .u8 42,.func (.func 199) #[] #[],2⟩]
theorem d6k:prog.underlying 211=some (.map 5 (prog.mapElemOf 211)):=by kernel_rfl
theorem uU8:prog.underlying 5=some (.int .u8):=by kernel_rfl
set_option maxRecDepth 100000 in
theorem c4F (H:PH):Con prog 127 [] H fun v H'=>∃r,H r=none/\v= .map (some r)/\H'=H.put r (.map opM 3):=by
 refine a0b mixed c8U (by kernel_rfl) rfl (a0l (a3s rfl) rfl ?_)
 rintro v H1 ⟨r,hr,rfl,rfl⟩
 refine⟨(fun h=>nomatch h),a0l (a5T (r:=r) (key:= .int .u8 43) (val:= .func (.func 197) #[] #[]) (vs:=[.map (some r),.int .u8 43,.func (.func 197) #[] #[]]) (.inl rfl) rfl rfl rfl d6k uU8 (a1f uU8 false) (PH.put_self _ _ _) rfl) rfl ?_⟩
 rintro v H2 ⟨rfl,rfl⟩
 refine⟨(fun h=>nomatch h),a0l (a5T (r:=r) (key:= .int .u8 45) (val:= .func (.func 198) #[] #[]) (vs:=[.map (some r),.int .u8 45,.func (.func 198) #[] #[]]) (.inl rfl) rfl rfl rfl d6k uU8 (a1f uU8 false) (PH.put_self _ _ _) rfl) rfl ?_⟩
 rintro v H3 ⟨rfl,rfl⟩
 refine⟨(fun h=>nomatch h),a0l (a5T (r:=r) (key:= .int .u8 42) (val:= .func (.func 199) #[] #[]) (vs:=[.map (some r),.int .u8 42,.func (.func 199) #[] #[]]) (.inl rfl) rfl rfl rfl d6k uU8 (a1f uU8 false) (PH.put_self _ _ _) rfl) rfl ?_⟩
 rintro v H4 ⟨rfl,rfl⟩
 refine⟨(fun h=>nomatch h),a0c rfl ⟨r,hr,rfl,?_⟩⟩
 rw[PH.put_put,PH.put_put,PH.put_put]
 rfl
set_option maxRecDepth 100000 in
theorem c4G (a b:Nat) (s:Int) (i:Nat) (f:FuncId) (z:Int) (v:Array Value) (hs:Instr.findNow (.int .u8) (.int .u8 s) opM.toList 0=some (some (i,.func (.func f) #[] #[]))) (he:a4B prog f=true)
  (hd:Det prog f [nm (toI a),nm (toI b)] (.tuple #[.agg v,.bool (decide (M<=z.natAbs))])) (hv:v.size=9) (h1:a0t v) (hz:z.natAbs<M->Value.agg v=nm z):Det prog 73 [wd a,wd b,.int .u8 s] (told z):=by
 have hM:=c3H
 refine a9t (a0b mixed c8V (by kernel_rfl) rfl (a0a ⟨words_size a,words_one a⟩ (a0a ⟨words_size b,words_one b⟩ (a0d (c4F _) rfl ?_))))
 rintro m H1 ⟨r,hr,rfl,rfl⟩
 refine⟨fun _=>PH.le_put hr _,a0g (b7u (r:=r) (key:= .int .u8 s) (vs:=[.map (some r),.int .u8 s]) rfl rfl rfl d6k uU8 (a1f uU8) (PH.put_self _ _ _) hs) rfl ?_⟩
 refine a0u (b0G a) rfl (a0u (b0G b) rfl ?_)
 refine a0l (a1O (f:=f) (caps:= #[]) (vs:=[nm (toI a),nm (toI b)]) rfl rfl rfl he (hd.con _)) rfl ?_
 rintro u H2 ⟨rfl,rfl⟩
 refine⟨fun _=>PH.le.refl _,a0a ⟨_,rfl,Nat.zero_lt_succ _⟩ (a0a ⟨_,rfl,Nat.lt_succ_self _⟩ (a0a ⟨hv,h1⟩ (a0a ⟨_,rfl⟩ (a0e rfl (fun h=> ?_) (fun h=> ?_)))))⟩
 ·have h:=of_decide_eq_true h
  refine a0c rfl ?_
  simp only[rxs,a4M,a6J,told]
  rw[if_neg (by omega)]
 ·have h:=of_decide_eq_false h
  have hzz:=hz (by omega)
  obtain⟨p,q,hf⟩:=a5k z
  have ht:=b5i z (by omega)
  rw[hf]at ht⊢
  refine a0u ht ?_ (a0a ⟨_,rfl,Nat.zero_lt_succ _⟩ (a0a ⟨_,rfl,Nat.lt_succ_self _⟩ (a0a ⟨words_size _,words_one _⟩ (a0c rfl rfl))))
  show[Value.agg v]=_
  rw[hzz]
theorem c9i (a b:Nat):Det prog 28 [wd a,wd b] (told (toI a*toI b)):=by
 obtain⟨v,hd,hs,h1,hv⟩:=c4E (toI a) (toI b) (a2t a) (a2t b)
 have hb:=c4G a b 42 2 _ _ v rfl (by kernel_rfl) hd hs h1 hv
 obtain⟨p,q,hf⟩:=a5k (toI a*toI b)
 rw[hf]at hb⊢
 exact a0C mixed d3q (by kernel_rfl) rfl (a0m ⟨words_size a,words_one a⟩ (a0m ⟨words_size b,words_one b⟩ (a2f hb rfl (a0m ⟨_,rfl,Nat.zero_lt_succ _⟩ (a0m ⟨_,rfl,Nat.lt_succ_self _⟩ (a0m ⟨words_size _,words_one _⟩ (a1d rfl rfl)))))))
theorem b2s (n:Int):IntKind.u64.wrap n=((n%18446744073709551616).toNat:Int):=by
 rw[IntKind.wrap_u64];omega
theorem d7t (u:Nat):spl (words 0) 0 [.int .u64 (u:Int)]=wf fun j=>if j=0 then u else 0:=by
 refine Eq.trans (b5f (dig 0) (show 0<8 by omega) u) (a2D fun i _=> ?_)
 rw[a4q]
theorem a9y (n:Int) (h0: -9223372036854775808<=n) (h1:n<9223372036854775808):Det prog 29 [.int .i64 n] (iw n):=by
 have hw:=b3Y (n:=n) (by omega) (by omega)
 refine a0C mixed d6y (by kernel_rfl) rfl (a0m ⟨n,rfl⟩ (a1V (b:=decide (n<0)) rfl (fun h=> ?_) (fun h=> ?_)))
 ·have hn:=of_decide_eq_true h
  refine⟨fun l=>∃k,1<=k/\k<=8/\l=[.int .i64 (k:Nat),.agg (wf fun j=>if j<k then(if j=0 then(n%18446744073709551616).toNat else 18446744073709551615)else 0)],fun l=>(8-intOf (l.getD 0 undef)).toNat,⟨1,by omega,by omega,?_⟩,?_⟩
  ·simp only[rxs,a6J,b2s,d7t]
   congr 3
  ·rintro vals-⟨k,hk1,hk,rfl⟩
   refine a0m ⟨_,rfl⟩ (a1V (b:=decide ((k:Int)<8)) rfl (fun h=> ?_) (fun h=> ?_))
   ·have hk:k<8:=by simp at h;omega
    have e3:IntKind.i64.wrap ((k:Int)+1)=((k+1:Nat):Int):=b5o (k+1) (by omega)
    refine a0m ⟨_,_,rfl⟩ (a0m ⟨?_,?_⟩ ?_)
    ·show(0:Int)<=(k:Int);omega
    ·show(k:Int)<8;omega
    ·refine⟨⟨k+1,by omega,by omega,?_⟩,?_⟩
     ·have:=b5f (fun j=>if j<k then(if j=0 then(n%18446744073709551616).toNat else 18446744073709551615)else 0) hk 18446744073709551615
      simp only[rxs,e3]
      rw[show(18446744073709551615:Int)=((18446744073709551615:Nat):Int)from rfl,this]
      congr 3
      refine a2D fun i _=> ?_
      by_cases e:i=k
      ·subst e;rw[if_pos rfl,if_pos (show i<i+1 by omega),if_neg (show ¬i=0 by omega)]
      ·rw[if_neg e]
       by_cases e':i<k
       ·rw[if_pos e',if_pos (show i<k+1 by omega)]
       ·rw[if_neg e',if_neg (show ¬i<k+1 by omega)]
     ·simp only[rxs,e3]
      omega
   ·have hk:k=8:=by simp at h;omega
    subst hk
    refine a1d rfl ?_
    simp only[rxs,a4M,iw,wd,hw]
    congr 1
    exact a2D fun i hi=>by rw[if_pos hi,if_pos hn]
 ·have hn:=of_decide_eq_false h
  refine a1d rfl ?_
  simp only[rxs,a4M,a6J,b2s,d7t,iw,wd,hw]
  congr 1
  exact a2D fun i hi=>by rw[if_neg hn]
end Go.Proofs.YtmannekkmdockaaGreatDoor
/- Contracts: lengths, division by words. -/
namespace Go.Proofs.YtmannekkmdockaaGreatDoor
open Go.Proofs.Tryz
open Go.RowKit Go.RX Go.WD Go.IntWalk
theorem d6C (a:Nat):(a:Int).fdiv (2^min (Int.toNat 16) (IntKind.bits .u64))=((a/65536:Nat):Int):=a5W a 16 (by omega)
theorem d7P (a:Nat):(a:Int).fdiv (2^min (Int.toNat 8) (IntKind.bits .u64))=((a/256:Nat):Int):=a5W a 8 (by omega)
def len8:ByteArray:=⟨#[0,1,2,2,3,3,3,3,4,4,4,4,4,4,4,4,5,5,5,5,5,5,5,5,5,5,5,5,5,5,5,5,6,6,6,6,6,6,6,6,6,6,6,6,6,6,6,6,6,6,6,6,6,6,6,6,6,6,6,6,6,6,6,6,7,7,7,7,7,7,7,7,7,7,7,7,7,7,7,7,7,7,7,7,7,7,7,7,7,7,7,7,7,7,7,7,7,7,7,7,7,7,7,7,7,7,7,7,7,7,7,7,7,7,7,7,7,7,7,7,7,7,7,7,7,7,7,7,8,8,8,8,8,8,8,8,8,8,8,8,8,8,8,8,8,8,8,8,8,8,8,8,8,8,8,8,8,8,8,8,8,8,8,8,8,8,8,8,8,8,8,8,8,8,8,8,8,8,8,8,8,8,8,8,8,8,8,8,8,8,8,8,8,8,8,8,8,8,8,8,8,8,8,8,8,8,8,8,8,8,8,8,8,8,8,8,8,8,8,8,8,8,8,8,8,8,8,8,8,8,8,8,8,8,8,8,8,8,8,8,8,8,8,8,8,8,8,8,8,8,8,8,8,8,8,8]⟩
theorem b9I:len8.size=256:=by kernel_rfl
theorem c4H:(List.range 256).all (fun b=>(len8.data.getD b 0).toNat==blen b)=true:=by kernel_rfl
theorem c4I {b:Nat} (h:b<256):(len8.data.getD b 0).toNat=blen b:=by
 have:=List.all_eq_true.1 c4H b (List.mem_range.2 h)
 simpa using this
set_option maxRecDepth 100000 in
theorem a7T (x:Nat) (hx:x<18446744073709551616):Det prog 117 [.int .u64 x] (.int .i64 (blen x)):=by
 refine a0C mixed c4t (by kernel_rfl) rfl (a0m ⟨_,rfl⟩ ⟨fun l=>∃y n,l=[.int .u64 (y:Nat),.int .i64 (n:Nat)]/\y<4294967296/\n<=32/\n+blen y=blen x,?_,?_⟩)
 ·refine a1V (b:=decide ((x:Int)≥4294967296)) rfl (fun h=> ?_) (fun h=> ?_)
  ·have h:=of_decide_eq_true h
   exact⟨x/4294967296,32,by simp only[rxs,c4D];rfl,by omega,by omega,(a4r (k:=32) (by omega)).symm⟩
  ·have h:=of_decide_eq_false h
   exact⟨x,0,rfl,by omega,by omega,by omega⟩
 rintro vals-⟨y,n,rfl,hy,hn,hb⟩
 refine a0m ⟨_,rfl⟩ ⟨fun l=>∃y n,l=[.int .u64 (y:Nat),.int .i64 (n:Nat)]/\y<65536/\n<=48/\n+blen y=blen x,?_,?_⟩
 ·refine a1V (b:=decide ((y:Int)≥65536)) rfl (fun h=> ?_) (fun h=> ?_)
  ·have h:=of_decide_eq_true h
   have e:=a4r (x:=y) (k:=16) (by omega)
   refine a0m ⟨_,rfl⟩ ⟨y/65536,n+16,?_,by omega,by omega,?_⟩
   ·have e3:IntKind.i64.wrap ((n:Int)+16)=((n+16:Nat):Int):=b5o (n+16) (by omega)
    simp only[rxs,d6C,e3]
   ·rw[show(2:Nat)^16=65536 from rfl]at e
    omega
  ·have h:=of_decide_eq_false h
   exact⟨y,n,rfl,by omega,by omega,hb⟩
 rintro vals-⟨y,n,rfl,hy,hn,hb⟩
 refine a0m ⟨_,rfl⟩ ⟨fun l=>∃y n,l=[.int .u64 (y:Nat),.int .i64 (n:Nat)]/\y<256/\n<=56/\n+blen y=blen x,?_,?_⟩
 ·refine a1V (b:=decide ((y:Int)≥256)) rfl (fun h=> ?_) (fun h=> ?_)
  ·have h:=of_decide_eq_true h
   have e:=a4r (x:=y) (k:=8) (by omega)
   refine a0m ⟨_,rfl⟩ ⟨y/256,n+8,?_,by omega,by omega,?_⟩
   ·have e3:IntKind.i64.wrap ((n:Int)+8)=((n+8:Nat):Int):=b5o (n+8) (by omega)
    simp only[rxs,d7P,e3]
   ·rw[show(2:Nat)^8=256 from rfl]at e
    omega
  ·have h:=of_decide_eq_false h
   exact⟨y,n,rfl,by omega,by omega,hb⟩
 rintro vals-⟨y,n,rfl,hy,hn,hb⟩
 have hu8:IntKind.u8.wrap (y:Int)=(y:Int):=by rw[IntKind.wrap_u8];omega
 have hyl:blen y<=8:=blen_le hy
 refine a0m ⟨_,rfl⟩ (b9p (b2k (s:=len8) (k:= .u8) (m:=y) (vs:=[.string len8,.int .u8 y]) rfl rfl rfl (by kernel_rfl) (by rw[b9I];exact hy)) ?_ ?_)
 ·simp only[rxs,hu8];rfl
 ·rw[c4I hy]
  refine a0m ⟨_,rfl⟩ (a0m ⟨_,rfl⟩ (a1d ?_ rfl))
  simp only[rxs,a4M]
  rw[b5o (blen y) (by omega),d7s,b5o (n+blen y) (by omega),hb]
theorem b5p (x:Nat) (hx:x<18446744073709551616):Det prog 264 [.int .u64 x] (.int .i64 ((64-blen x:Nat):Int)):=by
 have hl:blen x<=64:=blen_le hx
 refine a0C mixed c8W (by kernel_rfl) rfl (a2f (a7T x hx) rfl (a0m ⟨_,rfl⟩ (a1d ?_ rfl)))
 simp only[rxs,a4M]
 rw[show(64:Int)-(blen x:Int)=((64-blen x:Nat):Int)from by omega,b5o _ (by omega)]
end Go.Proofs.YtmannekkmdockaaGreatDoor

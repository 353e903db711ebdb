/- Contracts of package wide: products. -/
import Derived.Test.YtmannekkmdockaaGreatDoorWdM
import Derived.Test.YtmannekkmdockaaGreatDoorRxT
import Derived.Test.YtmannekkmdockaaGreatDoorWdB
namespace Go.Proofs.YtmannekkmdockaaGreatDoor
open Go.Proofs.Tryz
open Go.RowKit Go.RX Go.WD Go.IntWalk
theorem a1J (a:Nat) (ha:a<18446744073709551616):IntKind.u64.wrap (a:Int)=(a:Int):=by rw[IntKind.wrap_u64];omega
theorem d2j (a:Nat):IntKind.u64.wrap (a:Int)=((a%18446744073709551616:Nat):Int):=by rw[IntKind.wrap_u64];omega
theorem c6g (a b:Nat):(a:Int)*(b:Int)=((a*b:Nat):Int):=(Int.natCast_mul a b).symm
theorem b7C (a b:Nat):(a:Int)+(b:Int)=((a+b:Nat):Int):=(Int.natCast_add a b).symm
theorem c3p (a:Nat):(a:Int).fdiv (2^min (Int.toNat 32) (IntKind.bits .u64))=((a/4294967296:Nat):Int):=a5y a 32 (by omega)
theorem b1D (x y:Nat) (hx:x<18446744073709551616) (hy:y<18446744073709551616):Det prog 240 [.int .u64 x,.int .u64 y] (.tuple #[.int .u64 ((x*y/18446744073709551616:Nat):Int),.int .u64 ((x*y%18446744073709551616:Nat):Int)]):=by
 obtain⟨bd,bt,bw,hhi⟩:=Lib.mul64_hi x y hx hy
 have ba:=Lib.half_mul_le (a:=x/4294967296) (b:=y/4294967296) (by omega) (by omega)
 have bb:=Lib.half_mul_le (a:=x/4294967296) (b:=y%4294967296) (by omega) (by omega)
 have bc:=Lib.half_mul_le (a:=x%4294967296) (b:=y/4294967296) (by omega) (by omega)
 have ba':x/4294967296*(y/4294967296)<18446744073709551616:=by omega
 have bb':x/4294967296*(y%4294967296)<18446744073709551616:=by omega
 have bc':x%4294967296*(y/4294967296)<18446744073709551616:=by omega
 have bh1:x/4294967296*(y/4294967296)+(x/4294967296*(y%4294967296)+x%4294967296*(y%4294967296)/4294967296)/4294967296<18446744073709551616:=by omega
 have bh:x/4294967296*(y/4294967296)+(x/4294967296*(y%4294967296)+x%4294967296*(y%4294967296)/4294967296)/4294967296+((x/4294967296*(y%4294967296)+x%4294967296*(y%4294967296)/4294967296)%4294967296+x%4294967296*(y/4294967296))/4294967296<18446744073709551616:=by
  have:=(Nat.div_lt_iff_lt_mul (show 0<18446744073709551616 by omega)).2 (Nat.mul_lt_mul'' hx hy)
  omega
 refine a0B mixed c3f (by kernel_rfl) rfl (a0n ⟨_,rfl⟩ (a0n ⟨_,rfl⟩ (a1b ?_ rfl)))
 simp only[rxs,a4u,c3p,b1B x hx,b1B y hy,c6g,b7C,a1J _ bd,a1J _ bb',a1J _ bt,b1B _ bt,a1J _ bc',a1J _ bw,a1J _ ba',a1J _ bh1,a1J _ bh,d2j (x*y)]
 rw[hhi]
section
variable {o:Oper} {x y:Operand} {H:PH} {b q n T:Nat} {f:Nat->Nat} {vs:List Value}
theorem b6J {m:Int} (ho:o.op= .indexAddr 336 x y) (hx:a0f [x,y] [.pointer (some ⟨b,0,none⟩),.int .i64 m] x= .pointer (some ⟨b,0,none⟩)) (hy:a0f [x,y] [.pointer (some ⟨b,0,none⟩),.int .i64 m] y= .int .i64 m) (h0:0<=m) (h1:m<16):Yld prog o [.pointer (some ⟨b,0,none⟩),.int .i64 m] (.pointer (some ⟨b,m.toNat,none⟩)):=by
 have:=a2Q (P:=prog) (len:=16) (e:=54) ho hx hy (by kernel_rfl) (by kernel_rfl) h0 h1
 rw[show prog.cellsOf 54=1 from by kernel_rfl,Nat.zero_add,Nat.mul_one]at this
 exact this
theorem d4D {fz:Nat×Nat} (ho:o.op= .load 54 x) (hx:a0f [x] [.pointer (some ⟨b,q,none⟩)] x= .pointer (some ⟨b,q,none⟩)) (hH:H b=some (.cells (wa n f) T fz)) (hq:q<n):Rds prog o [.pointer (some ⟨b,q,none⟩)] H (.int .u64 (f q)):=by
 have h1:prog.cellsOf 54=1:=by kernel_rfl
 have:=a2d (P:=prog) ho hx hH (by kernel_rfl) (by rw[h1,a7o];omega) (fun _=>by rw[a7o];exact hq)
 rw[show a0M prog 54=false from by kernel_rfl,d2c f hq]at this
 exact this
theorem d4Y {d:Nat} (ho:o.op= .store 54 x y) (hx:a0f [x,y] [.pointer (some ⟨b,q,none⟩),.int .u64 d] x= .pointer (some ⟨b,q,none⟩)) (hy:a0f [x,y] [.pointer (some ⟨b,q,none⟩),.int .u64 d] y= .int .u64 d) (hH:H b=some (.cells (wa n f) T (0,0))) (hq:q<n):
  Opn prog o [.pointer (some ⟨b,q,none⟩),.int .u64 d] H fun u H'=>u=undef/\H'=H.put b (.cells (wa n fun j=>if j=q then d else f j) T (0,0)):=by
 have h1:prog.cellsOf 54=1:=by kernel_rfl
 have:=a2P (P:=prog) ho hx hy hH (by kernel_rfl) (by rw[h1,a7o];omega) (by rw[h1];rfl) (b3d _ _)
 rw[d1P,d2e f hq]at this
 exact this
end
theorem b4B (k:Nat) (h:k<=9223372036854775807):IntKind.i64.wrap (k:Int)=(k:Int):=i64_in _ ⟨by omega,by omega⟩
theorem d5L (k:Nat) (j:Nat):(k:Int)+(j:Int)=((k+j:Nat):Int):=by omega
set_option maxRecDepth 100000 in
theorem b6K (x y N c:Nat) (hx:x<18446744073709551616) (hy:y<18446744073709551616) (hc:c<=14) (H:PH) (b T:Nat) (hH:H b=some (.cells (wa 16 (dig N)) T (0,0))):
  Con prog 263 [.int .u64 x,.int .u64 y,.int .i64 c,.pointer (some ⟨b,0,none⟩)] H fun v H'=>v= .tuple #[]/\H'=H.put b (.cells (wa 16 (dig (N+x*y*PW c))) T (0,0)):=by
 have hp:=b6H hx hy
 have hhi:x*y/18446744073709551616<18446744073709551616:=by
  rw[b8H]at hp
  exact(Nat.div_lt_iff_lt_mul (by omega)).2 hp
 obtain⟨a1,a2⟩:=g0 (N:=N) (p:=x*y) (c:=c)
 obtain⟨b1,b2⟩:=g1 (N:=N) (p:=x*y) (c:=c) hp
 refine a0b mixed b8D (by kernel_rfl) rfl (a0s (b1D x y hx hy) rfl (a0a ⟨_,rfl,Nat.zero_lt_succ _⟩ (a0a ⟨_,rfl,Nat.lt_succ_self _⟩ ?_)))
 refine a0h ((b6J (b:=b) (m:=c) rfl rfl rfl (by omega) (by omega)).rds _) rfl ?_
 rw[Int.toNat_natCast]
 refine a0h (d4D (f:=dig N) rfl rfl hH (by omega)) rfl ?_
 refine a4z (a2U (dig N c) (x*y%18446744073709551616) 0 (a2p _ _) (Nat.mod_lt _ (by omega)) (by omega)) rfl ?_
 rw[a1,a2]
 refine a0a ⟨_,rfl,Nat.zero_lt_succ _⟩ (a0a ⟨_,rfl,Nat.lt_succ_self _⟩ ?_)
 refine a0h ((b6J (b:=b) (m:=c) rfl rfl rfl (by omega) (by omega)).rds _) rfl ?_
 rw[Int.toNat_natCast]
 have hq16:c<16:=by omega
 refine a0l (d4Y (d:=dig (N+x*y*PW c) c) rfl rfl rfl hH hq16) (by simp only[rxs]) ?_
 rintro v H1 ⟨rfl,rfl⟩
 refine⟨(fun h=>nomatch h),a0a ⟨_,rfl⟩ ?_⟩
 have e1:IntKind.i64.wrap ((c:Int)+1)=((c+1:Nat):Int):=b4B (c+1) (by omega)
 refine a0h ((b6J (b:=b) (m:=((c+1:Nat):Int)) rfl rfl rfl (by omega) (by omega)).rds _) (by simp only[rxs,e1]) ?_
 rw[Int.toNat_natCast]
 refine a0h (d4D (q:=c+1) rfl rfl (PH.put_self _ _ _) (by omega)) rfl ?_
 rw[if_neg (show ¬c+1=c by omega)]
 refine a4z (a2U (dig N (c+1)) (x*y/18446744073709551616) (cr N (x*y*PW c) (c+1)) (a2p _ _) hhi (d1S _ _ _)) rfl ?_
 rw[b1,b2]
 refine a0a ⟨_,rfl,Nat.zero_lt_succ _⟩ (a0a ⟨_,rfl,Nat.lt_succ_self _⟩ ?_)
 refine a0h ((b6J (b:=b) (m:=((c+1:Nat):Int)) rfl rfl rfl (by omega) (by omega)).rds _) (by simp only[rxs,e1]) ?_
 rw[Int.toNat_natCast]
 refine a0l (d4Y (q:=c+1) (n:=16) (d:=dig (N+x*y*PW c) (c+1)) rfl rfl rfl (PH.put_self _ _ _) (by omega)) (by simp only[rxs]) ?_
 rintro v H1 ⟨rfl,rfl⟩
 refine⟨(fun h=>nomatch h),?_⟩
 rw[PH.put_put]
 simp only[cA,nA]
 refine⟨fun l H'=>∃k,c+2<=k/\k<=16/\l=[.int .u64 (cr N (x*y*PW c) k),.int .i64 (k:Nat)]/\H'=H.put b (.cells (wa 16 fun i=>if i<k then dig (N+x*y*PW c) i else dig N i) T (0,0)),fun l _=>(16-intOf (l.getD 1 undef)).toNat,⟨c+2,Nat.le_refl _,by omega,?_,?_⟩,?_⟩
 ·have e2:IntKind.i64.wrap ((c:Int)+2)=((c+2:Nat):Int):=b4B (c+2) (by omega)
  simp only[rxs,e2]
 ·congr 2
  refine a6s fun i _=> ?_
  by_cases h1:i=c+1
  ·subst h1;simp
  ·by_cases h2:i=c
   ·subst h2;simp
   ·rw[if_neg h1,if_neg h2]
    by_cases h3:i<c
    ·rw[if_pos (by omega)]
     have h4:=a7j N (x*y*PW c) i
     rw[b1A _ h3,b4w _ _ (by omega)]at h4
     rw[h4,Nat.add_zero,Nat.mod_eq_of_lt (a2p _ _)]
    ·rw[if_neg (by omega)]
 ·rintro vals H'-⟨k,hk1,hk2,rfl,rfl⟩
  obtain⟨c1,c2⟩:=gk (N:=N) (p:=x*y) (c:=c) hp hk1
  simp only[cA,nA]
  refine a0a ⟨_,rfl⟩ (a0e (b:=decide (((cr N (x*y*PW c) k:Nat):Int)>0)) rfl (fun h=> ?_) (fun h=> ?_))
  ·refine a0a ⟨_,rfl⟩ (a0e (b:=decide (k=16)) ?_ (fun h2=> ?_) (fun h2=> ?_))
   ·simp only[rxs]
    congr 1
    rw[Bool.eq_iff_iff];simp;omega
   ·have h2:k=16:=by simpa using h2
    subst h2
    refine a0c rfl ⟨rfl,?_⟩
    congr 2
   ·have h2:k≠16:=by simpa using h2
    refine a0h ((b6J (b:=b) (m:=(k:Int)) rfl rfl rfl (by omega) (by omega)).rds _) rfl ?_
    rw[Int.toNat_natCast]
    refine a0h (d4D (q:=k) rfl rfl (PH.put_self _ _ _) (by omega)) rfl ?_
    rw[if_neg (Nat.lt_irrefl k)]
    refine a4z (a2U (dig N k) 0 (cr N (x*y*PW c) k) (a2p _ _) (by omega) (d1S _ _ _)) rfl ?_
    rw[c1,c2]
    refine a0a ⟨_,rfl,Nat.zero_lt_succ _⟩ (a0a ⟨_,rfl,Nat.lt_succ_self _⟩ ?_)
    refine a0h ((b6J (b:=b) (m:=(k:Int)) rfl rfl rfl (by omega) (by omega)).rds _) rfl ?_
    rw[Int.toNat_natCast]
    refine a0l (d4Y (q:=k) (n:=16) (d:=dig (N+x*y*PW c) k) rfl rfl rfl (PH.put_self _ _ _) (by omega)) (by simp only[rxs]) ?_
    rintro v H1 ⟨rfl,rfl⟩
    refine⟨(fun h=>nomatch h),?_⟩
    rw[PH.put_put]
    have e3:IntKind.i64.wrap ((k:Int)+1)=((k+1:Nat):Int):=b4B (k+1) (by omega)
    refine⟨⟨k+1,by omega,by omega,?_,?_⟩,?_⟩
    ·simp only[rxs,e3]
    ·congr 2
     exact a6s fun i _=>b4u _ _ k i
    ·simp only[rxs,e3]
     omega
  ·have h0:cr N (x*y*PW c) k=0:=by simp at h;omega
   have hend:=d5Z (N:=N) hp hk1 h0
   refine a0c rfl ⟨rfl,?_⟩
   congr 2
   refine a6s fun i _=> ?_
   split
   ·rfl
   ·rename_i hi;exact(hend i (by omega)).2.symm
theorem z16:(a0L prog 336).cells=wa 16 (dig 0):=by
 have:a0L prog 336= .agg #[.int .u64 0,.int .u64 0,.int .u64 0,.int .u64 0,.int .u64 0,.int .u64 0,.int .u64 0,.int .u64 0,.int .u64 0,.int .u64 0,.int .u64 0,.int .u64 0,.int .u64 0,.int .u64 0,.int .u64 0,.int .u64 0]:=by kernel_rfl
 rw[this,a6s (g:=fun _=>0) (fun i _=>a3Z i)]
 rfl
theorem d6a (N:Nat):Value.agg ((wa 16 (dig N)).extract 0 8)=wd N:=rfl
theorem b6L:a5r prog 263=true:=by kernel_rfl
set_option maxRecDepth 100000 in
set_option maxHeartbeats 1000000 in
theorem b6M (A B:Nat) (hA:A<M) (hB:B<M):Det prog 236 [wd A,wd B] (.tuple #[wd (A*B),.int .u64 (orn (A*B) 8)]):=by
 rw[a3w]at hA hB
 refine a8I (a0b mixed c3e (by kernel_rfl) rfl (a0a ⟨words_size A,words_one A⟩ (a0a ⟨words_size B,words_one B⟩ ?_)))
 intro b hb
 rw[show D prog [wd A,wd B] (.z 336)=a0L prog 336 from rfl,z16]
 refine a0l ((a1i (vs:=[.pointer (some ⟨b,0,none⟩)]) rfl rfl).opn _) rfl ?_
 rintro v H1 ⟨rfl,rfl⟩
 refine⟨(fun h=>nomatch h),?_⟩
 simp only[cA,nA]
 refine⟨fun l H'=>∃i,i<=8/\l=[.int .i64 (i:Nat)]/\H'=PH.nil.put b (.cells (wa 16 (dig (acc A B i 0))) 336 (0,0)),fun l _=>(8-intOf (l.getD 0 undef)).toNat,⟨0,by omega,rfl,by rw[c3j]⟩,?_⟩
 rintro vals H'-⟨i,hi,rfl,rfl⟩
 simp only[cA,nA]
 refine a0a ⟨_,rfl⟩ (a0e (b:=decide ((i:Int)<8)) rfl (fun h=> ?_) (fun h=> ?_))
 ·have hi:i<8:=by simp at h;omega
  refine a0a ⟨_,_,rfl⟩ (a0a ⟨?_,?_⟩ ?_)
  ·show(0:Int)<=(i:Int);omega
  ·show(i:Int)<8;omega
  refine⟨fun l H'=>∃j,j<=8/\l=[.int .i64 (j:Nat)]/\H'=PH.nil.put b (.cells (wa 16 (dig (acc A B i j))) 336 (0,0)),fun l _=>(8-intOf (l.getD 0 undef)).toNat,⟨0,by omega,rfl,rfl⟩,?_⟩
  rintro vals H'-⟨j,hj,rfl,rfl⟩
  simp only[cA,nA]
  have e3:IntKind.i64.wrap ((i:Int)+1)=((i+1:Nat):Int):=b4B (i+1) (by omega)
  have e4:IntKind.i64.wrap ((j:Int)+1)=((j+1:Nat):Int):=b4B (j+1) (by omega)
  refine a0a ⟨_,rfl⟩ (a0e (b:=decide ((j:Int)<8)) rfl (fun h=> ?_) (fun h=> ?_))
  ·have hj:j<8:=by simp at h;omega
   have hstep:=c3k A B i j
   refine a0a ⟨_,_,rfl⟩ (a0a ⟨?_,?_⟩ (a0a ⟨dig A i,by simp only[rxs,a1a A hi]⟩ ?_))
   ·show(0:Int)<=(j:Int);omega
   ·show(j:Int)<8;omega
   have hnext:∀H',H'=PH.nil.put b (.cells (wa 16 (dig (acc A B i (j+1)))) 336 (0,0))->(∃j',j'<=8/\[Value.int .i64 (IntKind.i64.wrap ((j:Int)+1))]=[.int .i64 (j':Nat)]/\H'=PH.nil.put b (.cells (wa 16 (dig (acc A B i j'))) 336 (0,0)))/\(8-intOf ([Value.int .i64 (IntKind.i64.wrap ((j:Int)+1))].getD 0 undef)).toNat<(8-intOf ([Value.int .i64 (j:Nat)].getD 0 undef)).toNat:=fun H' hH'=>by
    refine⟨⟨j+1,by omega,by rw[e4],hH'⟩,?_⟩
    simp only[List.getD_cons_zero,intOf,e4]
    omega
   refine a0e (b:=decide (dig A i≠0)) ?_ (fun h1=> ?_) (fun h1=> ?_)
   ·simp only[rxs,a1a A hi]
    congr 1
    rw[Bool.eq_iff_iff];simp
   ·refine a0a ⟨dig B j,by simp only[rxs,a1a B hj]⟩ (a0e (b:=decide (dig B j≠0)) ?_ (fun h2=> ?_) (fun h2=> ?_))
    ·simp only[rxs,a1a B hj]
     congr 1
     rw[Bool.eq_iff_iff];simp
    ·refine a0l (a2R (vs:=[.int .u64 (dig A i),.int .u64 (dig B j),.int .i64 ((i+j:Nat):Int)]) (f:=263) (caps:= #[.pointer (some ⟨b,0,none⟩)]) rfl rfl rfl b6L (b6K (dig A i) (dig B j) (acc A B i j) (i+j) (a2p _ _) (a2p _ _) (by omega) _ b _ (PH.put_self _ _ _))) ?_ ?_
     ·simp only[rxs,a1a A hi,a1a B hj,d5L,b4B (i+j) (by omega)]
     ·rintro v H' ⟨rfl,rfl⟩
      refine⟨(fun h=>nomatch h),?_⟩
      rw[PH.put_put,hstep]
      exact hnext _ rfl
    ·have h2:dig B j=0:=by simpa using h2
     rw[h2,Nat.mul_zero,Nat.zero_mul,Nat.add_zero]at hstep
     exact hnext _ (by rw[hstep])
   ·have h1:dig A i=0:=by simpa using h1
    rw[h1,Nat.zero_mul,Nat.zero_mul,Nat.add_zero]at hstep
    exact hnext _ (by rw[hstep])
  ·have hj:j=8:=by simp at h;omega
   subst hj
   refine⟨⟨i+1,by omega,?_,?_⟩,?_⟩
   ·simp only[rxs,e3]
   ·rw[c3l A B i hB]
   ·simp only[rxs,e3]
    omega
 ·have hi:i=8:=by simp at h;omega
  subst hi
  rw[c7L A B hA]
  have hc1:prog.cellsOf 54=1:=by kernel_rfl
  refine a0h ((b1s (e:=54) (n:=16) (l:=8) (k:= .i64) (b:=b) (q:=0) (vs:=[.pointer (some ⟨b,0,none⟩),.int .i64 8]) rfl rfl rfl (by kernel_rfl) (by kernel_rfl) (by omega) (by omega)).rds _) rfl ?_
  rw[hc1,Nat.mul_one,Nat.zero_add]
  refine a0h ((b8s (e:=54) (n:=8) (vs:=[.slice (some ⟨b,8,none⟩) 8 8]) rfl rfl (by kernel_rfl)).rds _) rfl ?_
  simp only[cA,nA]
  refine⟨fun l H'=>∃k,k<=8/\l=[.int .u64 (orn (A*B) k),.int .i64 (k:Nat)]/\H'=PH.nil.put b (.cells (wa 16 (dig (A*B))) 336 (0,0)),fun l _=>(8-intOf (l.getD 1 undef)).toNat,⟨0,by omega,rfl,rfl⟩,?_⟩
  rintro vals H'-⟨k,hk,rfl,rfl⟩
  simp only[cA,nA]
  refine a0a ⟨_,rfl⟩ (a0a ⟨8,rfl⟩ (a0e (b:=decide ((k:Int)<8)) rfl (fun h=> ?_) (fun h=> ?_)))
  ·have hk:k<8:=by simp at h;omega
   have e3:IntKind.i64.wrap ((k:Int)+1)=((k+1:Nat):Int):=b4B (k+1) (by omega)
   refine a0h ((a3Y (e:=54) (b:=b) (q:=8) (n:=8) (c:=8) (k:= .i64) (m:=(k:Int)) (vs:=[.slice (some ⟨b,8,none⟩) 8 8,.int .i64 (k:Nat)]) rfl rfl rfl (by kernel_rfl) (by kernel_rfl) (by omega) (by omega)).rds _) rfl ?_
   rw[hc1,Int.toNat_natCast,Nat.mul_one]
   refine a0h (d4D (q:=8+k) rfl rfl (PH.put_self _ _ _) (by omega)) rfl (a0a ⟨_,rfl⟩ (a0a ⟨_,rfl⟩ ?_))
   refine⟨⟨k+1,by omega,?_,rfl⟩,?_⟩
   ·simp only[rxs,e3,b4z _ _ (c6c (A*B) k) (a2p (A*B) (8+k))]
    rfl
   ·simp only[rxs,e3]
    omega
  ·have hk:k=8:=by simp at h;omega
   subst hk
   refine a0h ((a6c (e:=54) (n:=16) (l:=8) (k:= .i64) (b:=b) (q:=0) (vs:=[.pointer (some ⟨b,0,none⟩),.int .i64 8]) rfl rfl rfl (by kernel_rfl) (by kernel_rfl) (by omega) (by omega)).rds _) rfl ?_
   refine a0h ((b2X (e:=54) (n:=8) (len:=8) (a:=some ⟨b,0,none⟩) (c:=16) (vs:=[.slice (some ⟨b,0,none⟩) 8 16]) rfl rfl (by kernel_rfl) (by omega)).rds _) rfl ?_
   have hc8:prog.cellsOf 206=8:=by kernel_rfl
   have hld:=a2d (P:=prog) (H:=PH.nil.put b (.cells (wa 16 (dig (A*B))) 336 (0,0))) (b:=b) (q:=0) a9Q rfl (PH.put_self _ _ _) (by kernel_rfl) (by rw[hc8,a7o];omega) (fun _=>by rw[a7o];omega)
   rw[show a0M prog 206=true from by kernel_rfl,hc8,if_pos rfl,Nat.zero_add,d6a]at hld
   exact a0h hld rfl (a0a ⟨words_size _,words_one _⟩ (a0c rfl rfl))
theorem b8M (a b:Nat):Det prog 236 [wd a,wd b] (.tuple #[wd (a%M*(b%M)),.int .u64 (orn (a%M*(b%M)) 8)]):=by
 have:=b6M (a%M) (b%M) (Nat.mod_lt _ a9L) (Nat.mod_lt _ a9L)
 rwa[show wd (a%M)=wd a from a9N (Nat.mod_mod _ _),show wd (b%M)=wd b from a9N (Nat.mod_mod _ _)]at this
end Go.Proofs.YtmannekkmdockaaGreatDoor
/- Contracts of package wide: Add, Sub, Mul, Of, Int, Sign, Cmp. -/
namespace Go.Proofs.YtmannekkmdockaaGreatDoor
open Go.Proofs.Tryz
open Go.RowKit Go.RX Go.WD Go.IntWalk
theorem a9V {x y:Int} (hx:x.natAbs<M) (hy:y.natAbs<M):x.natAbs*y.natAbs<PW 16:=by
 rw[show(16:Nat)=8+8 from rfl,a4i,<-a3w]
 exact Nat.mul_lt_mul'' hx hy
theorem c3q (x y:Int) (hx:x.natAbs<M) (hy:y.natAbs<M):∃v,Det prog 199 [nm x,nm y] (.tuple #[.agg v,.bool (decide (M<=(x*y).natAbs))])/\v.size=9/\a0t v/\((x*y).natAbs<M->Value.agg v=nm (x*y)):=by
 have ho:=b8J (a9V hx hy)
 have ht:=b8M x.natAbs y.natAbs
 rw[Nat.mod_eq_of_lt hx,Nat.mod_eq_of_lt hy,<-Int.natAbs_mul]at ht
 rw[<-Int.natAbs_mul]at ho
 refine⟨#[.bool ((decide (x<0) !=decide (y<0))&& !decide ((x*y).natAbs%M=0))]++words (x*y).natAbs,a0B mixed c7F (by kernel_rfl) rfl ?_,a2I _ _,a7m _ _,fun h=> ?_⟩
 ·refine a0n ⟨a2I _ _,a7m _ _⟩ (a0n ⟨a2I _ _,a7m _ _⟩ (a1Y ht rfl ?_))
  refine a0n ⟨_,rfl,Nat.zero_lt_succ _⟩ (a0n ⟨_,rfl,Nat.lt_succ_self _⟩ (a0n ⟨words_size _,words_one _⟩ (a0n ⟨_,rfl⟩ (a0n ⟨_,rfl⟩ ?_))))
  refine a1Y (d2b (decide (x<0) !=decide (y<0)) (x*y).natAbs) ?_ (a0n ⟨_,rfl⟩ (a0n ⟨a2I _ _,a7m _ _⟩ (a1b rfl ?_)))
  ·show[Value.bool (true !=(decide (x<0)==decide (y<0))),wd (x*y).natAbs]=_
   congr 2
   cases decide (x<0)<;>cases decide (y<0)<;>rfl
  ·show Value.tuple #[nb _ _,.bool (decide (((orn (x*y).natAbs 8:Nat):Int)>0))]=_
   have:decide (((orn (x*y).natAbs 8:Nat):Int)>0)=decide (M<=(x*y).natAbs):=by
    rw[Bool.eq_iff_iff,decide_eq_true_iff,decide_eq_true_iff]
    omega
   rw[this];rfl
 ·show nb _ _=nb _ _
  refine a9M ?_ rfl
  rw[Nat.mod_eq_of_lt h]
  rcases Int.lt_trichotomy x 0 with h1|h1|h1<;>rcases Int.lt_trichotomy y 0 with h2|h2|h2
  ·have:=Int.mul_pos_of_neg_of_neg h1 h2
   simp[h1,h2];omega
  ·subst h2;simp
  ·have:=Int.mul_neg_of_neg_of_pos h1 h2
   simp[h1,this,show ¬y<0 by omega];omega
  ·subst h1;simp
  ·subst h1;simp
  ·subst h1;simp
  ·have:=Int.mul_neg_of_pos_of_neg h1 h2
   simp[h2,this,show ¬x<0 by omega];omega
  ·subst h2;simp
  ·have:=Int.mul_pos h1 h2
   simp[show ¬x<0 by omega,show ¬y<0 by omega];omega
def opM:Array MapEntry:= #[⟨.int .u8 43,.func (.func 197) #[] #[],0⟩,⟨.int .u8 45,.func (.func 198) #[] #[],1⟩,⟨.int .u8 42,.func (.func 199) #[] #[],2⟩]
theorem d4E:prog.underlying 211=some (.map 5 (prog.mapElemOf 211)):=by kernel_rfl
theorem uU8:prog.underlying 5=some (.int .u8):=by kernel_rfl
set_option maxRecDepth 100000 in
theorem c3r (H:PH):Con prog 127 [] H fun v H'=>∃r,H r=none/\v= .map (some r)/\H'=H.put r (.map opM 3):=by
 refine a0b mixed c7G (by kernel_rfl) rfl (a0l (a3f rfl) rfl ?_)
 rintro v H1 ⟨r,hr,rfl,rfl⟩
 refine⟨(fun h=>nomatch h),a0l (a5u (r:=r) (key:= .int .u8 43) (val:= .func (.func 197) #[] #[]) (vs:=[.map (some r),.int .u8 43,.func (.func 197) #[] #[]]) (.inl rfl) rfl rfl rfl d4E uU8 (a1e uU8 false) (PH.put_self _ _ _) rfl) rfl ?_⟩
 rintro v H2 ⟨rfl,rfl⟩
 refine⟨(fun h=>nomatch h),a0l (a5u (r:=r) (key:= .int .u8 45) (val:= .func (.func 198) #[] #[]) (vs:=[.map (some r),.int .u8 45,.func (.func 198) #[] #[]]) (.inl rfl) rfl rfl rfl d4E uU8 (a1e uU8 false) (PH.put_self _ _ _) rfl) rfl ?_⟩
 rintro v H3 ⟨rfl,rfl⟩
 refine⟨(fun h=>nomatch h),a0l (a5u (r:=r) (key:= .int .u8 42) (val:= .func (.func 199) #[] #[]) (vs:=[.map (some r),.int .u8 42,.func (.func 199) #[] #[]]) (.inl rfl) rfl rfl rfl d4E uU8 (a1e uU8 false) (PH.put_self _ _ _) rfl) rfl ?_⟩
 rintro v H4 ⟨rfl,rfl⟩
 refine⟨(fun h=>nomatch h),a0c rfl ⟨r,hr,rfl,?_⟩⟩
 rw[PH.put_put,PH.put_put,PH.put_put]
 rfl
set_option maxRecDepth 100000 in
theorem c3s (a b:Nat) (s:Int) (i:Nat) (f:FuncId) (z:Int) (v:Array Value) (hs:Instr.findNow (.int .u8) (.int .u8 s) opM.toList 0=some (some (i,.func (.func f) #[] #[]))) (he:a5r prog f=true)
  (hd:Det prog f [nm (toI a),nm (toI b)] (.tuple #[.agg v,.bool (decide (M<=z.natAbs))])) (hv:v.size=9) (h1:a0t v) (hz:z.natAbs<M->Value.agg v=nm z):Det prog 73 [wd a,wd b,.int .u8 s] (told z):=by
 have hM:=c2s
 refine a8I (a0b mixed c7H (by kernel_rfl) rfl (a0a ⟨words_size a,words_one a⟩ (a0a ⟨words_size b,words_one b⟩ (a0d (c3r _) rfl ?_))))
 rintro m H1 ⟨r,hr,rfl,rfl⟩
 refine⟨fun _=>PH.le_put hr _,a0h (b6C (r:=r) (key:= .int .u8 s) (vs:=[.map (some r),.int .u8 s]) rfl rfl rfl d4E uU8 (a1e uU8) (PH.put_self _ _ _) hs) rfl ?_⟩
 refine a0s (a9R a) rfl (a0s (a9R b) rfl ?_)
 refine a0l (a2R (f:=f) (caps:= #[]) (vs:=[nm (toI a),nm (toI b)]) rfl rfl rfl he (hd.con _)) rfl ?_
 rintro u H2 ⟨rfl,rfl⟩
 refine⟨fun _=>PH.le.refl _,a0a ⟨_,rfl,Nat.zero_lt_succ _⟩ (a0a ⟨_,rfl,Nat.lt_succ_self _⟩ (a0a ⟨hv,h1⟩ (a0a ⟨_,rfl⟩ (a0e rfl (fun h=> ?_) (fun h=> ?_)))))⟩
 ·have h:=of_decide_eq_true h
  refine a0c rfl ?_
  simp only[rxs,a4u,a6e,told]
  rw[if_neg (by omega)]
 ·have h:=of_decide_eq_false h
  have hzz:=hz (by omega)
  obtain⟨p,q,hf⟩:=a4R z
  have ht:=b4v z (by omega)
  rw[hf]at ht⊢
  refine a0s ht ?_ (a0a ⟨_,rfl,Nat.zero_lt_succ _⟩ (a0a ⟨_,rfl,Nat.lt_succ_self _⟩ (a0a ⟨words_size _,words_one _⟩ (a0c rfl rfl))))
  show[Value.agg v]=_
  rw[hzz]
theorem c7P (a b:Nat):Det prog 28 [wd a,wd b] (told (toI a*toI b)):=by
 obtain⟨v,hd,hs,h1,hv⟩:=c3q (toI a) (toI b) (a4a a) (a4a b)
 have hb:=c3s a b 42 2 _ _ v rfl (by kernel_rfl) hd hs h1 hv
 obtain⟨p,q,hf⟩:=a4R (toI a*toI b)
 rw[hf]at hb⊢
 exact a0B mixed d1Z (by kernel_rfl) rfl (a0n ⟨words_size a,words_one a⟩ (a0n ⟨words_size b,words_one b⟩ (a1Y hb rfl (a0n ⟨_,rfl,Nat.zero_lt_succ _⟩ (a0n ⟨_,rfl,Nat.lt_succ_self _⟩ (a0n ⟨words_size _,words_one _⟩ (a1b rfl rfl)))))))
theorem b1E (n:Int):IntKind.u64.wrap n=((n%18446744073709551616).toNat:Int):=by
 rw[IntKind.wrap_u64];omega
theorem d5M (u:Nat):spl (words 0) 0 [.int .u64 (u:Int)]=wf fun j=>if j=0 then u else 0:=by
 refine Eq.trans (b4r (dig 0) (show 0<8 by omega) u) (a2u fun i _=> ?_)
 rw[a3Z]
theorem b4C (n:Int) (h0: -9223372036854775808<=n) (h1:n<9223372036854775808):Det prog 29 [.int .i64 n] (iw n):=by
 have hw:=b3k (n:=n) (by omega) (by omega)
 refine a0B mixed d4W (by kernel_rfl) rfl (a0n ⟨n,rfl⟩ (a1S (b:=decide (n<0)) rfl (fun h=> ?_) (fun h=> ?_)))
 ·have hn:=of_decide_eq_true h
  refine⟨fun l=>∃k,1<=k/\k<=8/\l=[.int .i64 (k:Nat),.agg (wf fun j=>if j<k then(if j=0 then(n%18446744073709551616).toNat else 18446744073709551615)else 0)],fun l=>(8-intOf (l.getD 0 undef)).toNat,⟨1,by omega,by omega,?_⟩,?_⟩
  ·simp only[rxs,a6e,b1E,d5M]
   congr 3
  ·rintro vals-⟨k,hk1,hk,rfl⟩
   refine a0n ⟨_,rfl⟩ (a1S (b:=decide ((k:Int)<8)) rfl (fun h=> ?_) (fun h=> ?_))
   ·have hk:k<8:=by simp at h;omega
    have e3:IntKind.i64.wrap ((k:Int)+1)=((k+1:Nat):Int):=b4B (k+1) (by omega)
    refine a0n ⟨_,_,rfl⟩ (a0n ⟨?_,?_⟩ ?_)
    ·show(0:Int)<=(k:Int);omega
    ·show(k:Int)<8;omega
    ·refine⟨⟨k+1,by omega,by omega,?_⟩,?_⟩
     ·have:=b4r (fun j=>if j<k then(if j=0 then(n%18446744073709551616).toNat else 18446744073709551615)else 0) hk 18446744073709551615
      simp only[rxs,e3]
      rw[show(18446744073709551615:Int)=((18446744073709551615:Nat):Int)from rfl,this]
      congr 3
      refine a2u fun i _=> ?_
      by_cases e:i=k
      ·subst e;rw[if_pos rfl,if_pos (show i<i+1 by omega),if_neg (show ¬i=0 by omega)]
      ·rw[if_neg e]
       by_cases e':i<k
       ·rw[if_pos e',if_pos (show i<k+1 by omega)]
       ·rw[if_neg e',if_neg (show ¬i<k+1 by omega)]
     ·simp only[rxs,e3]
      omega
   ·have hk:k=8:=by simp at h;omega
    subst hk
    refine a1b rfl ?_
    simp only[rxs,a4u,iw,wd,hw]
    congr 1
    exact a2u fun i hi=>by rw[if_pos hi,if_pos hn]
 ·have hn:=of_decide_eq_false h
  refine a1b rfl ?_
  simp only[rxs,a4u,a6e,b1E,d5M,iw,wd,hw]
  congr 1
  exact a2u fun i hi=>by rw[if_neg hn]
end Go.Proofs.YtmannekkmdockaaGreatDoor
/- The reference of chapter 01: cut, made, order. -/
namespace Go.Proofs.YtmannekkmdockaaGreatDoor
open Go.Proofs.Tryz
open Go.RowKit Go.RX Go.WD
theorem d2k {a b:Nat} (h:a+b<9223372036854775808):IntKind.i64.wrap ((a:Int)+(b:Int))=((a+b:Nat):Int):=by rw[IntKind.wrap_i64];omega
theorem b1F {a:Nat} (h:a+1<9223372036854775808):IntKind.i64.wrap ((a:Int)+1)=((a+1:Nat):Int):=by rw[IntKind.wrap_i64];omega
theorem d2l {a:Nat} (h:a<9223372036854775808) (hb:1<=a):IntKind.i64.wrap ((a:Int)-1)=((a-1:Nat):Int):=by rw[IntKind.wrap_i64];omega
theorem c3t {z:Int} (h: -9223372036854775808<=z) (h2:z<9223372036854775808):IntKind.i64.wrap z=z:=by rw[IntKind.wrap_i64];omega
section
variable {H:PH} {v:Value} {l:List Nat}
def sn (b:Bool) (n:Nat):Int:=if b then -(n:Int)else n
end
open Go.RowKit Go.RX Go.WD
theorem wu {a:Nat} (h:a<18446744073709551616):IntKind.u64.wrap (a:Int)=(a:Int):=by rw[IntKind.wrap_u64];omega
end Go.Proofs.YtmannekkmdockaaGreatDoor

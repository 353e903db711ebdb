/- The reference of chapter 01: cut, made, order. -/
import Derived.Test.YtkcjbfoejpfbbaaGreatDoorRfB
import Derived.Test.YtkcjbfoejpfbbaaGreatDoorWdK
import Derived.Test.YtkcjbfoejpfbbaaGreatDoorRxT
namespace Go.Proofs.YtkcjbfoejpfbbaaGreatDoor
open Go.Proofs.Tryz
open Go.RowKit Go.RX Go.WD
theorem d2F {a b:Nat} (h:a+b<9223372036854775808):IntKind.i64.wrap ((a:Int)+(b:Int))=((a+b:Nat):Int):=by rw[IntKind.wrap_i64];omega
theorem b3g {a:Nat} (h:a+1<9223372036854775808):IntKind.i64.wrap ((a:Int)+1)=((a+1:Nat):Int):=by rw[IntKind.wrap_i64];omega
theorem d4r {a:Nat} (h:a<9223372036854775808) (hb:1<=a):IntKind.i64.wrap ((a:Int)-1)=((a-1:Nat):Int):=by rw[IntKind.wrap_i64];omega
theorem b4T {z:Int} (h: -9223372036854775808<=z) (h2:z<9223372036854775808):IntKind.i64.wrap z=z:=by rw[IntKind.wrap_i64];omega
theorem Ds.len {H:PH} {v:Value} {l:List Nat} (h:Ds H v l):l.length<9223372036854775808:=by
 have:=h.1.len_le;simp only[maxLen]at this;omega
theorem Ds.take {H:PH} {v:Value} {l:List Nat} {o:Oper} {x hi:Operand} {i:Nat} {k:IntKind} {vs:List Value} (h:Ds H v l) (ho:o.op= .slice 32 x none (some hi) none) (hx:a0h [x,hi] vs x=v) (hl:a0h [x,hi] vs hi= .int k (i:Nat)) (h1:i<=l.length):∃u,Yld prog o vs u/\Ds H u (l.take i):=by
 obtain⟨u,h2,h3⟩:=b8h (P:=prog) ho hx hl a1U a3R h.1 h1
 refine⟨u,h2,?_,h.2.take i⟩
 rw[List.length_take,Nat.min_eq_left h1,List.map_take]
 rwa[Nat.mul_one]at h3
section
variable {H:PH} {v:Value} {l:List Nat}
theorem b6B {n:Nat} (hn:n<=l.length) (hz:∀k,n<=k->l.getD k 0=0):vl (l.take n)=vl l:=by
 obtain⟨d,hd⟩:=Nat.exists_eq_add_of_le hn
 induction d generalizing n with
 |zero=>rw[List.take_of_length_le (by omega)]
 |succ d ih=>
  have:=ih (n:=n+1) (by omega) (fun k hk=>hz k (by omega)) (by omega)
  rw[a1P (by omega),hz n (Nat.le_refl n),Nat.mul_zero,Nat.add_zero]at this
  exact this
theorem a3T (h:Ds H v l):Con prog 123 [v] H fun u H'=>H'=H/\Nu H u (vl l):=by
 have hlen:=h.len
 refine a0r a0n d1u (by kernel_rfl) rfl (a1f rfl rfl h rfl ⟨fun vals H'=>∃n:Nat,vals=[iv n]/\H'=H/\n<=l.length/\∀k,n<=k->l.getD k 0=0,fun vals _=>(intOf (vals.getD 0 undef)).toNat,⟨l.length,rfl,rfl,Nat.le_refl _,fun k hk=>a7l hk⟩,?_⟩)
 rintro vals H'-⟨n,rfl,rfl,hn,hz⟩
 simp only[cA,nA]
 refine⟨fun vs H1=>H1=H'/\vs=[.bool (decide (0<n/\l.getD (n-1) 0=0))],a0c ⟨_,rfl⟩ (a0e (b:=decide ((n:Int)>0)) rfl (fun hb=> ?_) (fun hb=> ?_)),?_⟩
 ·have hb:=of_decide_eq_true hb
  have e1:IntKind.i64.wrap ((n:Int)-1)=((n-1:Nat):Int):=d4r (by omega) (by omega)
  refine a2r (k:= .i64) (j:=n-1) rfl rfl rfl rfl (fun _=>rfl) h (by omega) (by simp only[rxs,iv,e1]) (fun _=>rfl) fun p=>a0c ⟨_,rfl⟩ ⟨rfl,?_⟩
  simp only[rxs,iv]
  congr 2
  rw[Bool.eq_iff_iff]
  simp only[beq_iff_eq,decide_eq_true_eq]
  omega
 ·have hb:=of_decide_eq_false hb
  refine⟨rfl,?_⟩
  simp only[rxs]
  congr 2
  rw[eq_comm,decide_eq_false_iff_not]
  omega
 ·rintro vs H1-⟨rfl,rfl⟩
  simp only[cA,nA]
  refine a0c ⟨_,rfl⟩ (a0e rfl (fun hb=> ?_) (fun hb=> ?_))
  ·have hb:=of_decide_eq_true hb
   have e1:IntKind.i64.wrap ((n:Int)-1)=((n-1:Nat):Int):=d4r (by omega) (by omega)
   refine a0c ⟨_,rfl⟩ ⟨⟨n-1,?_,rfl,by omega,fun k hk=> ?_⟩,?_⟩
   ·simp only[rxs,iv,e1]
   ·rcases Nat.eq_or_lt_of_le hk with e|e
    ·rw[<-e];exact hb.2
    ·exact hz k (by omega)
   ·simp only[rxs,iv,e1]
    omega
  ·have hb:=of_decide_eq_false hb
   obtain⟨u,hu,hd⟩:=Ds.take (vs:=[v,iv n]) (k:= .i64) (i:=n) h b3e rfl rfl hn
   refine a0u (hu.rds _) rfl (a0b rfl ⟨rfl,l.take n,hd,?_,b6B hn hz⟩)
   rcases Nat.eq_zero_or_pos n with e|e
   ·subst e;exact Tm.nil
   ·refine Tm.of (n:=n-1) (by rw[List.length_take];omega) ?_
    rw[List.getD_eq_getElem?_getD,List.getElem?_take,if_pos (by omega),<-List.getD_eq_getElem?_getD]
    exact fun h0=>hb ⟨e,h0⟩
def Lg (H:PH) (v:Value) (z:Int):Prop:=∃w,v= .agg #[.bool (decide (z<0)),w]/\Nu H w z.natAbs
theorem Lg.mono {H H':PH} {v:Value} {z:Int} (h:Lg H v z) (hl:PH.le H H'):Lg H' v z:=by
 obtain⟨w,h1,h2⟩:=h;exact⟨w,h1,h2.mono hl⟩
theorem Nu.one {H:PH} {v:Value} {n:Nat} (h:Nu H v n):v.cells= #[v]/\v.cells.size=1/\a0J v.cells:=by
 obtain⟨l,h1,_⟩:=h;exact⟨h1.cells,h1.one⟩
def sn (b:Bool) (n:Nat):Int:=if b then -(n:Int)else n
theorem a1H (b:Bool) (h:Ds H v l):Con prog 121 [.bool b,v] H fun u H'=>H'=H/\Lg H u (sn b (vl l)):=by
 refine a0r a0n c6V (by kernel_rfl) rfl (a0f (a3T h) rfl ?_)
 rintro u H' ⟨rfl,hu⟩
 refine⟨fun h=>(nomatch h),a0c ⟨_,rfl⟩ (a0e rfl (fun hb=> ?_) (fun hb=> ?_))⟩
 ·subst hb
  obtain⟨l2,h2,h3,h4⟩:=id hu
  refine a1f rfl rfl h2 rfl (a0c ⟨_,rfl⟩ (a0c h2.one (a0b rfl ⟨rfl,u,?_,?_⟩)))
  ·simp only[rxs,a6w,h2.cells,iv,a7Z]
   have:=h3.pos
   rw[h4]at this
   show Value.agg #[.bool (decide ((l2.length:Int)>0)),u]=_
   congr 4
   rw[decide_eq_decide]
   show _↔ -(vl l:Int)<0
   omega
  ·show Nu _ u (-(vl l:Int)).natAbs
   rw[Int.natAbs_neg,Int.natAbs_natCast];exact hu
 ·subst hb
  obtain⟨h2,h3⟩:=hu.one
  refine a0c h3 (a0b rfl ⟨rfl,u,?_,?_⟩)
  ·simp only[rxs,a6w,h2,a7Z]
   show Value.agg #[.bool false,u]=_
   congr 4
  ·exact hu
theorem d4s {a b:List Nat} (ha:Dg a) (hb:Dg b) (ta:Tm a) (tb:Tm b) (h:a.length≠b.length):((a.length:Int)-b.length<0↔vl a<vl b)/\((a.length:Int)-b.length=0↔vl a=vl b):=by
 rcases Nat.lt_or_gt_of_ne h with h1|h1
 ·have:=Tm.lt_of_len ha tb h1;omega
 ·have:=Tm.lt_of_len hb ta h1;omega
theorem a8x {a b:List Nat} {va vb:Value} (ha:Ds H va a) (hb:Ds H vb b) (ta:Tm a) (tb:Tm b):Con prog 124 [va,vb] H fun u H'=>H'=H/\∃c:Int,u= .int .i64 c/\(c<0↔vl a<vl b)/\(c=0↔vl a=vl b):=by
 have hla:=ha.len
 have hlb:=hb.len
 refine a0r a0n c1Q (by kernel_rfl) rfl (a1f rfl rfl ha rfl (a1f rfl rfl hb rfl (a0c ⟨_,rfl⟩ (a0c ⟨_,rfl⟩ (a0e (b:=decide (a.length≠b.length)) ?_ (fun h=> ?_) (fun h=> ?_))))))
 ·simp only[rxs,iv]
  congr 1
  rw[Bool.eq_iff_iff]
  simp only[bne_iff_ne,decide_eq_true_eq]
  omega
 ·have h:=of_decide_eq_true h
  have e1:IntKind.i64.wrap ((a.length:Int)-b.length)=(a.length:Int)-b.length:=b4T (by omega) (by omega)
  refine a1f rfl rfl ha rfl (a1f rfl rfl hb rfl (a0c ⟨_,rfl⟩ (a0c ⟨_,rfl⟩ (a0b rfl ⟨rfl,_,?_,d4s ha.2 hb.2 ta tb h⟩))))
  simp only[rxs,iv,a6w,e1]
 ·have h:a.length=b.length:=by have:=of_decide_eq_false h;omega
  have e0:IntKind.i64.wrap ((a.length:Int)-1)=(a.length:Int)-1:=b4T (by omega) (by omega)
  refine a1f rfl rfl ha rfl (a0c ⟨_,rfl⟩ ⟨fun vals H'=>∃n:Nat,vals=[.int .i64 0,.int .i64 ((n:Int)-1)]/\H'=H/\n<=a.length/\a.drop n=b.drop n,fun vals _=>(intOf (vals.getD 1 undef)+1).toNat,⟨a.length,?_,rfl,Nat.le_refl _,?_⟩,?_⟩)
  ·simp only[rxs,iv,e0]
  ·rw[List.drop_of_length_le (Nat.le_refl _),List.drop_of_length_le (by omega)]
  ·rintro vals H'-⟨n,rfl,rfl,hn,hd⟩
   simp only[cA,nA]
   refine a0c ⟨_,rfl⟩ (a0e (b:=decide ((n:Int)-1≥0)) rfl (fun h1=> ?_) (fun h1=> ?_))
   ·have h1:=of_decide_eq_true h1
    obtain⟨m,rfl⟩:∃m,n=m+1:=⟨n-1,by omega⟩
    have em:((m+1:Nat):Int)-1=(m:Nat):=by omega
    rw[em]
    refine a2r (k:= .i64) (j:=m) rfl rfl rfl rfl (fun _=>rfl) ha (by omega) rfl (fun _=>rfl) fun p=>a2r (k:= .i64) (j:=m) rfl rfl rfl rfl (fun _=>rfl) hb (by omega) rfl (fun _=>rfl) fun q=> ?_
    have da:=ha.2.at m
    have db:=hb.2.at m
    refine a0c ⟨_,rfl⟩ (a0c ⟨_,rfl⟩ (a0e (b:=decide (a.getD m 0≠b.getD m 0)) ?_ (fun h2=> ?_) (fun h2=> ?_)))
    ·simp only[rxs,iv]
     congr 1
     rw[Bool.eq_iff_iff]
     simp only[bne_iff_ne,decide_eq_true_eq]
     omega
    ·have h2:=of_decide_eq_true h2
     refine a2r (k:= .i64) (j:=m) rfl rfl rfl rfl (fun _=>rfl) ha (by omega) rfl (fun _=>rfl) fun p2=>a2r (k:= .i64) (j:=m) rfl rfl rfl rfl (fun _=>rfl) hb (by omega) rfl (fun _=>rfl) fun q2=> ?_
     have e1:IntKind.i64.wrap ((a.getD m 0:Nat)-(b.getD m 0:Nat):Int)=(a.getD m 0:Nat)-(b.getD m 0:Nat):=b4T (by omega) (by omega)
     refine a0c ⟨_,rfl⟩ (a0c ⟨_,rfl⟩ (a0b rfl ⟨rfl,(a.getD m 0:Nat)-(b.getD m 0:Nat),?_,?_⟩))
     ·simp only[rxs,iv,a6w,e1]
     ·rcases Nat.lt_or_gt_of_ne h2 with h3|h3
      ·have:=b4R ha.2 hb.2 (by omega) (by omega) hd h3;omega
      ·have:=b4R hb.2 ha.2 (by omega) (by omega) hd.symm h3;omega
    ·have h2:a.getD m 0=b.getD m 0:=by have:=of_decide_eq_false h2;omega
     have e2:IntKind.i64.wrap ((m:Int)-1)=(m:Int)-1:=b4T (by omega) (by omega)
     refine⟨⟨m,?_,rfl,by omega,?_⟩,?_⟩
     ·simp only[rxs,iv,e2]
     ·rw[a9Q (by omega),a9Q (l:=b) (by omega),h2,hd]
     ·simp only[rxs,iv,e2]
      omega
   ·have h1:=of_decide_eq_false h1
    have hn0:n=0:=by omega
    subst hn0
    refine a0b rfl ⟨rfl,0,rfl,?_⟩
    rw[List.drop_zero,List.drop_zero]at hd
    rw[hd];omega
end
open Go.RowKit Go.RX Go.WD
theorem a1A (l:List Nat) (k:Nat):vl (l.take (k+1))=vl (l.take k)+BP k*l.getD k 0:=by
 rcases Nat.lt_or_ge k l.length with h|h
 ·exact a1P h
 ·rw[List.take_of_length_le (by omega),List.take_of_length_le h,a7l h,Nat.mul_zero,Nat.add_zero]
theorem a9V (l:List Nat) (d:Nat):vl (l++[d])=vl l+BP l.length*d:=by rw[a3C,c9d]
theorem d4t (a b:Nat):(a:Int).tmod (b:Int)=((a%b:Nat):Int):=(Int.ofNat_tmod a b).symm
theorem d7f (a b:Nat):(a:Int).tdiv (b:Int)=((a/b:Nat):Int):=(Int.ofNat_tdiv a b).symm
theorem c1X (a:Nat):(a:Int).tmod 4294967296=((a%4294967296:Nat):Int):=d4t a 4294967296
theorem c1Y (a:Nat):(a:Int).tdiv 4294967296=((a/4294967296:Nat):Int):=d7f a 4294967296
theorem wn {a:Nat} (h:a<9223372036854775808):IntKind.i64.wrap (a:Int)=(a:Int):=by rw[IntKind.wrap_i64];omega
theorem wu {a:Nat} (h:a<18446744073709551616):IntKind.u64.wrap (a:Int)=(a:Int):=by rw[IntKind.wrap_u64];omega
section
variable {H:PH}
set_option maxRecDepth 100000 in
theorem b3h (a:Nat):Con prog 120 [wd a] H fun u H'=>PH.le H H'/\∃l,Ds H' u l/\l.length=16/\vl l=a%M:=by
 refine a0r a0n b6y (by kernel_rfl) rfl (a0c ⟨a8j a,b1e a⟩ ⟨fun vals H'=>∃(n:Nat) (v:Value) (l:List Nat),vals=[v,iv n]/\n<=8/\PH.le H H'/\Od H H' v l/\l.length=2*n/\vl l=a%PW n,fun vals _=>(8-intOf (vals.getD 1 undef)).toNat,⟨0,_,[],rfl,by omega,PH.le.refl H,Od.nil H H,rfl,?_⟩,?_⟩)
 ·rw[a9w,Nat.mod_one];rfl
 rintro vals H'-⟨n,v,l,rfl,hn,hle,hO,hl,hv⟩
 simp only[cA,nA]
 refine a0c ⟨_,rfl⟩ (a0e (b:=decide ((n:Int)<8)) rfl (fun h=> ?_) (fun h=> ?_))
 ·have h:n<8:=by have:=of_decide_eq_true h;omega
  have hd:=d3i a n
  have e1:IntKind.i64.wrap (((dig a n:Nat):Int).tmod 4294967296)=((dig a n%4294967296:Nat):Int):=by rw[c1X,wn (by omega)]
  have e2:IntKind.i64.wrap (IntKind.u64.wrap (((dig a n:Nat):Int).tdiv 4294967296))=((dig a n/4294967296:Nat):Int):=by rw[c1Y,wu (by omega),wn (by omega)]
  have e3:IntKind.i64.wrap ((n:Int)+1)=((n+1:Nat):Int):=b3g (by omega)
  refine a0c ⟨_,_,rfl⟩ (a0c ⟨by show(0:Int)<=(n:Int);omega,by show(n:Int)<8;omega⟩ (a0c ⟨(dig a n:Nat),by simp only[rxs,iv,b1f a h]⟩ (a8v (d:=dig a n%4294967296) (e:=dig a n/4294967296) rfl rfl rfl (by omega) (by omega) ?_ fun u H1 hl1 h1=> ?_)))
  ·simp only[rxs,iv,b1f a h,e1,e2]
  ·refine a3S rfl rfl rfl (hle.trans hl1) (hO.mono hl1) h1.ds (by rw[hl];simp only[List.length_cons,List.length_nil];omega) rfl rfl fun v' H2 hl2 h2 _=> ?_
   refine⟨⟨n+1,v',_,?_,by omega,hl2,h2,?_,?_⟩,?_⟩
   ·simp only[rxs,iv,e3]
   ·rw[List.length_append,hl];rfl
   ·rw[a3C,hv,hl,d4m,b3W]
    simp only[vl,Nat.mul_zero,Nat.add_zero]
    congr 2
    omega
   ·simp only[rxs,iv,e3]
    omega
 ·have h:n=8:=by have:=of_decide_eq_false h;omega
  subst h
  refine a0b rfl ⟨hle,l,hO.ds,hl,?_⟩
  rw[b6k];exact hv
variable {a b:List Nat} {va vb:Value}
set_option maxRecDepth 100000 in
theorem a4T (ha:Ds H va a) (hb:Ds H vb b) (hab:vl b<=vl a) (hl:b.length<=a.length) (hA:a.length<=100000):Con prog 122 [va,vb] H fun u H'=>PH.le H H'/\Nu H' u (vl a-vl b):=by
 refine a0r a0n c6X (by kernel_rfl) rfl ⟨fun vals H'=>∃(br i:Nat) (v:Value) (l:List Nat),vals=[iv br,v,iv i]/\br<=1/\i<=a.length/\PH.le H H'/\Od H H' v l/\l.length=i/\vl (a.take i)+BP i*br=vl (b.take i)+vl l,fun vals _=>(a.length-intOf (vals.getD 2 undef)).toNat,⟨0,0,_,[],rfl,by omega,by omega,PH.le.refl H,Od.nil H H,rfl,?_⟩,?_⟩
 ·simp[vl]
 rintro vals H'-⟨br,i,v,l,rfl,hbr,hi,hle,hO,hll,hv⟩
 simp only[cA,nA]
 have ha':=ha.mono hle
 have hb':=hb.mono hle
 refine a1f rfl rfl ha' rfl (a0c ⟨_,rfl⟩ (a0c ⟨_,rfl⟩ (a0e (b:=decide ((i:Int)<a.length)) rfl (fun h=> ?_) (fun h=> ?_))))
 ·have h:i<a.length:=by have:=of_decide_eq_true h;omega
  refine a2r (k:= .i64) (j:=i) rfl rfl rfl rfl (fun _=>rfl) ha' h rfl (fun _=>rfl) fun p=>a0c ⟨_,rfl⟩ (a0c ⟨_,rfl⟩ (a1f rfl rfl hb' rfl (a0c ⟨_,rfl⟩ ?_)))
  have da:=ha.2.at i
  have db:=hb.2.at i
  have e1:IntKind.i64.wrap (((a.getD i 0:Nat):Int)-(br:Int))=((a.getD i 0:Nat):Int)-(br:Int):=b4T (by omega) (by omega)
  refine⟨fun vs H1=>H1=H'/\vs=[.int .i64 (((a.getD i 0:Nat):Int)-(br:Int)-(b.getD i 0:Nat))],a0e (b:=decide ((i:Int)<b.length)) rfl (fun h1=> ?_) (fun h1=> ?_),?_⟩
  ·have h1:=of_decide_eq_true h1
   refine a2r (k:= .i64) (j:=i) rfl rfl rfl rfl (fun _=>rfl) hb' (by omega) rfl (fun _=>rfl) fun q=>a0c ⟨_,rfl⟩ ⟨rfl,?_⟩
   have e2:IntKind.i64.wrap (((a.getD i 0:Nat):Int)-(br:Int)-(b.getD i 0:Nat))=((a.getD i 0:Nat):Int)-(br:Int)-(b.getD i 0:Nat):=b4T (by omega) (by omega)
   simp only[rxs,iv,e1,e2]
  ·have h1:=of_decide_eq_false h1
   refine⟨rfl,?_⟩
   rw[a7l (l:=b) (by omega)]
   simp only[rxs,iv,e1]
   congr 2
   omega
  ·rintro vs H1-⟨rfl,rfl⟩
   simp only[cA,nA]
   refine a0c ⟨_,rfl⟩ ⟨fun vs H2=>H2=H1/\∃d br':Nat,vs=[iv d,iv br']/\d<4294967296/\br'<=1/\d+br+b.getD i 0=a.getD i 0+4294967296*br',a0e rfl (fun h1=> ?_) (fun h1=> ?_),?_⟩
   ·have h1:=of_decide_eq_true h1
    have e2:IntKind.i64.wrap (((a.getD i 0:Nat):Int)-(br:Int)-(b.getD i 0:Nat)+4294967296)=((a.getD i 0+4294967296-br-b.getD i 0:Nat):Int):=by rw[b4T (by omega) (by omega)];omega
    refine⟨rfl,a.getD i 0+4294967296-br-b.getD i 0,1,?_,?_,by omega,by omega⟩
    ·simp only[rxs,iv,e2];rfl
    ·replace h1:((a.getD i 0:Nat):Int)-(br:Int)-(b.getD i 0:Nat)<0:=h1
     omega
   ·have h1:=of_decide_eq_false h1
    replace h1:¬((a.getD i 0:Nat):Int)-(br:Int)-(b.getD i 0:Nat)<0:=h1
    have e2:((a.getD i 0:Nat):Int)-(br:Int)-(b.getD i 0:Nat)=((a.getD i 0-br-b.getD i 0:Nat):Int):=by omega
    refine⟨rfl,a.getD i 0-br-b.getD i 0,0,?_,by omega,by omega,by omega⟩
    simp only[rxs,iv,e2];rfl
   ·rintro vs H2-⟨rfl,d,br',rfl,hd,hbr',key⟩
    simp only[cA,nA]
    have e3:IntKind.i64.wrap ((i:Int)+1)=((i+1:Nat):Int):=b3g (by omega)
    refine a6g rfl rfl rfl (fun _=>rfl) (fun _=>rfl) hle hO hd (by omega) rfl (fun _=>rfl) rfl fun p v' H3 hl3 h3=>⟨⟨br',i+1,v',l++[d],?_,hbr',by omega,hl3,h3,by simp[hll],?_⟩,?_⟩
    ·simp only[rxs,iv,e3]
    ·have k2:=congrArg (BP i* ·) key
     simp only[Nat.mul_add]at k2
     rw[a1A,a1A,a9V,hll,a2W,Nat.mul_assoc]
     omega
    ·simp only[rxs,iv,e3]
     omega
 ·have h:i=a.length:=by have:=of_decide_eq_false h;omega
  rw[h,List.take_of_length_le (Nat.le_refl _),List.take_of_length_le hl]at hv
  have hlt:=b1I hO.2
  rw[hll,h]at hlt
  have hb0:br=0:=by
   rcases Nat.eq_zero_or_pos br with e|e
   ·exact e
   ·have:br=1:=by omega
    rw[this]at hv;omega
  refine a0f (a3T hO.ds) rfl ?_
  rintro u H1 ⟨rfl,hu⟩
  refine⟨fun h=>(nomatch h),a0b rfl ⟨hle,?_⟩⟩
  have:vl a-vl b=vl l:=by rw[hb0]at hv;omega
  rw[this];exact hu
end
open Go.RowKit Go.RX Go.WD
section
variable {H:PH} {a b:List Nat} {va vb:Value}
set_option maxRecDepth 100000 in
theorem c1Z (ha:Ds H va a) (hb:Ds H vb b) (hA:a.length<=100000) (hB:b.length<=100000):Con prog 231 [va,vb] H fun u H'=>PH.le H H'/\∃l,Ds H' u l/\l.length<=max a.length b.length+1/\vl l=vl a+vl b:=by
 refine a0r a0n c6W (by kernel_rfl) rfl ⟨fun vals H'=>∃(c i:Nat) (v:Value) (l:List Nat),vals=[v,iv c,iv i]/\c<=1/\i<=max a.length b.length+1/\(i=max a.length b.length+1->c=0)/\PH.le H H'/\Od H H' v l/\l.length=i/\vl l+BP i*c=vl (a.take i)+vl (b.take i),fun vals _=>((max a.length b.length:Nat)+1-intOf (vals.getD 2 undef)).toNat,⟨0,0,_,[],rfl,by omega,by omega,by omega,PH.le.refl H,Od.nil H H,rfl,?_⟩,?_⟩
 ·simp[vl]
 rintro vals H'-⟨c,i,v,l,rfl,hc,hi,hc0,hle,hO,hll,hv⟩
 simp only[cA,nA]
 have ha':=ha.mono hle
 have hb':=hb.mono hle
 refine⟨fun vs H1=>H1=H'/\vs=[.bool (decide (i<a.length\/i<b.length\/0<c))],?_,?_⟩
 ·refine a1f rfl rfl ha' rfl (a0c ⟨_,rfl⟩ (a0c ⟨_,rfl⟩ (a0e (b:=decide ((i:Int)<a.length)) rfl (fun h=> ?_) (fun h=> ?_))))
  ·have h:=of_decide_eq_true h
   refine⟨rfl,?_⟩
   simp only[rxs]
   congr 2
   rw[eq_comm,decide_eq_true_iff];omega
  ·have h:=of_decide_eq_false h
   refine a1f rfl rfl hb' rfl (a0c ⟨_,rfl⟩ (a0e (b:=decide ((i:Int)<b.length)) rfl (fun h1=> ?_) (fun h1=> ?_)))
   ·have h1:=of_decide_eq_true h1
    refine⟨rfl,?_⟩
    simp only[rxs]
    congr 2
    rw[eq_comm,decide_eq_true_iff];omega
   ·have h1:=of_decide_eq_false h1
    refine a0c ⟨_,rfl⟩ ⟨rfl,?_⟩
    simp only[rxs,iv]
    congr 2
    rw[decide_eq_decide];omega
 ·rintro vs H1-⟨rfl,rfl⟩
  simp only[cA,nA]
  refine a0c ⟨_,rfl⟩ (a0e rfl (fun h=> ?_) (fun h=> ?_))
  ·have h:=of_decide_eq_true h
   have da:=ha.2.at i
   have db:=hb.2.at i
   refine a1f rfl rfl ha' rfl (a0c ⟨_,rfl⟩ (a0c ⟨_,rfl⟩ ⟨fun vs H2=>H2=H1/\vs=[iv (c+a.getD i 0)],a0e (b:=decide ((i:Int)<a.length)) rfl (fun h1=> ?_) (fun h1=> ?_),?_⟩))
   ·have h1:=of_decide_eq_true h1
    refine a2r (k:= .i64) (j:=i) rfl rfl rfl rfl (fun _=>rfl) ha' (by omega) rfl (fun _=>rfl) fun q=>a0c ⟨_,rfl⟩ (a0c ⟨_,rfl⟩ ⟨rfl,?_⟩)
    have e2:IntKind.i64.wrap ((c:Int)+(a.getD i 0:Nat))=((c+a.getD i 0:Nat):Int):=d2F (by omega)
    simp only[rxs,iv,e2]
   ·have h1:=of_decide_eq_false h1
    refine⟨rfl,?_⟩
    rw[a7l (l:=a) (by omega)]
    simp only[rxs,iv]
   ·rintro vs H2-⟨rfl,rfl⟩
    simp only[cA,nA]
    refine a1f rfl rfl hb' rfl (a0c ⟨_,rfl⟩ ⟨fun vs H3=>H3=H2/\vs=[iv (c+a.getD i 0+b.getD i 0)],a0e (b:=decide ((i:Int)<b.length)) rfl (fun h1=> ?_) (fun h1=> ?_),?_⟩)
    ·have h1:=of_decide_eq_true h1
     refine a2r (k:= .i64) (j:=i) rfl rfl rfl rfl (fun _=>rfl) hb' (by omega) rfl (fun _=>rfl) fun q=>a0c ⟨_,rfl⟩ (a0c ⟨_,rfl⟩ ⟨rfl,?_⟩)
     have e2:IntKind.i64.wrap (((c+a.getD i 0:Nat):Int)+(b.getD i 0:Nat))=((c+a.getD i 0+b.getD i 0:Nat):Int):=d2F (by omega)
     simp only[rxs,iv,e2]
    ·have h1:=of_decide_eq_false h1
     refine⟨rfl,?_⟩
     rw[a7l (l:=b) (by omega)]
     simp only[rxs,iv]
    ·rintro vs H3-⟨rfl,rfl⟩
     simp only[cA,nA]
     generalize hs:c+a.getD i 0+b.getD i 0=s
     have e3:IntKind.i64.wrap ((i:Int)+1)=((i+1:Nat):Int):=b3g (by omega)
     have e4:((s:Nat):Int).tmod 4294967296=((s%4294967296:Nat):Int):=c1X s
     have e5:IntKind.i64.wrap (((s:Nat):Int).tdiv 4294967296)=((s/4294967296:Nat):Int):=by rw[c1Y,wn (by omega)]
     refine a0c ⟨_,rfl⟩ (a6g (d:=s%4294967296) rfl rfl rfl (fun _=>rfl) (fun _=>rfl) hle hO (by omega) (by omega) ?_ (fun _=>rfl) rfl fun p v' H4 hl3 h3=>⟨⟨s/4294967296,i+1,v',l++[s%4294967296],?_,by omega,by omega,?_,hl3,h3,by simp[hll],?_⟩,?_⟩)
     ·simp only[rxs,iv,e4]
     ·simp only[rxs,iv,e3,e5]
     ·intro h4
      rw[a7l (l:=a) (by omega),a7l (l:=b) (by omega)]at hs
      omega
     ·have key:s%4294967296+4294967296*(s/4294967296)=c+a.getD i 0+b.getD i 0:=by omega
      have k2:=congrArg (BP i* ·) key
      simp only[Nat.mul_add]at k2
      rw[a1A,a1A,a9V,hll,a2W,Nat.mul_assoc]
      omega
     ·simp only[rxs,iv,e3]
      omega
  ·have h:=of_decide_eq_false h
   have hc0:c=0:=by omega
   rw[hc0,List.take_of_length_le (by omega),List.take_of_length_le (by omega)]at hv
   exact a0b rfl ⟨hle,l,hO.ds,by omega,by omega⟩
set_option maxRecDepth 100000 in
theorem b6C {bit:Nat} (ha:Ds H va a) (hA:a.length<=100000) (hbit:bit<=1):Con prog 230 [va,iv bit] H fun u H'=>PH.le H H'/\Nu H' u (2*vl a+bit):=by
 refine a0r a0n c1R (by kernel_rfl) rfl ⟨fun vals H'=>∃(c i:Nat) (v:Value) (l:List Nat),vals=[v,iv c,iv i]/\c<=1/\i<=a.length/\PH.le H H'/\Od H H' v l/\l.length=i/\vl l+BP i*c=2*vl (a.take i)+bit,fun vals _=>(a.length-intOf (vals.getD 2 undef)).toNat,⟨bit,0,_,[],rfl,by omega,by omega,PH.le.refl H,Od.nil H H,rfl,?_⟩,?_⟩
 ·simp[vl,a7i]
 rintro vals H'-⟨c,i,v,l,rfl,hc,hi,hle,hO,hll,hv⟩
 simp only[cA,nA]
 have ha':=ha.mono hle
 refine a1f rfl rfl ha' rfl (a0c ⟨_,rfl⟩ (a0c ⟨_,rfl⟩ (a0e (b:=decide ((i:Int)<a.length)) rfl (fun h=> ?_) (fun h=> ?_))))
 ·have h:i<a.length:=by have:=of_decide_eq_true h;omega
  refine a2r (k:= .i64) (j:=i) rfl rfl rfl rfl (fun _=>rfl) ha' h rfl (fun _=>rfl) fun p=>a0c ⟨_,rfl⟩ (a0c ⟨_,rfl⟩ ?_)
  have da:=ha.2.at i
  have e1:IntKind.i64.wrap (IntKind.i64.wrap (2*((a.getD i 0:Nat):Int))+(c:Int))=((2*a.getD i 0+c:Nat):Int):=by rw[b4T (z:=2*((a.getD i 0:Nat):Int)) (by omega) (by omega),b4T (by omega) (by omega)];omega
  have e2:IntKind.i64.wrap (((2*a.getD i 0+c:Nat):Int).tdiv 4294967296)=(((2*a.getD i 0+c)/4294967296:Nat):Int):=by rw[c1Y,wn (by omega)]
  have e3:IntKind.i64.wrap ((i:Int)+1)=((i+1:Nat):Int):=b3g (by omega)
  refine a6g (d:=(2*a.getD i 0+c)%4294967296) rfl rfl rfl (fun _=>rfl) (fun _=>rfl) hle hO (by omega) (by omega) ?_ (fun _=>rfl) rfl fun p v' H4 hl3 h3=>⟨⟨(2*a.getD i 0+c)/4294967296,i+1,v',l++[(2*a.getD i 0+c)%4294967296],?_,by omega,by omega,hl3,h3,by simp[hll],?_⟩,?_⟩
  ·simp only[rxs,iv,e1,c1X]
  ·simp only[rxs,iv,e1,e2,e3]
  ·have key:(2*a.getD i 0+c)%4294967296+4294967296*((2*a.getD i 0+c)/4294967296)=c+a.getD i 0+a.getD i 0:=by omega
   have k2:=congrArg (BP i* ·) key
   simp only[Nat.mul_add]at k2
   rw[a1A,a9V,hll,a2W,Nat.mul_assoc]
   omega
  ·simp only[rxs,iv,e3]
   omega
 ·have h:i=a.length:=by have:=of_decide_eq_false h;omega
  rw[List.take_of_length_le (by omega)]at hv
  refine a6g rfl rfl rfl (fun _=>rfl) (fun _=>rfl) hle hO (d:=c) (by omega) (by omega) rfl (fun _=>rfl) rfl fun p v' H4 hl3 h3=>a0f (a3T h3.ds) rfl ?_
  rintro u H5 ⟨rfl,hu⟩
  refine⟨fun h=>(nomatch h),a0b rfl ⟨hl3,?_⟩⟩
  rw[a9V,hll,hv]at hu
  exact hu
set_option maxRecDepth 100000 in
theorem b1J (ha:Ds H va a) (hb:Ds H vb b) (hA:a.length<=100000) (hB:b.length<=100000):Con prog 191 [va,vb] H fun u H'=>PH.le H H'/\Nu H' u (vl a*vl b):=by
 have e0:IntKind.i64.wrap ((a.length:Int)+(b.length:Int))=((a.length+b.length:Nat):Int):=d2F (by omega)
 refine a0r a0n b3f (by kernel_rfl) rfl (a1f rfl rfl ha rfl (a1f rfl rfl hb rfl (a0c ⟨_,rfl⟩ (a0c ⟨_,rfl⟩ (a9U (kl:= .i64) (kc:= .i64) (m:=a.length+b.length) rfl rfl rfl (by omega) (by simp only[rxs,iv,e0]) fun out H1 hl1 h1=> ?_)))))
 refine⟨fun vals H'=>∃(i:Nat) (l:List Nat),vals=[iv i]/\i<=a.length/\PH.le H H'/\Od H H' out l/\l.length=a.length+b.length/\(∀k,i+b.length<=k->l.getD k 0=0)/\vl l=vl (a.take i)*vl b,fun vals _=>(a.length-intOf (vals.getD 0 undef)).toNat,⟨0,_,rfl,by omega,hl1,h1,by simp,fun k _=>a9R _ k,?_⟩,?_⟩
 ·rw[a9P];simp[vl]
 rintro vals H'-⟨i,l,rfl,hi,hle,hO,hll,hz,hv⟩
 simp only[cA,nA]
 have ha':=ha.mono hle
 refine a1f rfl rfl ha' rfl (a0c ⟨_,rfl⟩ (a0c ⟨_,rfl⟩ (a0e (b:=decide ((i:Int)<a.length)) rfl (fun h=> ?_) (fun h=> ?_))))
 ·have h:i<a.length:=by have:=of_decide_eq_true h;omega
  have da:=ha.2.at i
  refine⟨fun vals H'=>∃(c j:Nat) (l:List Nat),vals=[.int .u64 (c:Nat),iv j]/\j<=b.length/\c<4294967296/\PH.le H H'/\Od H H' out l/\l.length=a.length+b.length/\(∀k,i+b.length<=k->l.getD k 0=0)/\vl l+BP (i+j)*c=vl (a.take i)*vl b+BP i*(a.getD i 0*vl (b.take j)),fun vals _=>(b.length-intOf (vals.getD 1 undef)).toNat,⟨0,0,l,rfl,by omega,by omega,hle,hO,hll,hz,?_⟩,?_⟩
  ·simp[vl,hv]
  rintro vals H2-⟨c,j,l2,rfl,hj,hc,hle2,hO2,hll2,hz2,hv2⟩
  simp only[cA,nA]
  have ha2:=ha.mono hle2
  have hb2:=hb.mono hle2
  refine a1f rfl rfl hb2 rfl (a0c ⟨_,rfl⟩ (a0c ⟨_,rfl⟩ (a0e (b:=decide ((j:Int)<b.length)) rfl (fun hj2=> ?_) (fun hj2=> ?_))))
  ·have hj2:j<b.length:=by have:=of_decide_eq_true hj2;omega
   have db:=hb.2.at j
   have dl:=hO2.2.at (i+j)
   have e1:IntKind.i64.wrap ((i:Int)+(j:Int))=((i+j:Nat):Int):=d2F (by omega)
   have hm:a.getD i 0*b.getD j 0<=4294967295*4294967295:=Nat.mul_le_mul (by omega) (by omega)
   generalize hs:c+l2.getD (i+j) 0+a.getD i 0*b.getD j 0=s
   have hs64:s<18446744073709551616:=by omega
   have e2:IntKind.u64.wrap ((l2.getD (i+j) 0:Nat):Int)=(l2.getD (i+j) 0:Nat):=wu (by omega)
   have e3:IntKind.u64.wrap ((a.getD i 0:Nat):Int)=(a.getD i 0:Nat):=wu (by omega)
   have e4:IntKind.u64.wrap ((b.getD j 0:Nat):Int)=(b.getD j 0:Nat):=wu (by omega)
   have e5:IntKind.u64.wrap ((c:Int)+(l2.getD (i+j) 0:Nat))=((c+l2.getD (i+j) 0:Nat):Int):=by rw[<-Int.natCast_add];exact wu (by omega)
   have e6:IntKind.u64.wrap (((a.getD i 0:Nat):Int)*(b.getD j 0:Nat))=((a.getD i 0*b.getD j 0:Nat):Int):=by rw[<-Int.natCast_mul];exact wu (by omega)
   have e7:IntKind.u64.wrap (((c+l2.getD (i+j) 0:Nat):Int)+((a.getD i 0*b.getD j 0:Nat):Int))=(s:Int):=by rw[<-Int.natCast_add,hs];exact wu hs64
   have e8:IntKind.i64.wrap ((s%4294967296:Nat):Int)=((s%4294967296:Nat):Int):=wn (by omega)
   have e9:IntKind.u64.wrap ((s/4294967296:Nat):Int)=((s/4294967296:Nat):Int):=wu (by omega)
   have e10:IntKind.i64.wrap ((j:Int)+1)=((j+1:Nat):Int):=b3g (by omega)
   refine a2r (k:= .i64) (j:=i+j) rfl rfl rfl rfl (fun _=>rfl) hO2.ds (by omega) (by simp only[rxs,iv,e1]) (fun _=>rfl) fun p1=> ?_
   refine a0c ⟨_,rfl⟩ (a0c ⟨_,rfl⟩ (a2r (k:= .i64) (j:=i) rfl rfl rfl rfl (fun _=>rfl) ha2 h rfl (fun _=>rfl) fun p2=> ?_))
   refine a0c ⟨_,rfl⟩ (a2r (k:= .i64) (j:=j) rfl rfl rfl rfl (fun _=>rfl) hb2 hj2 rfl (fun _=>rfl) fun p3=> ?_)
   refine a0c ⟨_,rfl⟩ (a9T (k:= .i64) (j:=i+j) (d:=s%4294967296) rfl rfl rfl rfl (fun _=>rfl) (fun _=>rfl) hle2 hO2 (by omega) (by omega) (by simp only[rxs,iv,e1]) (fun p=>by simp only[rxs,iv,e2,e3,e4,e5,e6,e7,c1X,e8]) rfl fun p u H3 hl3 h3 _=>⟨⟨s/4294967296,j+1,_,?_,by omega,?_,hl3,h3,by rw[List.length_set];exact hll2,?_,?_⟩,?_⟩)
   ·simp only[rxs,iv,e2,e3,e4,e5,e6,e7,c1Y,e9,e10]
   ·omega
   ·intro k hk
    rw[a7k (by omega)];exact hz2 k hk
   ·have k1:=b4Q (s%4294967296) (show i+j<l2.length by omega)
    have key:s%4294967296+4294967296*(s/4294967296)=c+l2.getD (i+j) 0+a.getD i 0*b.getD j 0:=by omega
    have k2:=congrArg (BP (i+j)* ·) key
    simp only[Nat.mul_add]at k2
    have k3:BP i*(a.getD i 0*(BP j*b.getD j 0))=BP (i+j)*(a.getD i 0*b.getD j 0):=by
     rw[d4l,Nat.mul_left_comm (a.getD i 0),Nat.mul_assoc]
    rw[a1A,Nat.mul_add,Nat.mul_add,k3,<-Nat.add_assoc i j 1,a2W,Nat.mul_assoc]
    omega
   ·simp only[rxs,iv,e10]
    omega
  ·have hj2:j=b.length:=by have:=of_decide_eq_false hj2;omega
   subst hj2
   have e1:IntKind.i64.wrap ((i:Int)+(b.length:Int))=((i+b.length:Nat):Int):=d2F (by omega)
   have e2:IntKind.i64.wrap (c:Int)=(c:Int):=wn (by omega)
   have e10:IntKind.i64.wrap ((i:Int)+1)=((i+1:Nat):Int):=b3g (by omega)
   refine a1f rfl rfl hb2 rfl (a0c ⟨_,rfl⟩ (a0c ⟨_,rfl⟩ (a9T (k:= .i64) (j:=i+b.length) (d:=c) rfl rfl rfl rfl (fun _=>rfl) (fun _=>rfl) hle2 hO2 (by omega) hc (by simp only[rxs,iv,e1]) (fun p=>by simp only[rxs,iv,e2]) rfl fun p u H3 hl3 h3 _=>⟨⟨i+1,_,?_,by omega,hl3,h3,by rw[List.length_set];exact hll2,?_,?_⟩,?_⟩)))
   ·simp only[rxs,iv,e10]
   ·intro k hk
    rw[a7k (by omega)];exact hz2 k (by omega)
   ·have k1:=b4Q c (show i+b.length<l2.length by omega)
    rw[hz2 _ (Nat.le_refl _),Nat.mul_zero,Nat.add_zero]at k1
    rw[k1,hv2,List.take_of_length_le (Nat.le_refl _),a1A,Nat.add_mul,Nat.mul_assoc]
   ·simp only[rxs,iv,e10]
    omega
 ·have h:i=a.length:=by have:=of_decide_eq_false h;omega
  rw[List.take_of_length_le (by omega)]at hv
  refine a0f (a3T hO.ds) rfl ?_
  rintro u H5 ⟨rfl,hu⟩
  refine⟨fun h=>(nomatch h),a0b rfl ⟨hle,?_⟩⟩
  rw[hv]at hu
  exact hu
end
end Go.Proofs.YtkcjbfoejpfbbaaGreatDoor
/- The reference of chapter 01: parts (quotient and remainder). -/
namespace Go.RX
open Go.RowKit
theorem d1w {P:Program} {H:PH} {o:Oper} {x lo:Operand} {vs:List Value} {T e:TypeId} {sz n i:Nat} {k:IntKind} {v:Value} {xs:List Value} (ho:o.op= .slice T x (some lo) none none) (hx:a0h [x,lo] vs x=v) (hl:a0h [x,lo] vs lo= .int k (i:Nat)) (hu:P.underlying T=some (.slice e)) (he:a2g P e=true) (hsz:P.cellsOf e=sz) (h:Sl H sz v n xs) (h1:i<=n):
  ∃u,Yld P o vs u/\Sl H sz u (n-i) (xs.drop (i*sz)):=by
 obtain⟨hlen,a,c,h2,h3,h4,h5⟩:=h
 obtain⟨⟨ie,hie⟩,_⟩:=a1g he
 have hos:o.op.operands.toList=[x,lo]:=by simp[ho,Op.operands]
 refine⟨.slice (if c=i then a else a.map (·.add (i*sz))) (n-i) (c-i),fun w=> ?_,by rw[List.length_drop,hlen,Nat.sub_mul],_,_,rfl,by omega,by omega,?_⟩
 ·rw[hos]
  simp only[execOp,ho,hx,h2,Option.map_some,Option.map_none,hl,Instr.sliceAt,Instr.slice,Sem.run_bind,run_underlying hu,Result.andThen_ok,Sem.run_pure,Instr.sliceBounds]
  rw[run_sliceBound w k (i:Int) n _ (by omega) (by omega)]
  simp only[Result.andThen_ok,a1o hie,Int.toNat_natCast,hsz]
 ·rcases h5 with h5|⟨b,q,cs,T',fz,h5,h6,h7⟩
  ·left;omega
  ·by_cases hni:n-i=0
   ·exact .inl hni
   ·right
    subst h5
    refine⟨b,q+i*sz,cs,T',fz,?_,h6,?_⟩
    ·rw[if_neg (by omega),Option.map_some,a2h]
    ·rw[<-h7,List.drop_take,List.drop_drop,Nat.sub_mul]
end Go.RX
namespace Go.Proofs.YtkcjbfoejpfbbaaGreatDoor
open Go.Proofs.Tryz
open Go.RowKit Go.RX Go.WD
theorem Ds.drop {H:PH} {v:Value} {l:List Nat} {o:Oper} {x lo:Operand} {i:Nat} {k:IntKind} {vs:List Value} (h:Ds H v l) (ho:o.op= .slice 32 x (some lo) none none) (hx:a0h [x,lo] vs x=v) (hl:a0h [x,lo] vs lo= .int k (i:Nat)) (h1:i<=l.length):∃u,Yld prog o vs u/\Ds H u (l.drop i):=by
 obtain⟨u,h2,h3⟩:=d1w (P:=prog) ho hx hl a1U a3R a2o h.1 h1
 refine⟨u,h2,?_,h.2.drop i⟩
 rw[List.length_drop,List.map_drop]
 rwa[Nat.mul_one]at h3
theorem Od.frame {Hr H Hr' H':PH} {v:Value} {l:List Nat} (h:Od Hr H v l) (hk:∀k ob,H k=some ob->Hr k=none->Hr' k=none/\H' k=some ob):Od Hr' H' v l:=⟨h.1.frame hk,h.2⟩
theorem _root_.Go.WD.Tm.top {l:List Nat} (h:Tm l) (hD:Dg l) {n:Nat} (hn:l.length=n+1):l.getD n 0≠0:=fun h0=>by
 have h1:=a1P (l:=l) (k:=n) (by omega)
 rw[List.take_of_length_le (by omega),h0,Nat.mul_zero,Nat.add_zero]at h1
 have h4:=b1I (hD.take n)
 rw[List.length_take,Nat.min_eq_left (by omega)]at h4
 have h3:l.length<=n:=h n (by omega)
 omega
theorem _root_.Go.WD.Tm.drop {l:List Nat} (h:Tm l) (hD:Dg l) (k:Nat):Tm (l.drop k):=by
 rcases Nat.lt_or_ge k l.length with hk|hk
 ·obtain⟨n,hn⟩:∃n,l.length=n+1:=⟨l.length-1,by omega⟩
  refine Tm.of (n:=n-k) (by rw[List.length_drop];omega) ?_
  rw[List.getD_eq_getElem?_getD,List.getElem?_drop,<-List.getD_eq_getElem?_getD,show k+(n-k)=n from by omega]
  exact h.top hD hn
 ·rw[List.drop_of_length_le hk];exact Tm.nil
theorem c7a {X ai Q qi r B k:Nat} (hk:k<32) (hq:qi%2^(k+1)=0) (h:X*2^(32-(k+1))+ai/2^(k+1)=(Q*2^(32-(k+1))+qi/2^(k+1))*B+r):
  X*2^(32-k)+ai/2^k=(Q*2^(32-k)+qi/2^k)*B+(2*r+ai/2^k%2)/\qi%2^k=0:=by
 have e:32-k=(32-(k+1))+1:=by omega
 have hp:0<2^k:=Nat.pow_pos (by omega)
 rw[Nat.pow_succ 2 k]at hq h
 obtain⟨t,rfl⟩:=Nat.dvd_of_mod_eq_zero hq
 rw[Nat.mul_div_cancel_left t (by omega),<-Nat.div_div_eq_div_mul]at h
 rw[e,Nat.pow_succ 2 (32-(k+1)),Nat.mul_assoc,Nat.mul_div_cancel_left _ hp]
 refine⟨?_,Nat.mul_mod_right _ _⟩
 generalize 2^(32-(k+1))=p at h
 generalize ai/2^k=A at h
 have e1:X*(p*2)=2*(X*p):=by rw[<-Nat.mul_assoc,Nat.mul_comm]
 have e2:(Q*(p*2)+2*t)*B=2*((Q*p+t)*B):=by rw[<-Nat.mul_assoc,Nat.mul_comm (Q*p),<-Nat.mul_add,Nat.mul_assoc]
 rw[e1,e2]
 omega
theorem c2a {H0 H1 H:PH} {vq vr:Value} {lq lr:List Nat} (hq:Od H0 H1 vq lq) (hle:PH.le H0 H1) (hl:PH.le H1 H) (hr:Od H1 H vr lr):∃Hr,PH.le H0 Hr/\PH.le Hr H/\Od Hr H vq lq/\Ds Hr vr lr:=by
 obtain⟨⟨q1,q2⟩,q3⟩:=hq
 rcases q2 with⟨rfl,q2⟩|⟨g,cap,cur,rfl,hg0,hg,q4⟩
 ·exact⟨H,hle.trans hl,PH.le.refl H,⟨⟨q1,.inl ⟨rfl,q2⟩⟩,q3⟩,hr.ds⟩
 ·refine⟨fun k=>if k=g then none else H k,fun k ob hk=> ?_,fun k ob hk=> ?_,⟨⟨q1,.inr ⟨g,cap,cur,rfl,if_pos rfl,hl _ _ hg,q4⟩⟩,q3⟩,?_⟩
  ·show(if k=g then none else H k)=some ob
   rw[if_neg (fun e=>by rw[e,hg0]at hk;cases hk)]
   exact hl _ _ (hle _ _ hk)
  ·replace hk:(if k=g then none else H k)=some ob:=hk
   split at hk
   ·cases hk
   ·exact hk
  ·obtain⟨⟨r1,r2⟩,r3⟩:=hr
   rcases r2 with⟨rfl,r2⟩|⟨g',cap',cur',rfl,hg0',hg',r4,r5,r6,r7⟩
   ·have:lr=[]:=List.eq_nil_of_length_eq_zero r2
    subst this
    exact Ds.nil _
   ·refine⟨⟨r1,_,cap',rfl,r4,r5,.inr ⟨g',0,cur',3,(0,0),rfl,?_,by rw[List.drop_zero];exact r7⟩⟩,r3⟩
    show(if g'=g then none else H g')=some _
    rw[if_neg (fun e=>by rw[e,hg]at hg0';cases hg0')]
    exact hg'
theorem d7g (a k:Nat) (hk:k<=64):(a:Int).fdiv (2^min k (IntKind.bits .i64))=((a/2^k:Nat):Int):=by
 rw[show min k (IntKind.bits .i64)=k from Nat.min_eq_left hk,show(2:Int)^k=((2^k:Nat):Int)from by simp,Int.fdiv_eq_ediv_of_nonneg _ (Int.natCast_nonneg _)]
 exact(Int.natCast_ediv a (2^k)).symm
theorem d1x {k:Nat} (hk:k<32):IntKind.i64.wrap (1*2^min k (IntKind.bits .i64))=((2^k:Nat):Int):=by
 have h:2^k<2^32:=Nat.pow_lt_pow_right (by omega) hk
 rw[show min k (IntKind.bits .i64)=k from Nat.min_eq_left (by show k<=64;omega),show(2:Int)^k=((2^k:Nat):Int)from by simp,Int.one_mul]
 exact wn (by omega)
theorem d7h (a:Nat):(a:Int).tmod 2=((a%2:Nat):Int):=d4t a 2
section
variable {H:PH} {a b:List Nat} {va vb:Value}
set_option maxRecDepth 100000 in
theorem b6D (ha:Ds H va a) (hb:Ds H vb b) (ta:Tm a) (tb:Tm b) (hb0:0<vl b) (hA:a.length<=10000) (hB:b.length<=10000):
  Con prog 189 [va,vb] H fun u H'=>PH.le H H'/\∃q r,u= .tuple #[q,r]/\Nu H' q (vl a/vl b)/\Nu H' r (vl a%vl b):=by
 obtain⟨n,hn⟩:∃n,b.length=n+1:=⟨b.length-1,by have:=tb.pos.2 hb0;omega⟩
 have hbn:=tb.ge hn
 have e1:IntKind.i64.wrap (((n+1:Nat):Int)-1)=(n:Int):=by rw[b4T (by omega) (by omega)];omega
 refine a0r a0n c1S (by kernel_rfl) rfl (a1f rfl rfl hb rfl (a0c ⟨_,rfl⟩ (a1f rfl rfl ha rfl (a0c ⟨_,rfl⟩ (a0e (b:=decide (a.length<=n)) ?_ (fun h=> ?_) (fun h=> ?_))))))
 ·simp only[rxs,iv,hn,e1]
  congr 1
  rw[decide_eq_decide];omega
 ·have h:=of_decide_eq_true h
  have hlt:vl a<vl b:=Tm.lt_of_len ha.2 tb (by omega)
  refine a8w rfl rfl fun e H1 hl1 h1=>a3S rfl rfl rfl hl1 h1 (ha.mono hl1) (by simp;omega) rfl rfl fun v' H2 hl2 h2 _=>a0b rfl ⟨hl2,_,v',rfl,?_,a,?_,ta,?_⟩
  ·rw[Nat.div_eq_of_lt hlt];exact Nu.zero _
  ·exact h2.ds
  ·rw[Nat.mod_eq_of_lt hlt]
 have h:n<a.length:=by have:=of_decide_eq_false h;omega
 obtain⟨m,hm⟩:∃m,a.length=m+n:=⟨a.length-n,by omega⟩
 have e2:IntKind.i64.wrap (((m+n:Nat):Int)-(n:Int))=(m:Int):=by rw[b4T (by omega) (by omega)];omega
 refine a1f rfl rfl ha rfl (a0c ⟨_,rfl⟩ (a9U (kl:= .i64) (kc:= .i64) (m:=m) rfl rfl rfl (by omega) (by simp only[rxs,iv,hn,hm,e1,e2]) fun vq H1 hl1 h1=> ?_))
 refine a8w rfl rfl fun e H2 hl2 h2=>a1f rfl rfl ((ha.mono hl1).mono hl2) rfl (a0c ⟨_,rfl⟩ ?_)
 obtain⟨w8,hw8,hd8⟩:=Ds.drop (i:=m) (k:= .i64) (vs:=[va,.int .i64 (m:Nat)]) ((ha.mono hl1).mono hl2) a9S rfl rfl (by omega)
 refine a0u (hw8.rds _) (by simp only[rxs,iv,hn,hm,e1,e2]) ?_
 refine a3S rfl rfl rfl hl2 h2 hd8 (by rw[List.length_drop];simp;omega) rfl rfl fun rest H3 hl3 h3 hput=> ?_
 rw[List.nil_append]at h3
 simp only[cA,nA]
 obtain⟨Hr0,r1,r2,r3,r4⟩:=c2a h1 hl1 hl3 h3
 have e3:IntKind.i64.wrap ((m:Int)-1)=(m:Int)-1:=b4T (by omega) (by omega)
 refine a1f rfl rfl r3.ds rfl (a0c ⟨_,rfl⟩ ⟨fun vals H'=>∃(i r:Nat) (rest:Value) (Hr:PH) (lq:List Nat),vals=[rest,.int .i64 ((i:Int)-1)]/\i<=m/\PH.le H Hr/\PH.le Hr H'/\Od Hr H' vq lq/\lq.length=m/\Nu Hr rest r/\r<vl b/\(∀k,k<i->lq.getD k 0=0)/\vl (a.drop i)=vl (lq.drop i)*vl b+r,fun vals _=>(intOf (vals.getD 1 undef)+1).toNat,⟨m,vl (a.drop m),rest,Hr0,_,?_,Nat.le_refl _,r1,r2,r3,by simp,⟨_,r4,ta.drop ha.2 m,rfl⟩,?_,fun k _=>a9R _ k,?_⟩,?_⟩)
 ·simp only[rxs,iv,List.length_replicate,e3]
 ·have:=b1I (ha.2.drop m)
  rw[List.length_drop,hm,Nat.add_sub_cancel_left]at this
  omega
 ·rw[List.drop_of_length_le (l:=List.replicate m 0) (by simp)];simp[vl]
 rintro vals H'-⟨i,r,rest2,Hr,lq,rfl,hi,hle,hler,hq,hlq,hrest,hr,hz,hv⟩
 simp only[cA,nA]
 refine a0c ⟨_,rfl⟩ (a0e (b:=decide ((i:Int)-1≥0)) rfl (fun hi2=> ?_) (fun hi2=> ?_))
 ·have hi2:=of_decide_eq_true hi2
  obtain⟨j,rfl⟩:∃j,i=j+1:=⟨i-1,by omega⟩
  have ej:((j+1:Nat):Int)-1=(j:Int):=by omega
  rw[ej]
  have dai:=ha.2.at j
  have e4:IntKind.i64.wrap ((j:Int)-1)=(j:Int)-1:=b4T (by omega) (by omega)
  refine⟨fun vals H'=>∃(k r:Nat) (rest:Value) (Hr:PH) (lq:List Nat),vals=[rest,.int .i64 ((k:Int)-1)]/\k<=32/\PH.le H Hr/\PH.le Hr H'/\Od Hr H' vq lq/\lq.length=m/\Nu Hr rest r/\r<vl b/\(∀k,k<j->lq.getD k 0=0)/\lq.getD j 0%2^k=0/\vl (a.drop (j+1))*2^(32-k)+a.getD j 0/2^k=(vl (lq.drop (j+1))*2^(32-k)+lq.getD j 0/2^k)*vl b+r,fun vals _=>(intOf (vals.getD 1 undef)+1).toNat,⟨32,r,rest2,Hr,lq,rfl,by omega,hle,hler,hq,hlq,hrest,hr,fun k hk=>hz k (by omega),?_,?_⟩,?_⟩
  ·rw[hz j (by omega)]
  ·rw[hz j (by omega),Nat.div_eq_of_lt (show a.getD j 0<2^32 from dai),Nat.zero_div,Nat.sub_self,Nat.pow_zero,Nat.mul_one,Nat.mul_one,Nat.add_zero,Nat.add_zero]
   exact hv
  clear hz hv hr hrest hq hler hle hlq
  rintro vals H2-⟨k,r,rest3,Hr,lq,rfl,hk,hle,hler,hq,hlq,hrest,hr,hz,hmod,hv⟩
  simp only[cA,nA]
  refine a0c ⟨_,rfl⟩ (a0e (b:=decide ((k:Int)-1≥0)) rfl (fun hk2=> ?_) (fun hk2=> ?_))
  ·have hk2:=of_decide_eq_true hk2
   obtain⟨k,rfl⟩:∃j,k=j+1:=⟨k-1,by omega⟩
   have ek:((k+1:Nat):Int)-1=(k:Int):=by omega
   rw[ek]
   have e5:IntKind.i64.wrap ((k:Int)-1)=(k:Int)-1:=b4T (by omega) (by omega)
   refine a2r (k:= .i64) (j:=j) rfl rfl rfl rfl (fun _=>rfl) (ha.mono (hle.trans hler)) (by omega) rfl (fun _=>rfl) fun p=>a0c ⟨_,rfl⟩ (a0c ⟨_,_,rfl⟩ (a0c ?_ ?_))
   ·show(0:Int)<=(k:Int);omega
   simp only[cA,nA]
   obtain⟨hs,hm0⟩:=c7a (k:=k) (by omega) hmod hv
   generalize hbit:a.getD j 0/2^k%2=bit at hs
   have hbit1:bit<=1:=by omega
   obtain⟨lr,hlr,htr,rfl⟩:=hrest
   have hlrl:lr.length<=b.length:=Tm.len_le htr hb.2 (by omega)
   refine a0f ((b6C hlr (by omega) hbit1).frame hler) ?_ ?_
   ·simp only[rxs,iv,d7g _ k (by omega),d7h,hbit]
   rintro u H3 ⟨Hr',⟨s1,s2⟩,s3,s4⟩
   have hq':=hq.frame s4
   refine⟨fun h=>(nomatch h),?_⟩
   obtain⟨l2,hl2,ht2,hv2⟩:=id s2
   have hb3:Ds Hr' vb b:=hb.mono (hle.trans s1)
   refine a0f (a8x (hl2.mono s3) (hb3.mono s3) ht2 tb) rfl ?_
   rintro c H4 ⟨rfl,c,rfl,hc1,hc2⟩
   refine⟨fun h=>(nomatch h),a0c ⟨_,rfl⟩ (a0e (b:=decide (c≥0)) rfl (fun hc=> ?_) (fun hc=> ?_))⟩
   ·have hc:=of_decide_eq_true hc
    have hge:vl b<=vl l2:=by omega
    have hl2l:l2.length<=b.length+1:=ht2 _ (by
     have:=b1I hb.2
     rw[a2W];omega)
    refine a0f ((a4T hl2 hb3 hge (Tm.len_le tb hl2.2 hge) (by omega)).frame s3) rfl ?_
    rintro u2 H5 ⟨Hr2,⟨t1,t2⟩,t3,t4⟩
    have hq2:=hq'.frame t4
    refine⟨fun h=>(nomatch h),?_⟩
    refine a2r (k:= .i64) (j:=j) rfl rfl rfl rfl (fun _=>rfl) hq2.ds (by omega) rfl (fun _=>rfl) fun p2=>a0c ⟨_,rfl⟩ ?_
    have dq:=hq2.2.at j
    have hpk:0<2^k:=Nat.pow_pos (by omega)
    have hfit:lq.getD j 0+2^k<4294967296:=by
     have h32:(2:Nat)^(k+1) ∣ 4294967296:=by
      rw[show(4294967296:Nat)=2^32 from rfl];exact Nat.pow_dvd_pow 2 (by omega)
     obtain⟨z1,hz1⟩:=h32
     obtain⟨z2,hz2⟩:=Nat.dvd_of_mod_eq_zero hmod
     rw[hz2,hz1]at dq
     have hlt:=Nat.lt_of_mul_lt_mul_left dq
     have:=Nat.mul_le_mul_left (2^(k+1)) (show z2+1<=z1 from hlt)
     rw[Nat.mul_add,Nat.mul_one,<-hz1,<-hz2,Nat.pow_succ]at this
     omega
    have e6:IntKind.i64.wrap (((lq.getD j 0:Nat):Int)+((2^k:Nat):Int))=((lq.getD j 0+2^k:Nat):Int):=d2F (by omega)
    refine a9T (k:= .i64) (j:=j) (d:=lq.getD j 0+2^k) rfl rfl rfl rfl (fun _=>rfl) (fun _=>rfl) t3 hq2 (by omega) hfit rfl (fun p=>by simp only[rxs,iv,d1x (show k<32 by omega),e6]) rfl fun p u3 H6 hl6 h6 _=>⟨⟨k,vl l2-vl b,u2,Hr2,_,?_,by omega,hle.trans (s1.trans t1),hl6,h6,by rw[List.length_set];exact hlq,t2,?_,?_,?_,?_⟩,?_⟩
    ·simp only[rxs,iv,e5]
    ·omega
    ·intro k' hk'
     rw[a7k (by omega)];exact hz k' hk'
    ·rw[a7j (by omega),Nat.add_mod_right];exact hm0
    ·rw[a7j (by omega),c6U (by omega),hs,Nat.add_div_right _ hpk]
     have ex:∀A q B:Nat,(A+(q+1))*B=(A+q)*B+B:=fun A q B=>by rw[<-Nat.add_assoc,Nat.succ_mul]
     rw[ex]
     omega
    ·simp only[rxs,iv,e5]
     omega
   ·have hc:=of_decide_eq_false hc
    refine⟨⟨k,vl l2,u,Hr',lq,?_,by omega,hle.trans s1,s3,hq',hlq,hv2 ▸ s2,by omega,hz,hm0,?_⟩,?_⟩
    ·simp only[rxs,iv,e5]
    ·rw[hs,hv2]
    ·simp only[rxs,iv,e5]
     omega
  ·have hk2:=of_decide_eq_false hk2
   have hk0:k=0:=by omega
   subst hk0
   refine⟨⟨j,r,rest3,Hr,lq,?_,by omega,hle,hler,hq,hlq,hrest,hr,hz,?_⟩,?_⟩
   ·simp only[rxs,iv,e4]
   ·rw[a8u (by omega),a8u (l:=lq) (by omega)]
    rw[Nat.pow_zero,Nat.div_one,Nat.div_one,Nat.sub_zero]at hv
    rw[Nat.mul_comm 4294967296,Nat.mul_comm 4294967296,Nat.add_comm,Nat.add_comm (lq.getD j 0)]
    exact hv
   ·simp only[rxs,iv,e4]
    omega
 ·have hi2:=of_decide_eq_false hi2
  have hi0:i=0:=by omega
  subst hi0
  rw[List.drop_zero,List.drop_zero]at hv
  refine a0f (a3T hq.ds) rfl ?_
  rintro u H5 ⟨rfl,hu⟩
  refine⟨fun h=>(nomatch h),a0b rfl ⟨hle.trans hler,u,rest2,rfl,?_,?_⟩⟩
  ·rw[hv,Nat.add_comm,Nat.add_mul_div_right _ _ hb0,Nat.div_eq_of_lt hr,Nat.zero_add]
   exact hu
  ·rw[hv,Nat.add_comm,Nat.add_mul_mod_self_right,Nat.mod_eq_of_lt hr]
   exact hrest.mono hler
end
end Go.Proofs.YtkcjbfoejpfbbaaGreatDoor

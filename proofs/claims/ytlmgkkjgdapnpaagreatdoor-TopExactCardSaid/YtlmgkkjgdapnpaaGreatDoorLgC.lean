/- wide/long.go: words. -/
import Derived.Test.YtlmgkkjgdapnpaaGreatDoorRfI
import Derived.Test.YtlmgkkjgdapnpaaGreatDoorRfC
import Derived.Test.YtlmgkkjgdapnpaaGreatDoorWdT
namespace Go.Proofs.YtlmgkkjgdapnpaaGreatDoor
open Go.Proofs.Tryz
open Go.RowKit Go.RX Go.WD
theorem Es.len {H:PH} {v:Value} {l:List Nat} (h:Es H v l):l.length<9223372036854775808:=by
 have:=h.1.len_le;simp only[maxLen]at this;omega
theorem Es.take {H:PH} {v:Value} {l:List Nat} {o:Oper} {x hi:Operand} {i:Nat} {k:IntKind} {vs:List Value} (h:Es H v l) (ho:o.op= .slice 111 x none (some hi) none) (hx:a0k [x,hi] vs x=v) (hl:a0k [x,hi] vs hi= .int k (i:Nat)) (h1:i<=l.length):∃u,Yld prog o vs u/\Es H u (l.take i):=by
 obtain⟨u,h2,h3⟩:=b8a (P:=prog) ho hx hl a2o a2n h.1 h1
 refine⟨u,h2,?_,h.2.take i⟩
 rw[List.length_take,Nat.min_eq_left h1,List.map_take]
 rwa[Nat.mul_one]at h3
theorem a1h (l:List Nat) (k:Nat):ul (l.take (k+1))=ul (l.take k)+PW k*l.getD k 0:=by
 rcases Nat.lt_or_ge k l.length with h|h
 ·exact a1G h
 ·rw[List.take_of_length_le (by omega),List.take_of_length_le h,a8U h,Nat.mul_zero,Nat.add_zero]
theorem Mu.one {H:PH} {v:Value} {n:Nat} (h:Mu H v n):v.cells= #[v]/\v.cells.size=1/\a0p v.cells:=by
 obtain⟨l,h1,_⟩:=h;exact⟨h1.cells,h1.one⟩
def Lw (H:PH) (v:Value) (z:Int):Prop:=∃w,v= .agg #[.bool (decide (z<0)),w]/\Mu H w z.natAbs
theorem Lw.mono {H H':PH} {v:Value} {z:Int} (h:Lw H v z) (hl:PH.le H H'):Lw H' v z:=by
 obtain⟨w,h1,h2⟩:=h;exact⟨w,h1,h2.mono hl⟩
theorem Lw.rq {H:PH} {v:Value} {z:Int} (h:Lw H v z):v.cells.size=2/\a0p v.cells:=by
 obtain⟨w,rfl,hw⟩:=h
 refine⟨rfl,fun c hc=> ?_⟩
 have h1:=hw.one.2.2
 rw[hw.one.1]at h1
 rw[show(Value.agg #[.bool (decide (z<0)),w]).cells= #[.bool (decide (z<0)),w]from rfl]at hc
 simp only[List.mem_cons,List.not_mem_nil,or_false]at hc
 rcases hc with h2|h2
 ·rw[h2];rfl
 ·rw[h2];exact h1 w (by simp)
section
variable {H:PH} {v:Value} {l:List Nat}
theorem a7C {n:Nat} (hn:n<=l.length) (hz:∀k,n<=k->l.getD k 0=0):ul (l.take n)=ul l:=by
 obtain⟨d,hd⟩:=Nat.exists_eq_add_of_le hn
 induction d generalizing n with
 |zero=>rw[List.take_of_length_le (by omega)]
 |succ d ih=>
  have:=ih (n:=n+1) (by omega) (fun k hk=>hz k (by omega)) (by omega)
  rw[a1G (by omega),hz n (Nat.le_refl n),Nat.mul_zero,Nat.add_zero]at this
  exact this
set_option maxRecDepth 100000 in
theorem a1p (b:Bool) (h:Es H v l):Con prog 149 [.bool b,v] H fun u H'=>H'=H/\Lw H u (sn b (ul l)):=by
 have hlen:=h.len
 refine a0b mixed c4x (by kernel_rfl) rfl (a0E rfl rfl h rfl ⟨fun vals H'=>∃n:Nat,vals=[iv n]/\H'=H/\n<=l.length/\∀k,n<=k->l.getD k 0=0,fun vals _=>(intOf (vals.getD 0 undef)).toNat,⟨l.length,rfl,rfl,Nat.le_refl _,fun k hk=>a8U hk⟩,?_⟩)
 rintro vals H'-⟨n,rfl,rfl,hn,hz⟩
 simp only[cA,nA]
 refine⟨fun vs H1=>H1=H'/\vs=[.bool (decide (0<n/\l.getD (n-1) 0=0))],a0a ⟨_,rfl⟩ (a0f (b:=decide ((n:Int)>0)) rfl (fun hb=> ?_) (fun hb=> ?_)),?_⟩
 ·have hb:=of_decide_eq_true hb
  have e1:IntKind.i64.wrap ((n:Int)-1)=((n-1:Nat):Int):=d4e (by omega) (by omega)
  refine a1m (k:= .i64) (j:=n-1) rfl rfl rfl rfl (fun _=>rfl) h (by omega) (by simp only[rxs,iv,e1]) (fun _=>rfl) fun p=>a0a ⟨_,rfl⟩ ⟨rfl,?_⟩
  simp only[rxs,uv]
  congr 2
  rw[Bool.eq_iff_iff]
  simp only[beq_iff_eq,decide_eq_true_eq]
  omega
 ·have hb:=of_decide_eq_false hb
  refine⟨rfl,?_⟩
  simp only[rxs]
  congr 2
  rw[eq_comm,decide_eq_false_iff_not]
  omega
 rintro vs H1-⟨rfl,rfl⟩
 simp only[cA,nA]
 refine a0a ⟨_,rfl⟩ (a0f rfl (fun hb=> ?_) (fun hb=> ?_))
 ·have hb:=of_decide_eq_true hb
  have e1:IntKind.i64.wrap ((n:Int)-1)=((n-1:Nat):Int):=d4e (by omega) (by omega)
  refine a0a ⟨_,rfl⟩ ⟨⟨n-1,?_,rfl,by omega,fun k hk=> ?_⟩,?_⟩
  ·simp only[rxs,iv,e1]
  ·rcases Nat.eq_or_lt_of_le hk with e|e
   ·rw[<-e];exact hb.2
   ·exact hz k (by omega)
  ·simp only[rxs,iv,e1]
   omega
 ·have hb:=of_decide_eq_false hb
  have htm:Um (l.take n):=by
   rcases Nat.eq_zero_or_pos n with e|e
   ·subst e;exact Um.nil
   ·refine Um.of (n:=n-1) (by rw[List.length_take];omega) ?_
    rw[List.getD_eq_getElem?_getD,List.getElem?_take,if_pos (by omega),<-List.getD_eq_getElem?_getD]
    exact fun h0=>hb ⟨e,h0⟩
  have hpos:=htm.pos
  rw[a7C hn hz,List.length_take,Nat.min_eq_left hn]at hpos
  obtain⟨u,hu,hd⟩:=Es.take (vs:=[v,iv n]) (k:= .i64) (i:=n) h b1t rfl rfl hn
  have hMu:Mu H1 u (ul l):=⟨l.take n,hd,htm,a7C hn hz⟩
  refine a0a ⟨_,rfl⟩ (a0f rfl (fun hb=> ?_) (fun hb=> ?_))
  ·subst hb
   refine a0a ⟨_,rfl⟩ (a0l (hu.rds _) rfl (a0a hd.one (a0c rfl ⟨rfl,u,?_,?_⟩)))
   ·simp only[rxs,a4w,hd.cells,iv,a5L]
    show Value.agg #[.bool (decide ((n:Int)>0)),u]=_
    congr 4
    rw[decide_eq_decide]
    show _↔ -(ul l:Int)<0
    omega
   ·show Mu _ u (-(ul l:Int)).natAbs
    rw[Int.natAbs_neg,Int.natAbs_natCast];exact hMu
  ·subst hb
   refine a0l (hu.rds _) rfl (a0a hd.one (a0c rfl ⟨rfl,u,?_,?_⟩))
   ·simp only[rxs,a4w,hd.cells,a5L]
    show Value.agg #[.bool false,u]=_
    congr 4
   ·exact hMu
theorem c9K {a b:List Nat} (ha:Eg a) (hb:Eg b) (ta:Um a) (tb:Um b) (h:a.length≠b.length):((a.length:Int)-b.length<0↔ul a<ul b)/\((a.length:Int)-b.length=0↔ul a=ul b):=by
 rcases Nat.lt_or_gt_of_ne h with h1|h1
 ·have:=Um.lt_of_len ha tb h1;omega
 ·have:=Um.lt_of_len hb ta h1;omega
set_option maxRecDepth 100000 in
theorem b4v {a b:List Nat} {va vb:Value} (ha:Es H va a) (hb:Es H vb b) (ta:Um a) (tb:Um b):Con prog 153 [va,vb] H fun u H'=>H'=H/\∃c:Int,u= .int .i64 c/\(c<0↔ul a<ul b)/\(c=0↔ul a=ul b):=by
 have hla:=ha.len
 have hlb:=hb.len
 refine a0b mixed c9D (by kernel_rfl) rfl (a0E rfl rfl ha rfl (a0E rfl rfl hb rfl (a0a ⟨_,rfl⟩ (a0a ⟨_,rfl⟩ (a0f (b:=((a.length:Int) !=(b.length:Int))) rfl (fun h=> ?_) (fun h=> ?_))))))
 ·have h:a.length≠b.length:=by have:=bne_iff_ne.1 h;omega
  have e1:IntKind.i64.wrap ((a.length:Int)-(b.length:Int))=(a.length:Int)-(b.length:Int):=c4w (by omega) (by omega)
  refine a0E rfl rfl ha rfl (a0E rfl rfl hb rfl (a0a ⟨_,rfl⟩ (a0a ⟨_,rfl⟩ (a0c rfl ⟨rfl,_,?_,c9K ha.2 hb.2 ta tb h⟩))))
  simp only[rxs,iv,a4w,e1]
 have h:a.length=b.length:=by have:=bne_eq_false_iff_eq.1 h;omega
 have e1:IntKind.i64.wrap ((a.length:Int)-1)=(a.length:Int)-1:=c4w (by omega) (by omega)
 refine a0E rfl rfl ha rfl (a0a ⟨_,rfl⟩ ⟨fun vals H'=>∃i:Nat,vals=[.int .i64 0,.int .i64 ((i:Int)-1)]/\H'=H/\i<=a.length/\a.drop i=b.drop i,fun vals _=>(intOf (vals.getD 1 undef)+1).toNat,⟨a.length,?_,rfl,Nat.le_refl _,?_⟩,?_⟩)
 ·simp only[rxs,iv,e1]
 ·rw[List.drop_of_length_le (Nat.le_refl _),List.drop_of_length_le (by omega)]
 rintro vals H'-⟨i,rfl,rfl,hi,hd⟩
 simp only[cA,nA]
 refine a0a ⟨_,rfl⟩ (a0f (b:=decide ((i:Int)-1≥0)) rfl (fun hi2=> ?_) (fun hi2=> ?_))
 ·have hi2:=of_decide_eq_true hi2
  obtain⟨j,rfl⟩:∃j,i=j+1:=⟨i-1,by omega⟩
  have ej:((j+1:Nat):Int)-1=(j:Int):=by omega
  rw[ej]
  have e2:IntKind.i64.wrap ((j:Int)-1)=(j:Int)-1:=c4w (by omega) (by omega)
  refine a1m (k:= .i64) (j:=j) rfl rfl rfl rfl (fun _=>rfl) ha (by omega) rfl (fun _=>rfl) fun p1=>a1m (k:= .i64) (j:=j) rfl rfl rfl rfl (fun _=>rfl) hb (by omega) rfl (fun _=>rfl) fun p2=> ?_
  simp only[cA,nA]
  refine a0a ⟨_,rfl⟩ (a0a ⟨_,rfl⟩ (a0f (b:=decide (((a.getD j 0:Nat):Int)<((b.getD j 0:Nat):Int))) rfl (fun h1=> ?_) (fun h1=> ?_)))
  ·have h1:=of_decide_eq_true h1
   have:=b4q ha.2 hb.2 (show j<a.length by omega) (by omega) hd (by omega)
   exact a0c rfl ⟨rfl,-1,rfl,by omega,by omega⟩
  ·have h1:=of_decide_eq_false h1
   refine a1m (k:= .i64) (j:=j) rfl rfl rfl rfl (fun _=>rfl) ha (by omega) rfl (fun _=>rfl) fun p3=>a1m (k:= .i64) (j:=j) rfl rfl rfl rfl (fun _=>rfl) hb (by omega) rfl (fun _=>rfl) fun p4=> ?_
   simp only[cA,nA]
   refine a0a ⟨_,rfl⟩ (a0a ⟨_,rfl⟩ (a0f (b:=decide (((a.getD j 0:Nat):Int)>((b.getD j 0:Nat):Int))) rfl (fun h2=> ?_) (fun h2=> ?_)))
   ·have h2:=of_decide_eq_true h2
    have:=b4q hb.2 ha.2 (show j<b.length by omega) (by omega) hd.symm (by omega)
    exact a0c rfl ⟨rfl,1,rfl,by omega,by omega⟩
   ·have h2:=of_decide_eq_false h2
    refine⟨⟨j,?_,rfl,by omega,?_⟩,?_⟩
    ·simp only[rxs,e2]
    ·rw[a9T (show j<a.length by omega),a9T (show j<b.length by omega),hd,show a.getD j 0=b.getD j 0 from by omega]
    ·simp only[rxs,e2]
     omega
 ·have hi2:=of_decide_eq_false hi2
  have hi0:i=0:=by omega
  subst hi0
  rw[List.drop_zero,List.drop_zero]at hd
  exact a0c rfl ⟨rfl,0,rfl,by rw[hd];omega,by rw[hd];omega⟩
end
section
variable {H:PH} {a b:List Nat} {va vb:Value}
set_option maxRecDepth 100000 in
theorem c4F (ha:Es H va a) (hb:Es H vb b) (hA:a.length<=100000) (hB:b.length<=100000):Con prog 152 [va,vb] H fun u H'=>PH.le H H'/\∃l,Es H' u l/\ul l=ul a+ul b:=by
 refine a0b mixed c9E (by kernel_rfl) rfl (a0E rfl rfl ha rfl (a0E rfl rfl hb rfl (a0a ⟨_,rfl⟩ (a0a ⟨_,rfl⟩ ⟨fun vals H'=>H'=H/\∃(x y:List Nat) (vx vy:Value),vals=[vx,vy]/\Es H vx x/\Es H vy y/\x.length<=100000/\y.length<=x.length/\ul x+ul y=ul a+ul b,a0f (b:=decide ((a.length:Int)<(b.length:Int))) rfl (fun h=> ?_) (fun h=> ?_),?_⟩))))
 ·have h:=of_decide_eq_true h
  exact⟨rfl,b,a,vb,va,rfl,hb,ha,hB,by omega,Nat.add_comm _ _⟩
 ·have h:=of_decide_eq_false h
  exact⟨rfl,a,b,va,vb,rfl,ha,hb,hA,by omega,rfl⟩
 rintro vals H0-⟨rfl,x,y,vx,vy,rfl,hx,hy,hX,hyx,hsum⟩
 simp only[cA,nA]
 have e0:IntKind.i64.wrap ((x.length:Int)+1)=((x.length+1:Nat):Int):=a9Y (by omega)
 refine a0E rfl rfl hx rfl (a0a ⟨_,rfl⟩ (a3W (kl:= .i64) (kc:= .i64) (m:=x.length+1) rfl rfl rfl (by omega) (by simp only[rxs,iv,e0]) fun out H1 hl1 h1=> ?_))
 simp only[cA,nA]
 refine a0E rfl rfl (hx.mono hl1) rfl ⟨fun vals H'=>∃(c i:Nat) (l:List Nat),vals=[.int .u64 (c:Nat),iv i]/\c<=1/\i<=x.length/\PH.le H0 H'/\Eo H0 H' out l/\l.length=x.length+1/\(∀k,i<=k->l.getD k 0=0)/\ul l+PW i*c=ul (x.take i)+ul (y.take i),fun vals _=>(x.length-intOf (vals.getD 1 undef)).toNat,⟨0,0,_,rfl,by omega,by omega,hl1,h1,by simp,fun k _=>a5k _ k,?_⟩,?_⟩
 ·rw[a3v];simp[ul]
 rintro vals H'-⟨c,i,l,rfl,hc,hi,hle,hO,hll,hz,hv⟩
 simp only[cA,nA]
 have hx':=hx.mono hle
 have hy':=hy.mono hle
 refine a0a ⟨_,rfl⟩ (a0a ⟨_,rfl⟩ (a0f (b:=decide ((i:Int)<x.length)) rfl (fun h=> ?_) (fun h=> ?_)))
 ·have h:i<x.length:=by have:=of_decide_eq_true h;omega
  have dx:=hx.2.at i
  have dy:=hy.2.at i
  have e1:IntKind.i64.wrap ((i:Int)+1)=((i+1:Nat):Int):=a9Y (by omega)
  refine a1m (k:= .i64) (j:=i) rfl rfl rfl rfl (fun _=>rfl) hx' h rfl (fun _=>rfl) fun p=> ?_
  simp only[cA,nA]
  refine a0E rfl rfl hy' rfl (a0a ⟨_,rfl⟩ ⟨fun vals H2=>H2=H'/\vals=[uv (y.getD i 0)],a0f (b:=decide ((i:Int)<y.length)) rfl (fun h1=> ?_) (fun h1=> ?_),?_⟩)
  ·have h1:=of_decide_eq_true h1
   exact a1m (k:= .i64) (j:=i) rfl rfl rfl rfl (fun _=>rfl) hy' (by omega) rfl (fun _=>rfl) fun p=>⟨rfl,rfl⟩
  ·have h1:=of_decide_eq_false h1
   refine⟨rfl,?_⟩
   rw[a8U (l:=y) (by omega)];rfl
  rintro vals H2-⟨rfl,rfl⟩
  simp only[cA,nA]
  refine a9M (a5j (x.getD i 0) (y.getD i 0) c dx dy hc) rfl (a0a ⟨_,rfl,Nat.zero_lt_succ _⟩ (a0a ⟨_,rfl,Nat.lt_succ_self _⟩ ?_))
  simp only[cA,nA]
  obtain⟨s,hs⟩:∃s,s=(x.getD i 0+y.getD i 0+c)%18446744073709551616:=⟨_,rfl⟩
  obtain⟨c',hc'⟩:∃c',c'=(x.getD i 0+y.getD i 0+c)/18446744073709551616:=⟨_,rfl⟩
  have key:s+18446744073709551616*c'=x.getD i 0+y.getD i 0+c:=by omega
  rw[<-hs,<-hc']
  refine a2p (k:= .i64) (j:=i) (d:=s) rfl rfl rfl rfl (fun _=>rfl) (fun _=>rfl) hle hO (by omega) (by omega) rfl (fun _=>rfl) rfl fun p u H3 hl3 h3 _=>⟨⟨c',i+1,_,?_,by omega,by omega,hl3,h3,by rw[List.length_set];exact hll,?_,?_⟩,?_⟩
  ·simp only[rxs,iv,e1]
  ·intro k hk
   rw[a1L (by omega)];exact hz k (by omega)
  ·have k1:=a4z (l:=l) s (show i<l.length by omega)
   rw[hz i (Nat.le_refl _),Nat.mul_zero,Nat.add_zero]at k1
   have k2:=congrArg (PW i* ·) key
   simp only[Nat.mul_add]at k2
   rw[a1h,a1h,k1,a0C,Nat.mul_assoc]
   omega
  ·simp only[rxs,iv,e1]
   omega
 ·have h:i=x.length:=by have:=of_decide_eq_false h;omega
  subst h
  refine a0E rfl rfl hx' rfl ?_
  simp only[cA,nA]
  refine a2p (k:= .i64) (j:=x.length) (d:=c) rfl rfl rfl rfl (fun _=>rfl) (fun _=>rfl) hle hO (by omega) (by omega) rfl (fun _=>rfl) rfl fun p u H3 hl3 h3 _=>a0c rfl ⟨hl3,_,h3.es,?_⟩
  have k1:=a4z (l:=l) c (show x.length<l.length by omega)
  rw[hz _ (Nat.le_refl _),Nat.mul_zero,Nat.add_zero]at k1
  rw[k1,hv,List.take_of_length_le (Nat.le_refl _),List.take_of_length_le hyx,hsum]
set_option maxRecDepth 100000 in
theorem a7D (ha:Es H va a) (hb:Es H vb b) (hab:ul b<=ul a) (hl:b.length<=a.length) (hA:a.length<=100000):Con prog 154 [va,vb] H fun u H'=>PH.le H H'/\∃l,Es H' u l/\ul l=ul a-ul b:=by
 refine a0b mixed c4A (by kernel_rfl) rfl (a0E rfl rfl ha rfl (a3W (kl:= .i64) (kc:= .i64) (m:=a.length) rfl rfl rfl (by omega) rfl fun out H1 hl1 h1=> ?_))
 simp only[cA,nA]
 refine a0E rfl rfl (ha.mono hl1) rfl ⟨fun vals H'=>∃(c i:Nat) (l:List Nat),vals=[.int .u64 (c:Nat),iv i]/\c<=1/\i<=a.length/\PH.le H H'/\Eo H H' out l/\l.length=a.length/\(∀k,i<=k->l.getD k 0=0)/\ul l+ul (b.take i)=ul (a.take i)+PW i*c,fun vals _=>(a.length-intOf (vals.getD 1 undef)).toNat,⟨0,0,_,rfl,by omega,by omega,hl1,h1,by simp,fun k _=>a5k _ k,?_⟩,?_⟩
 ·rw[a3v];simp[ul]
 rintro vals H'-⟨c,i,l,rfl,hc,hi,hle,hO,hll,hz,hv⟩
 simp only[cA,nA]
 have ha':=ha.mono hle
 have hb':=hb.mono hle
 refine a0a ⟨_,rfl⟩ (a0a ⟨_,rfl⟩ (a0f (b:=decide ((i:Int)<a.length)) rfl (fun h=> ?_) (fun h=> ?_)))
 ·have h:i<a.length:=by have:=of_decide_eq_true h;omega
  have dx:=ha.2.at i
  have dy:=hb.2.at i
  have e1:IntKind.i64.wrap ((i:Int)+1)=((i+1:Nat):Int):=a9Y (by omega)
  refine a1m (k:= .i64) (j:=i) rfl rfl rfl rfl (fun _=>rfl) ha' h rfl (fun _=>rfl) fun p=> ?_
  simp only[cA,nA]
  refine a0E rfl rfl hb' rfl (a0a ⟨_,rfl⟩ ⟨fun vals H2=>H2=H'/\vals=[uv (b.getD i 0)],a0f (b:=decide ((i:Int)<b.length)) rfl (fun h1=> ?_) (fun h1=> ?_),?_⟩)
  ·have h1:=of_decide_eq_true h1
   exact a1m (k:= .i64) (j:=i) rfl rfl rfl rfl (fun _=>rfl) hb' (by omega) rfl (fun _=>rfl) fun p=>⟨rfl,rfl⟩
  ·have h1:=of_decide_eq_false h1
   refine⟨rfl,?_⟩
   rw[a8U (l:=b) (by omega)];rfl
  rintro vals H2-⟨rfl,rfl⟩
  simp only[cA,nA]
  refine a9M (b1o (a.getD i 0) (b.getD i 0) c hc) rfl (a0a ⟨_,rfl,Nat.zero_lt_succ _⟩ (a0a ⟨_,rfl,Nat.lt_succ_self _⟩ ?_))
  simp only[cA,nA]
  obtain⟨s,hs⟩:∃s,s=(a.getD i 0+18446744073709551616-b.getD i 0-c)%18446744073709551616:=⟨_,rfl⟩
  obtain⟨c',hc'⟩:∃c',c'=(if a.getD i 0<b.getD i 0+c then 1 else 0):=⟨_,rfl⟩
  have hc1:c'<=1:=by rw[hc'];split<;>omega
  have key:s+b.getD i 0+c=a.getD i 0+18446744073709551616*c':=by rw[hs,hc'];split<;>omega
  rw[<-hs,<-hc']
  refine a2p (k:= .i64) (j:=i) (d:=s) rfl rfl rfl rfl (fun _=>rfl) (fun _=>rfl) hle hO (by omega) (by omega) rfl (fun _=>rfl) rfl fun p u H3 hl3 h3 _=>⟨⟨c',i+1,_,?_,by omega,by omega,hl3,h3,by rw[List.length_set];exact hll,?_,?_⟩,?_⟩
  ·simp only[rxs,iv,e1]
  ·intro k hk
   rw[a1L (by omega)];exact hz k (by omega)
  ·have k1:=a4z (l:=l) s (show i<l.length by omega)
   rw[hz i (Nat.le_refl _),Nat.mul_zero,Nat.add_zero]at k1
   have k2:=congrArg (PW i* ·) key
   simp only[Nat.mul_add]at k2
   rw[a1h,a1h,k1,a0C,Nat.mul_assoc]
   omega
  ·simp only[rxs,iv,e1]
   omega
 ·have h:i=a.length:=by have:=of_decide_eq_false h;omega
  subst h
  rw[List.take_of_length_le (Nat.le_refl _),List.take_of_length_le hl]at hv
  have hlt:=a6B hO.2
  rw[hll]at hlt
  have hb0:c=0:=by
   rcases Nat.eq_zero_or_pos c with e|e
   ·exact e
   ·have:c=1:=by omega
    rw[this]at hv;omega
  rw[hb0]at hv
  exact a0c rfl ⟨hle,l,hO.es,by omega⟩
theorem c9L {x y:Nat} (hx:x<18446744073709551616) (hy:y<18446744073709551616):x*y<=18446744073709551615*18446744073709551615:=Nat.mul_le_mul (by omega) (by omega)
set_option maxRecDepth 100000 in
set_option maxHeartbeats 1000000 in
theorem c4G (ha:Es H va a) (hb:Es H vb b) (hA:a.length<=100000) (hB:b.length<=100000):Con prog 150 [va,vb] H fun u H'=>PH.le H H'/\∃l,Es H' u l/\ul l=ul a*ul b:=by
 have e0:IntKind.i64.wrap ((a.length:Int)+(b.length:Int))=((a.length+b.length:Nat):Int):=d4d (by omega)
 refine a0b mixed c9F (by kernel_rfl) rfl (a0E rfl rfl ha rfl (a0E rfl rfl hb rfl (a0a ⟨_,rfl⟩ (a0a ⟨_,rfl⟩ (a3W (kl:= .i64) (kc:= .i64) (m:=a.length+b.length) rfl rfl rfl (by omega) (by simp only[rxs,iv,e0]) fun out H1 hl1 h1=> ?_)))))
 simp only[cA,nA]
 refine a0E rfl rfl (ha.mono hl1) rfl ⟨fun vals H'=>∃(i:Nat) (l:List Nat),vals=[iv i]/\i<=a.length/\PH.le H H'/\Eo H H' out l/\l.length=a.length+b.length/\(∀k,i+b.length<=k->l.getD k 0=0)/\ul l=ul (a.take i)*ul b,fun vals _=>(a.length-intOf (vals.getD 0 undef)).toNat,⟨0,_,rfl,by omega,hl1,h1,by simp,fun k _=>a5k _ k,?_⟩,?_⟩
 ·rw[a3v];simp[ul]
 rintro vals H'-⟨i,l,rfl,hi,hle,hO,hll,hz,hv⟩
 simp only[cA,nA]
 have ha':=ha.mono hle
 refine a0a ⟨_,rfl⟩ (a0a ⟨_,rfl⟩ (a0f (b:=decide ((i:Int)<a.length)) rfl (fun h=> ?_) (fun h=> ?_)))
 ·have h:i<a.length:=by have:=of_decide_eq_true h;omega
  have da:=ha.2.at i
  refine a1m (k:= .i64) (j:=i) rfl rfl rfl rfl (fun _=>rfl) ha' h rfl (fun _=>rfl) fun p0=> ?_
  simp only[cA,nA]
  refine a0E rfl rfl (hb.mono hle) rfl ⟨fun vals H'=>∃(c j:Nat) (l:List Nat),vals=[.int .u64 (c:Nat),iv j]/\j<=b.length/\c<18446744073709551616/\PH.le H H'/\Eo H H' out l/\l.length=a.length+b.length/\(∀k,i+b.length<=k->l.getD k 0=0)/\ul l+PW (i+j)*c=ul (a.take i)*ul b+PW i*(a.getD i 0*ul (b.take j)),fun vals _=>(b.length-intOf (vals.getD 1 undef)).toNat,⟨0,0,l,rfl,by omega,by omega,hle,hO,hll,hz,?_⟩,?_⟩
  ·simp[ul,hv]
  rintro vals H2-⟨c,j,l2,rfl,hj,hc,hle2,hO2,hll2,hz2,hv2⟩
  simp only[cA,nA]
  have hb2:=hb.mono hle2
  refine a0a ⟨_,rfl⟩ (a0a ⟨_,rfl⟩ (a0f (b:=decide ((j:Int)<b.length)) rfl (fun hj2=> ?_) (fun hj2=> ?_)))
  ·have hj2:j<b.length:=by have:=of_decide_eq_true hj2;omega
   have db:=hb.2.at j
   have dl:=hO2.2.at (i+j)
   have e1:IntKind.i64.wrap ((i:Int)+(j:Int))=((i+j:Nat):Int):=d4d (by omega)
   have e10:IntKind.i64.wrap ((j:Int)+1)=((j+1:Nat):Int):=a9Y (by omega)
   have hm:=c9L da db
   refine a1m (k:= .i64) (j:=j) rfl rfl rfl rfl (fun _=>rfl) hb2 hj2 rfl (fun _=>rfl) fun p1=> ?_
   simp only[cA,nA]
   refine a1o (b8r (a.getD i 0) (b.getD j 0) da db) rfl (a0a ⟨_,rfl,Nat.zero_lt_succ _⟩ (a0a ⟨_,rfl,Nat.lt_succ_self _⟩ ?_))
   simp only[cA,nA]
   generalize hP:a.getD i 0*b.getD j 0=P at hm
   obtain⟨hi',hhi⟩:∃x,x=P/18446744073709551616:=⟨_,rfl⟩
   obtain⟨lo,hlo⟩:∃x,x=P%18446744073709551616:=⟨_,rfl⟩
   rw[<-hhi,<-hlo]
   refine a1m (k:= .i64) (j:=i+j) rfl rfl rfl rfl (fun _=>rfl) hO2.es (by omega) (by simp only[rxs,iv,e1]) (fun _=>rfl) fun p2=> ?_
   simp only[cA,nA]
   generalize hd:l2.getD (i+j) 0=d at dl
   refine a9M (a5j d lo 0 dl (by omega) (by omega)) rfl (a0a ⟨_,rfl,Nat.zero_lt_succ _⟩ (a0a ⟨_,rfl,Nat.lt_succ_self _⟩ ?_))
   simp only[cA,nA]
   obtain⟨s1,hs1⟩:∃x,x=(d+lo+0)%18446744073709551616:=⟨_,rfl⟩
   obtain⟨c1,hc1⟩:∃x,x=(d+lo+0)/18446744073709551616:=⟨_,rfl⟩
   rw[<-hs1,<-hc1]
   refine a9M (a5j s1 c 0 (by omega) hc (by omega)) rfl (a0a ⟨_,rfl,Nat.zero_lt_succ _⟩ (a0a ⟨_,rfl,Nat.lt_succ_self _⟩ ?_))
   simp only[cA,nA]
   obtain⟨s2,hs2⟩:∃x,x=(s1+c+0)%18446744073709551616:=⟨_,rfl⟩
   obtain⟨c2,hc2⟩:∃x,x=(s1+c+0)/18446744073709551616:=⟨_,rfl⟩
   rw[<-hs2,<-hc2]
   have key:s2+18446744073709551616*(hi'+c1+c2)=c+d+P:=by omega
   have hcc:hi'+c1+c2<18446744073709551616:=by omega
   have e2:IntKind.u64.wrap ((hi':Int)+(c1:Int))=((hi'+c1:Nat):Int):=by rw[<-Int.natCast_add];exact wu (by omega)
   have e3:IntKind.u64.wrap (((hi'+c1:Nat):Int)+(c2:Int))=((hi'+c1+c2:Nat):Int):=by rw[<-Int.natCast_add];exact wu (by omega)
   refine a0a ⟨_,rfl⟩ (a0a ⟨_,rfl⟩ (a0a ⟨_,rfl⟩ (a2p (k:= .i64) (j:=i+j) (d:=s2) rfl rfl rfl rfl (fun _=>rfl) (fun _=>rfl) hle2 hO2 (by omega) (by omega) (by simp only[rxs,iv,e1]) (fun p=>rfl) rfl fun p u H3 hl3 h3 _=>⟨⟨hi'+c1+c2,j+1,_,?_,by omega,hcc,hl3,h3,by rw[List.length_set];exact hll2,?_,?_⟩,?_⟩)))
   ·simp only[rxs,iv,e2,e3,e10]
   ·intro k hk
    rw[a1L (by omega)];exact hz2 k hk
   ·have k1:=a4z (l:=l2) s2 (show i+j<l2.length by omega)
    rw[hd]at k1
    have k2:=congrArg (PW (i+j)* ·) key
    simp only[Nat.mul_add]at k2
    have k3:PW i*(a.getD i 0*(PW j*b.getD j 0))=PW (i+j)*P:=by
     rw[a8Q,Nat.mul_left_comm (a.getD i 0),hP,Nat.mul_assoc]
    rw[a1h,Nat.mul_add (a.getD i 0),Nat.mul_add (PW i),k3,<-Nat.add_assoc i j 1,a0C,Nat.mul_assoc]
    simp only[Nat.mul_add]
    omega
   ·simp only[rxs,iv,e10]
    omega
  ·have hj2:j=b.length:=by have:=of_decide_eq_false hj2;omega
   subst hj2
   have e1:IntKind.i64.wrap ((i:Int)+(b.length:Int))=((i+b.length:Nat):Int):=d4d (by omega)
   have e10:IntKind.i64.wrap ((i:Int)+1)=((i+1:Nat):Int):=a9Y (by omega)
   refine a0E rfl rfl hb2 rfl (a0a ⟨_,rfl⟩ (a2p (k:= .i64) (j:=i+b.length) (d:=c) rfl rfl rfl rfl (fun _=>rfl) (fun _=>rfl) hle2 hO2 (by omega) hc (by simp only[rxs,iv,e1]) (fun p=>rfl) rfl fun p u H3 hl3 h3 _=>⟨⟨i+1,_,?_,by omega,hl3,h3,by rw[List.length_set];exact hll2,?_,?_⟩,?_⟩))
   ·simp only[rxs,iv,e10]
   ·intro k hk
    rw[a1L (by omega)];exact hz2 k (by omega)
   ·have k1:=a4z (l:=l2) c (show i+b.length<l2.length by omega)
    rw[hz2 _ (Nat.le_refl _),Nat.mul_zero,Nat.add_zero]at k1
    rw[k1,hv2,List.take_of_length_le (Nat.le_refl _),a1h,Nat.add_mul,Nat.mul_assoc]
   ·simp only[rxs,iv,e10]
    omega
 ·have h:i=a.length:=by have:=of_decide_eq_false h;omega
  rw[List.take_of_length_le (by omega)]at hv
  exact a0c rfl ⟨hle,l,hO.es,hv⟩
end
end Go.Proofs.YtlmgkkjgdapnpaaGreatDoor
namespace Go.WD
open Go.RX
theorem b1v {l:List Nat} (h:Eg l) (j:Nat):dig (ul l) j=l.getD j 0:=by
 rcases Nat.lt_or_ge j l.length with hj|hj
 ·have e1:=a9X l (show j<=l.length by omega)
  have e2:=a5R hj
  have h1:=a6B (h.take j)
  rw[List.length_take,Nat.min_eq_left (by omega)]at h1
  have h2:=h.at j
  unfold dig
  rw[e1,Nat.add_mul_div_left _ _ (a1k j),Nat.div_eq_of_lt h1,Nat.zero_add,e2,Nat.add_mul_mod_self_left,Nat.mod_eq_of_lt h2]
 ·rw[a8U hj]
  refine a7w (Nat.lt_of_lt_of_le (a6B h) (b3l hj))
theorem Um.top {l:List Nat} (h:Um l) (hD:Eg l) {n:Nat} (hn:l.length=n+1):l.getD n 0≠0:=fun h0=>by
 have h1:=a1G (l:=l) (k:=n) (by omega)
 rw[List.take_of_length_le (by omega),h0,Nat.mul_zero,Nat.add_zero]at h1
 have h4:=a6B (hD.take n)
 rw[List.length_take,Nat.min_eq_left (by omega)]at h4
 have h3:l.length<=n:=h n (by omega)
 omega
theorem c9M {l:List Nat} (h:Um l) (hD:Eg l) {n:Nat} (hn:l.length=n+1):blen (ul l)=64*n+blen (l.getD n 0):=by
 have ht:=h.top hD hn
 have hlt:=a6B hD
 rw[hn]at hlt
 have:=b6d (A:=ul l) (i:=n) (by rw[b1v hD];exact ht) hlt
 rwa[b1v hD]at this
theorem c4H {q k:Nat} (h:2^(k+1) ∣ q):dig q (k/64)|||2^(k%64)=dig q (k/64)+2^(k%64):=by
 refine d4b ?_
 obtain⟨m,rfl⟩:=h
 have e:2^(k+1)*m/PW (k/64)=2^(k%64+1)*m:=by
  rw[a8V,show k+1=64*(k/64)+(k%64+1)from by omega,Nat.pow_add,Nat.mul_assoc,Nat.mul_div_cancel_left _ (Nat.pow_pos (by omega))]
 unfold dig
 rw[e,a9V]
 have hd:2^(k%64+1) ∣ 2^64:=Nat.pow_dvd_pow 2 (by omega)
 exact(Nat.dvd_mod_iff hd).2 ⟨m,rfl⟩
theorem b8E (k:Nat):2^k=PW (k/64)*2^(k%64):=by
 rw[a8V,<-Nat.pow_add,show 64*(k/64)+k%64=k from by omega]
theorem c9N {r:Nat} (h:r<64):2^r<18446744073709551616:=by
 rw[a9V];exact Nat.pow_lt_pow_right (by omega) h
end Go.WD
namespace Go.Proofs.YtlmgkkjgdapnpaaGreatDoor
open Go.Proofs.Tryz
open Go.RowKit Go.RX Go.WD
theorem Eo.frame {Hr H Hr' H':PH} {v:Value} {l:List Nat} (h:Eo Hr H v l) (hk:∀k ob,H k=some ob->Hr k=none->Hr' k=none/\H' k=some ob):Eo Hr' H' v l:=⟨h.1.frame hk,h.2⟩
theorem c9O (d r:Nat) (h:r<=64):IntKind.u64.wrap ((d:Int)*2^min r (IntKind.bits .u64))=((d*2^r%18446744073709551616:Nat):Int):=by
 rw[show min r (IntKind.bits .u64)=r from Nat.min_eq_left h,show(d:Int)*2^r=((d*2^r:Nat):Int)from by rw[Int.natCast_mul,Int.natCast_pow];rfl,IntKind.wrap_u64]
 omega
section
variable {H:PH} {a b:List Nat} {va vb:Value}
set_option maxRecDepth 100000 in
theorem b4w (ha:Es H va a) (ta:Um a) (hA:a.length<=1000000):Con prog 249 [va] H fun u H'=>H'=H/\u= .int .i64 (blen (ul a):Nat):=by
 refine a0b mixed c9G (by kernel_rfl) rfl (a0E rfl rfl ha rfl (a0a ⟨_,rfl⟩ (a0f (b:=((a.length:Int)==0)) rfl (fun h=> ?_) (fun h=> ?_))))
 ·have h:=beq_iff_eq.1 h
  obtain rfl:a=[]:=List.eq_nil_of_length_eq_zero (by omega)
  exact a0c rfl ⟨rfl,rfl⟩
 ·have h:=beq_eq_false_iff_ne.1 h
  obtain⟨n,hn⟩:∃n,a.length=n+1:=⟨a.length-1,by omega⟩
  have e1:IntKind.i64.wrap ((a.length:Int)-1)=((n:Nat):Int):=by rw[c4w (by omega) (by omega)];omega
  have dt:=ha.2.at n
  have hbl:=blen_le (x:=a.getD n 0) (k:=64) dt
  refine a0E rfl rfl ha rfl (a0a ⟨_,rfl⟩ (a0E rfl rfl ha rfl (a0a ⟨_,rfl⟩ ?_)))
  simp only[cA,nA]
  refine a1m (k:= .i64) (j:=n) rfl rfl rfl rfl (fun _=>rfl) ha (by omega) (by simp only[rxs,iv,e1]) (fun _=>rfl) fun p=>a1o (b4p _ dt) rfl (a0a ⟨_,rfl⟩ (a0c ?_ ⟨rfl,rfl⟩))
  simp only[List.cons_append,List.nil_append,rxs,iv,a4w]
  rw[c9M ta ha.2 hn]
  congr 1
  rw[IntKind.wrap_i64,IntKind.wrap_i64]
  omega
set_option maxRecDepth 100000 in
set_option maxHeartbeats 1000000 in
theorem b8F (k:Nat) (ha:Es H va a) (hA:a.length<=100000) (hk:k<=20000000):Con prog 250 [va,.int .i64 (k:Nat)] H fun u H'=>PH.le H H'/\Mu H' u (ul a*2^k):=by
 obtain⟨q,hq⟩:∃q,q=k/64:=⟨_,rfl⟩
 obtain⟨r,hr⟩:∃r,r=k%64:=⟨_,rfl⟩
 have hr64:r<64:=by omega
 have hkq:k=64*q+r:=by omega
 have eq1:IntKind.i64.wrap ((k:Int).tdiv 64)=((q:Nat):Int):=by rw[hq];exact d7N k (by omega)
 have er1:(k:Int).tmod 64=((r:Nat):Int):=by rw[hr];exact d7O k
 have e0:IntKind.i64.wrap ((a.length:Int)+(q:Int))=((a.length+q:Nat):Int):=d4d (by omega)
 have e00:IntKind.i64.wrap (((a.length+q:Nat):Int)+1)=((a.length+q+1:Nat):Int):=a9Y (by omega)
 have hpk:2^k=PW q*2^r:=by rw[hq,hr];exact b8E k
 refine a0b mixed c4B (by kernel_rfl) rfl (a0E rfl rfl ha rfl (a0a ⟨_,rfl⟩ (a0a ⟨_,rfl⟩ (a3W (kl:= .i64) (kc:= .i64) (m:=a.length+q+1) rfl rfl rfl (by omega) (by simp only[rxs,iv,eq1,e0,e00]) fun out H1 hl1 h1=> ?_))))
 simp only[cA,nA]
 refine a0E rfl rfl (ha.mono hl1) rfl ⟨fun vals H'=>∃(i:Nat) (l:List Nat),vals=[iv i]/\i<=a.length/\PH.le H H'/\Eo H H' out l/\l.length=a.length+q+1/\(∀k,i+q<k->l.getD k 0=0)/\l.getD (i+q) 0<2^r/\ul l=ul (a.take i)*2^k,fun vals _=>(a.length-intOf (vals.getD 0 undef)).toNat,⟨0,_,rfl,by omega,hl1,h1,by simp,fun k _=>a5k _ k,?_,?_⟩,?_⟩
 ·rw[a5k];exact Nat.pow_pos (by omega)
 ·rw[a3v];simp[ul]
 rintro vals H'-⟨i,l,rfl,hi,hle,hO,hll,hz,hcar,hv⟩
 simp only[cA,nA]
 have ha':=ha.mono hle
 refine a0a ⟨_,rfl⟩ (a0a ⟨_,rfl⟩ (a0f (b:=decide ((i:Int)<a.length)) rfl (fun h=> ?_) (fun h=> ?_)))
 ·have h:i<a.length:=by have:=of_decide_eq_true h;omega
  have da:=ha.2.at i
  have e1:IntKind.i64.wrap ((i:Int)+(q:Int))=((i+q:Nat):Int):=d4d (by omega)
  have e2:IntKind.i64.wrap (((i+q:Nat):Int)+1)=((i+q+1:Nat):Int):=a9Y (by omega)
  have e10:IntKind.i64.wrap ((i:Int)+1)=((i+1:Nat):Int):=a9Y (by omega)
  refine a1m (k:= .i64) (j:=i) rfl rfl rfl rfl (fun _=>rfl) ha' h rfl (fun _=>rfl) fun p0=> ?_
  simp only[cA,nA]
  refine a1m (k:= .i64) (j:=i+q) rfl rfl rfl rfl (fun _=>rfl) hO.es (by omega) (by simp only[rxs,iv,eq1,e1]) (fun _=>rfl) fun p1=> ?_
  simp only[cA,nA]
  generalize hx:a.getD i 0=x at da
  generalize hc:l.getD (i+q) 0=c at hcar
  have hc64:c<18446744073709551616:=Nat.lt_trans hcar (c9N hr64)
  have hor:c|||(x*2^r%18446744073709551616)=(x%2^(64-r))*2^r+c:=by
   rw[c9y x (by omega),Nat.or_comm,c7I hcar]
  have hw0:(x%2^(64-r))*2^r+c<18446744073709551616:=by
   rw[<-hor,a9V]
   exact Nat.or_lt_two_pow (by rw[<-a9V];exact hc64) (by rw[<-a9V];exact Nat.mod_lt _ (by omega))
  have e3:=c9O x r (by omega)
  have e4:=b8o c (x*2^r%18446744073709551616) hc64 (Nat.mod_lt _ (by omega))
  rw[hor]at e4
  have hsplit:=a2m (r:=r) (by omega)
  have hdm:=Nat.div_add_mod x (2^(64-r))
  refine a0a ⟨_,rfl⟩ (a0a ?_ (a0a ⟨_,rfl⟩ (a2p (k:= .i64) (j:=i+q) (d:=(x%2^(64-r))*2^r+c) rfl rfl rfl rfl (fun _=>rfl) (fun _=>rfl) hle hO (by omega) hw0 (by simp only[rxs,iv,eq1,e1]) (fun p=> ?_) rfl fun p2 u2 H2 hl2 h2 _=> ?_)))
  ·show(0:Int)<=(k:Int).tmod 64
   rw[er1];omega
  ·simp only[rxs,uv,er1,Int.toNat_natCast,e3,e4]
  simp only[cA,nA]
  have k1:=a4z (l:=l) ((x%2^(64-r))*2^r+c) (show i+q<l.length by omega)
  rw[hc]at k1
  have hP:PW i*x*2^k=PW (i+q)*(2^r*x):=by
   rw[hpk,a8Q,Nat.mul_assoc (PW i),Nat.mul_left_comm x,<-Nat.mul_assoc (PW i),Nat.mul_comm x]
  refine a0f (b:=decide (((r:Nat):Int)>0)) ?_ (fun h0=> ?_) (fun h0=> ?_)
  ·show Value.bool (decide ((k:Int).tmod 64>0))=_
   rw[er1]
  ·have h0:=of_decide_eq_true h0
   have e5:IntKind.i64.wrap (64-((r:Nat):Int))=((64-r:Nat):Int):=by rw[c4w (by omega) (by omega)];omega
   have e6:=a5Q x (64-r) (by omega)
   have hw1:=c7J da (r:=r) (by omega)
   refine a0a ?_ (a2p (k:= .i64) (j:=i+q+1) (d:=x/2^(64-r)) rfl rfl rfl rfl (fun _=>rfl) (fun _=>rfl) hl2 h2 (by rw[List.length_set];omega) (Nat.lt_trans hw1 (c9N hr64)) (by simp only[rxs,iv,eq1,e1,e2]) (fun p=> ?_) rfl fun p3 u3 H3 hl3 h3 _=>⟨⟨i+1,_,?_,by omega,hl3,h3,by rw[List.length_set,List.length_set];exact hll,?_,?_,?_⟩,?_⟩)
   ·show(0:Int)<=IntKind.i64.wrap (64-(k:Int).tmod 64)
    rw[er1,e5];omega
   ·simp only[rxs,uv,er1,e5,Int.toNat_natCast,e6]
   ·simp only[rxs,iv,e10]
   ·intro j hj
    rw[a1L (by omega),a1L (by omega)];exact hz j (by omega)
   ·rw[show i+1+q=i+q+1 from by omega,a7v (by rw[List.length_set];omega)];exact hw1
   ·have k2:=a4z (l:=l.set (i+q) ((x%2^(64-r))*2^r+c)) (x/2^(64-r)) (show i+q+1<(l.set (i+q) ((x%2^(64-r))*2^r+c)).length by rw[List.length_set];omega)
    rw[a1L (by omega),hz (i+q+1) (by omega),Nat.mul_zero,Nat.add_zero]at k2
    rw[k2,a1h,hx,Nat.add_mul,hP,<-hv]
    have k3:2^r*x=(x%2^(64-r))*2^r+18446744073709551616*(x/2^(64-r)):=by
     rw[hsplit]
     generalize x/2^(64-r)=X at hdm
     generalize x%2^(64-r)=Y at hdm
     generalize 2^(64-r)=S at hdm
     rw[<-hdm,Nat.mul_add,Nat.mul_comm (2^r) Y,<-Nat.mul_assoc,Nat.mul_comm (2^r) S]
     omega
    rw[k3,a0C]
    rw[Nat.mul_add]at k1
    rw[Nat.mul_add,Nat.mul_assoc]
    omega
   ·simp only[rxs,iv,e10]
    omega
  ·have h0:=of_decide_eq_false h0
   have hr0:r=0:=by omega
   rw[hr0]at hcar k1 hP h2 hdm
   rw[Nat.pow_zero]at hcar
   have hc0:c=0:=by omega
   rw[Nat.sub_zero,<-a9V,Nat.mod_eq_of_lt da,Nat.pow_zero,Nat.mul_one]at k1 h2
   refine⟨⟨i+1,_,?_,by omega,hl2,h2,by rw[List.length_set];exact hll,?_,?_,?_⟩,?_⟩
   ·simp only[rxs,iv,e10]
   ·intro j hj
    rw[a1L (by omega)];exact hz j (by omega)
   ·rw[a1L (by omega),hz (i+1+q) (by omega)];exact Nat.pow_pos (by omega)
   ·rw[a1h,hx,Nat.add_mul,hP,<-hv,Nat.pow_zero,Nat.one_mul]
    rw[hc0,Nat.mul_zero,Nat.add_zero,Nat.add_zero]at k1
    rw[hc0,Nat.add_zero]
    exact k1
   ·simp only[rxs,iv,e10]
    omega
 ·have h:i=a.length:=by have:=of_decide_eq_false h;omega
  rw[List.take_of_length_le (by omega)]at hv
  refine a0d (a1p false hO.es) rfl ?_
  rintro u H2 ⟨rfl,w,rfl,hw⟩
  refine⟨fun h=>(nomatch h),a0a ⟨_,rfl,rfl⟩ (a0c rfl ⟨hle,?_⟩)⟩
  have e:(sn false (ul l)).natAbs=ul l:=rfl
  rw[e,hv]at hw
  exact hw
end
open Go.RowKit Go.RX Go.WD
section
variable {H:PH} {a b:List Nat} {va vb:Value}
theorem c4I {X Q R d s R' c:Nat} (h1:X=Q*d+R) (h2:s*d+R'=R*18446744073709551616+c):c+18446744073709551616*X=(s+18446744073709551616*Q)*d+R':=by
 rw[Nat.add_mul,Nat.mul_assoc,h1]
 generalize Q*d=Y
 generalize s*d=Z at h2
 omega
set_option maxRecDepth 100000 in
set_option maxHeartbeats 1000000 in
theorem b4x (ha:Es H va a) (hb:Es H vb b) (ta:Um a) (tb:Um b) (hb0:0<ul b) (hA:a.length<=50000) (hB:b.length<=50000):
  Con prog 207 [va,vb] H fun u H'=>PH.le H H'/\∃q r lq,u= .tuple #[q,r]/\Es H' q lq/\ul lq=ul a/ul b/\Mu H' r (ul a%ul b):=by
 refine a0b mixed c9H (by kernel_rfl) rfl (a0E rfl rfl ha rfl (a3W (kl:= .i64) (kc:= .i64) (m:=a.length) rfl rfl rfl (by omega) rfl fun vq H1 hl1 h1=> ?_))
 simp only[cA,nA]
 refine a0E rfl rfl (hb.mono hl1) rfl (a0a ⟨_,rfl⟩ (a0f (b:=((b.length:Int)==1)) rfl (fun h=> ?_) (fun h=> ?_)))
 ·have h:b.length=1:=by have:=beq_iff_eq.1 h;omega
  obtain⟨d,rfl⟩:∃d,b=[d]:=by
   match b,h with
   |[d],_=>exact⟨d,rfl⟩
  rw[b8t]at hb0⊢
  have hd:d<18446744073709551616:=hb.2.at 0
  have e0:IntKind.i64.wrap ((a.length:Int)-1)=(a.length:Int)-1:=c4w (by omega) (by omega)
  refine a0E rfl rfl (ha.mono hl1) rfl (a0a ⟨_,rfl⟩ ⟨fun vals H'=>∃(i R:Nat) (lq:List Nat),vals=[.int .u64 (R:Nat),.int .i64 ((i:Int)-1)]/\i<=a.length/\PH.le H H'/\Eo H H' vq lq/\lq.length=a.length/\R<d/\ul (a.drop i)=ul (lq.drop i)*d+R,fun vals _=>(intOf (vals.getD 1 undef)+1).toNat,⟨a.length,0,_,?_,Nat.le_refl _,hl1,h1,by simp,hb0,?_⟩,?_⟩)
  ·simp only[List.cons_append,List.nil_append,rxs,iv,e0];rfl
  ·rw[List.drop_of_length_le (Nat.le_refl _),List.drop_of_length_le (by simp)];simp[ul]
  rintro vals H'-⟨i,R,lq,rfl,hi,hle,hO,hll,hR,hv⟩
  simp only[cA,nA]
  refine a0a ⟨_,rfl⟩ (a0f (b:=decide ((i:Int)-1≥0)) rfl (fun hi2=> ?_) (fun hi2=> ?_))
  ·have hi2:=of_decide_eq_true hi2
   obtain⟨j,rfl⟩:∃j,i=j+1:=⟨i-1,by omega⟩
   have ej:((j+1:Nat):Int)-1=(j:Int):=by omega
   rw[ej]
   have e2:IntKind.i64.wrap ((j:Int)-1)=(j:Int)-1:=c4w (by omega) (by omega)
   have da:=ha.2.at j
   refine a1m (k:= .i64) (j:=j) rfl rfl rfl rfl (fun _=>rfl) (ha.mono hle) (by omega) rfl (fun _=>rfl) fun p1=> ?_
   simp only[cA,nA]
   refine a1m (k:= .i64) (j:=0) rfl rfl rfl rfl (fun _=>rfl) (hb.mono hle) (by simp) rfl (fun _=>rfl) fun p2=> ?_
   simp only[cA,nA]
   refine a1o (b8u R (a.getD j 0) d hR da hd) rfl (a0a ⟨_,rfl,Nat.zero_lt_succ _⟩ (a0a ⟨_,rfl,Nat.lt_succ_self _⟩ ?_))
   simp only[cA,nA]
   obtain⟨s,hs⟩:∃s,s=(R*18446744073709551616+a.getD j 0)/d:=⟨_,rfl⟩
   obtain⟨R',hR'⟩:∃s,s=(R*18446744073709551616+a.getD j 0)%d:=⟨_,rfl⟩
   have key:s*d+R'=R*18446744073709551616+a.getD j 0:=by
    rw[hs,hR',Nat.mul_comm];exact Nat.div_add_mod _ _
   have hs64:s<18446744073709551616:=by
    rw[hs,Nat.div_lt_iff_lt_mul hb0]
    have:=Nat.mul_le_mul_right 18446744073709551616 (show R+1<=d from hR)
    rw[Nat.add_mul,Nat.one_mul]at this
    rw[Nat.mul_comm 18446744073709551616 d]
    omega
   have hRd:R'<d:=by rw[hR'];exact Nat.mod_lt _ hb0
   rw[<-hs,<-hR']
   refine a2p (k:= .i64) (j:=j) (d:=s) rfl rfl rfl rfl (fun _=>rfl) (fun _=>rfl) hle hO (by omega) hs64 rfl (fun _=>rfl) rfl fun p u H3 hl3 h3 _=>⟨⟨j,R',_,?_,by omega,hl3,h3,by rw[List.length_set];exact hll,hRd,?_⟩,?_⟩
   ·simp only[rxs,e2]
   ·rw[a5R (l:=a) (show j<a.length by omega),a5R (l:=lq.set j s) (by rw[List.length_set];omega),a7v (by omega),c4n (by omega)]
    exact c4I hv key
   ·simp only[rxs,e2]
    omega
  ·have hi2:=of_decide_eq_false hi2
   have hi0:i=0:=by omega
   subst hi0
   rw[List.drop_zero,List.drop_zero]at hv
   refine a7B (d:=R) rfl rfl (by omega) rfl fun vr H2 hl2 h2=> ?_
   simp only[cA,nA]
   refine a0d (a1p false h2.es) rfl ?_
   rintro u H3 ⟨rfl,w,rfl,hw⟩
   have e3:(sn false (ul [R])).natAbs=R:=by rw[b8t];rfl
   rw[e3]at hw
   refine⟨fun h=>(nomatch h),a0a ⟨_,rfl,rfl⟩ (a0c rfl ⟨hle.trans hl2,vq,w,lq,rfl,(hO.mono hl2).es,?_,?_⟩)⟩
   ·rw[hv,Nat.add_comm,Nat.add_mul_div_right _ _ hb0,Nat.div_eq_of_lt hR,Nat.zero_add]
   ·rw[hv,Nat.add_comm,Nat.add_mul_mod_self_right,Nat.mod_eq_of_lt hR];exact hw
 ·have lA:blen (ul a)<=64*a.length:=b8v (a6B ha.2)
  have lB:blen (ul b)<=64*b.length:=b8v (a6B hb.2)
  obtain⟨p1,p2⟩:=a5m (x:=ul b) (by omega)
  refine a0d (b4w (ha.mono hl1) ta (by omega)) rfl ?_
  rintro _ H2 ⟨rfl,rfl⟩
  simp only[cA,nA]
  refine⟨fun h=>(nomatch h),a0d (b4w (hb.mono hl1) tb (by omega)) rfl ?_⟩
  rintro _ H3 ⟨rfl,rfl⟩
  simp only[cA,nA]
  have e0:IntKind.i64.wrap ((blen (ul a):Int)-(blen (ul b):Int))=(blen (ul a):Int)-(blen (ul b):Int):=c4w (by omega) (by omega)
  refine⟨fun h=>(nomatch h),a0a ⟨_,rfl⟩ (a0a ⟨_,rfl⟩ ⟨fun vals H'=>∃(t:Int) (r:Nat) (vr:Value) (Hr:PH) (lq:List Nat),vals=[vr,.int .i64 t]/\ -10000000<=t/\t<=10000000/\PH.le H Hr/\PH.le Hr H'/\Eo Hr H' vq lq/\lq.length=a.length/\Mu Hr vr r/\ul a=ul lq*ul b+r/\((t<0/\r<ul b)\/(0<=t/\r<ul b*2^(t.toNat+1)/\2^(t.toNat+1) ∣ ul lq/\t.toNat+blen (ul b)<=blen (ul a))),fun vals _=>(intOf (vals.getD 1 undef)+1).toNat,⟨(blen (ul a):Int)-(blen (ul b):Int),ul a,va,H,_,?_,by omega,by omega,PH.le.refl _,hl1,h1,by simp,⟨a,ha,ta,rfl⟩,?_,?_⟩,?_⟩)⟩
  ·simp only[rxs,e0]
  ·rw[a3v,Nat.zero_mul,Nat.zero_add]
  ·have hlA:=a7x (ul a)
   by_cases hlt:blen (ul a)<blen (ul b)
   ·left
    refine⟨by omega,?_⟩
    have:2^blen (ul a)<=2^(blen (ul b)-1):=Nat.pow_le_pow_right (by omega) (by omega)
    omega
   ·right
    refine⟨by omega,?_,by rw[a3v];exact Nat.dvd_zero _,by omega⟩
    rw[show((blen (ul a):Int)-(blen (ul b):Int)).toNat+1=blen (ul a)-blen (ul b)+1 from by omega]
    have h3:=Nat.mul_le_mul_right (2^(blen (ul a)-blen (ul b)+1)) p2
    rw[<-Nat.pow_add,show blen (ul b)-1+(blen (ul a)-blen (ul b)+1)=blen (ul a)from by omega]at h3
    omega
  rintro vals H'-⟨t,r,vr,Hr,lq,rfl,ht1,ht2,hle,hler,hq,hlq,hrest,hqr,hcase⟩
  simp only[cA,nA]
  refine a0a ⟨_,rfl⟩ (a0f (b:=decide (t≥0)) rfl (fun ht=> ?_) (fun ht=> ?_))
  ·have ht:=of_decide_eq_true ht
   obtain⟨k,rfl⟩:∃k:Nat,t=(k:Int):=⟨t.toNat,by omega⟩
   rw[Int.toNat_natCast]at hcase
   obtain⟨_,hr,hdv,hk⟩:=hcase.resolve_left (by omega)
   have e1:IntKind.i64.wrap ((k:Int)-1)=(k:Int)-1:=c4w (by omega) (by omega)
   have hQ:=d7N k (by omega)
   have hR:=d7O k
   have hpk:2^(k+1)=2*2^k:=by rw[Nat.pow_succ,Nat.mul_comm]
   have hrA:r<=ul a:=by omega
   have hnext:∀(q' r':Nat),r'<ul b*2^k->2^k ∣ q'->(((k:Int)-1<0/\r'<ul b)\/(0<=(k:Int)-1/\r'<ul b*2^(((k:Int)-1).toNat+1)/\2^(((k:Int)-1).toNat+1) ∣ q'/\((k:Int)-1).toNat+blen (ul b)<=blen (ul a))):=fun q' r' g2 g3=>by
    by_cases hk0:k=0
    ·left
     subst hk0
     rw[Nat.pow_zero,Nat.mul_one]at g2
     exact⟨by omega,g2⟩
    ·right
     rw[show((k:Int)-1).toNat+1=k from by omega]
     exact⟨by omega,g2,g3,by omega⟩
   refine a0d ((b8F k (hb.mono hle) (by omega) (by omega)).frame hler) rfl ?_
   rintro vt H2 ⟨Hr',⟨s1,s2⟩,s3,s4⟩
   have hq':=hq.frame s4
   simp only[cA,nA]
   obtain⟨lt,dt,tt,vt'⟩:=s2
   obtain⟨lr,dr,tr,vr'⟩:=id hrest
   refine⟨fun h=>(nomatch h),a0d (b4v ((dr.mono s1).mono s3) (dt.mono s3) tr tt) rfl ?_⟩
   rintro c H3 ⟨rfl,c,rfl,hc1,hc2⟩
   rw[vr',vt']at hc1 hc2
   refine⟨fun h=>(nomatch h),a0a ⟨_,rfl⟩ (a0f (b:=decide (c≥0)) rfl (fun hc=> ?_) (fun hc=> ?_))⟩
   ·have hc:=of_decide_eq_true hc
    have hge:ul b*2^k<=r:=by omega
    have llr:lr.length<=a.length:=Um.len_le tr ha.2 (by omega)
    refine a0d ((a7D (dr.mono s1) dt (by omega) (Um.len_le tt dr.2 (by omega)) (by omega)).frame s3) rfl ?_
    rintro vk H4 ⟨Hr2,⟨t1,lk,dk,vk'⟩,t3,t4⟩
    have hq2:=hq'.frame t4
    simp only[cA,nA]
    refine⟨fun h=>(nomatch h),a0d ((a1p false dk).frame t3) rfl ?_⟩
    rintro u H5 ⟨Hr3,⟨e3,w,rfl,hw⟩,w3,w4⟩
    have e3:=e3.symm
    subst e3
    have hq3:=hq2.frame w4
    have ew:(sn false (ul lk)).natAbs=r-ul b*2^k:=by rw[vk',vr',vt'];rfl
    rw[ew]at hw
    simp only[cA,nA]
    have hkl:k/64<lq.length:=by rw[hlq];omega
    have dq:=hq3.2.at (k/64)
    have hdig:=b1v hq3.2 (k/64)
    have hwb:=c4H hdv
    rw[hdig]at hwb
    have hp64:2^(k%64)<18446744073709551616:=c9N (Nat.mod_lt _ (by omega))
    have hor:=b8o (lq.getD (k/64) 0) (2^(k%64)) dq hp64
    rw[hwb]at hor
    have hb1:=c9B (k%64) (Nat.mod_lt _ (by omega))
    have hfit:lq.getD (k/64) 0+2^(k%64)<18446744073709551616:=by
     rw[<-hwb,a9V]
     exact Nat.or_lt_two_pow dq hp64
    refine⟨fun h=>(nomatch h),a0a ⟨_,rfl,rfl⟩ (a1m (k:= .i64) (j:=k/64) rfl rfl rfl rfl (fun _=>rfl) hq3.es hkl (by simp only[rxs,hQ]) (fun _=>rfl) fun p=> ?_)⟩
    simp only[cA,nA]
    refine a0a ?_ (a0a ⟨_,rfl⟩ (a2p (k:= .i64) (j:=k/64) (d:=lq.getD (k/64) 0+2^(k%64)) rfl rfl rfl rfl (fun _=>rfl) (fun _=>rfl) w3 hq3 hkl hfit (by simp only[rxs,hQ]) (fun p=> ?_) rfl fun p2 u2 H6 hl6 h6 _=>⟨⟨(k:Int)-1,r-ul b*2^k,w,Hr2,_,?_,by omega,by omega,hle.trans (s1.trans t1),hl6,h6,by rw[List.length_set];exact hlq,hw,?_,?_⟩,?_⟩))
    ·show(0:Int)<=(k:Int).tmod 64
     rw[hR];omega
    ·simp only[rxs,uv,hR,hb1,hor]
    ·simp only[rxs,e1];rfl
    ·have k1:=a4z (l:=lq) (lq.getD (k/64) 0+2^(k%64)) hkl
     rw[Nat.mul_add,<-b8E k]at k1
     have k2:ul (lq.set (k/64) (lq.getD (k/64) 0+2^(k%64)))=ul lq+2^k:=by omega
     rw[k2,Nat.add_mul,Nat.mul_comm (2^k)]
     omega
    ·have k1:=a4z (l:=lq) (lq.getD (k/64) 0+2^(k%64)) hkl
     rw[Nat.mul_add,<-b8E k]at k1
     have k2:ul (lq.set (k/64) (lq.getD (k/64) 0+2^(k%64)))=ul lq+2^k:=by omega
     rw[k2]
     refine hnext _ _ ?_ ((Nat.dvd_add_right (Nat.dvd_trans ⟨2,by rw[hpk,Nat.mul_comm]⟩ hdv)).2 (Nat.dvd_refl _))
     rw[hpk,<-Nat.mul_assoc,Nat.mul_comm (ul b) 2,Nat.mul_assoc]at hr
     omega
    ·simp only[rxs,e1]
     omega
   ·have hc:=of_decide_eq_false hc
    refine⟨⟨(k:Int)-1,r,vr,Hr',lq,?_,by omega,by omega,hle.trans s1,s3,hq',hlq,hrest.mono s1,hqr,hnext _ _ (by omega) (Nat.dvd_trans ⟨2,by rw[hpk,Nat.mul_comm]⟩ hdv)⟩,?_⟩
    ·simp only[rxs,e1]
    ·simp only[rxs,e1]
     omega
  ·have ht:=of_decide_eq_false ht
   obtain⟨_,hr⟩:=hcase.resolve_right (by omega)
   refine a0c rfl ⟨hle.trans hler,vq,vr,lq,rfl,hq.es,?_,?_⟩
   ·rw[hqr,Nat.add_comm,Nat.add_mul_div_right _ _ hb0,Nat.div_eq_of_lt hr,Nat.zero_add]
   ·rw[hqr,Nat.add_comm,Nat.add_mul_mod_self_right,Nat.mod_eq_of_lt hr];exact hrest.mono hler
end
open Go.RowKit Go.RX Go.WD
theorem c7N:∀{a b:List Nat},a.map uv=b.map uv->a=b
 |[],[],_=>rfl
 |[],_::_,h=>by simp at h
 |_::_,[],h=>by simp at h
 |x::a,y::b,h=>by
  simp only[List.map_cons,List.cons.injEq,uv,Value.int.injEq,true_and]at h
  rw[c7N h.2]
  have:=h.1
  congr 1
  omega
theorem Mu.uniq {H:PH} {v:Value} {m n:Nat} (h:Mu H v m) (k:Mu H v n):m=n:=by
 obtain⟨l,⟨⟨_,a,c,e,_,_,h1⟩,_⟩,_,rfl⟩:=h
 obtain⟨l',⟨⟨_,a',c',e',_,_,h2⟩,_⟩,_,rfl⟩:=k
 rw[e,Value.slice.injEq]at e'
 obtain⟨rfl,hl,rfl⟩:=e'
 congr 1
 rcases h1 with h1|⟨b,o,cs,T,fz,h3,h4,h5⟩
 ·rw[List.eq_nil_of_length_eq_zero h1,List.eq_nil_of_length_eq_zero (show l'.length=0 by omega)]
 ·rcases h2 with h2|⟨b',o',cs',T',fz',h3',h4',h5'⟩
  ·rw[List.eq_nil_of_length_eq_zero h2,List.eq_nil_of_length_eq_zero (show l.length=0 by omega)]
  ·rw[h3]at h3'
   simp only[Option.some.injEq,Addr.mk.injEq,and_true]at h3'
   obtain⟨rfl,rfl⟩:=h3'
   rw[h4]at h4'
   simp only[Option.some.injEq,Obj.cells.injEq]at h4'
   obtain⟨rfl,rfl,rfl⟩:=h4'
   rw[hl]at h5
   exact c7N (h5.symm.trans h5')
open Classical in
noncomputable def d4l (H:PH) (v:Value):Nat:=if h:∃n,Mu H v n then h.choose else 0
theorem b8G {H:PH} {v:Value} {n:Nat} (h:Mu H v n):d4l H v=n:=by
 have:∃n,Mu H v n:=⟨n,h⟩
 unfold d4l;rw[dif_pos this];exact this.choose_spec.uniq h
theorem a6t {l:List Nat} {n:Nat} (t:Um l) (hv:ul l=n) (h:n<BP 10000):l.length<=5000:=t _ (by rw[hv,<-d3Z];exact h)
section
variable {H:PH} {v x y:Value} {z p q:Int}
theorem b8H {w:Value} {n:Nat} (h:Mu H w n):Lw H (.agg #[.bool false,w]) (n:Int):=
 ⟨w,by rw[decide_eq_false (by omega)],by rw[Int.natAbs_natCast];exact h⟩
theorem b8I (b:Bool) {w:Value} {n:Nat} (h:Mu H w n):Value.agg ((Value.bool b).cells++w.cells)= .agg #[.bool b,w]:=by
 rw[h.one.1];rfl
theorem a4Q (h:Lw H v z):Con prog 148 [v] H fun u H'=>H'=H/\Lw H u (-z):=by
 have hrq:=h.rq
 obtain⟨w,rfl,l,hd,ht,hv⟩:=h
 refine a0b mixed b6g (by kernel_rfl) rfl (a0a hrq (a0a ⟨_,rfl⟩ (a0d (a1p (!decide (z<0)) hd) rfl ?_)))
 rintro u H' ⟨rfl,hu⟩
 rw[hv,d4j]at hu
 have hr:=hu.rq
 obtain⟨w',rfl,hw'⟩:=hu
 exact⟨fun h=>(nomatch h),a0a hr (a0c rfl ⟨rfl,w',rfl,hw'⟩)⟩
theorem a5n (hx:Lw H x p) (hy:Lw H y q) (hp:Lm p) (hq:Lm q):Con prog 105 [x,y] H fun u H'=>PH.le H H'/\Lw H' u (p+q):=by
 have r1:=hx.rq
 have r2:=hy.rq
 obtain⟨wx,rfl,a,da,ta,va⟩:=hx
 obtain⟨wy,rfl,b,db,tb,vb⟩:=hy
 have la:=a6t ta va hp
 have lb:=a6t tb vb hq
 refine a0b mixed c4C (by kernel_rfl) rfl (a0a r1 (a0a r2 (a0a ⟨_,rfl⟩ (a0a ⟨_,rfl⟩ (a0f (b:=(decide (p<0)==decide (q<0))) ?_ (fun h=> ?_) (fun h=> ?_))))))
 ·show Value.bool (false !=(decide (p<0)==decide (q<0)))=_
  rw[Bool.false_bne]
 ·refine a0d (c4F da db (by omega) (by omega)) rfl ?_
  rintro u H1 ⟨hl1,l,hd,hv⟩
  refine⟨fun _=>hl1,a0d (a1p (decide (p<0)) hd) rfl ?_⟩
  rintro u2 H2 ⟨rfl,hu⟩
  rw[hv,va,vb,c4E h]at hu
  have hr:=hu.rq
  obtain⟨w',rfl,hw'⟩:=hu
  exact⟨fun _=>PH.le.refl _,a0a hr (a0c rfl ⟨hl1,w',rfl,hw'⟩)⟩
 ·refine a0d (b4v da db ta tb) rfl ?_
  rintro c H1 ⟨rfl,c,rfl,hc1,hc2⟩
  rw[va,vb]at hc1 hc2
  refine⟨fun h=>(nomatch h),a0a ⟨_,rfl⟩ (a0f (b:=decide (c<0)) rfl (fun hc=> ?_) (fun hc=> ?_))⟩
  ·have hc:=of_decide_eq_true hc
   refine a0d (a7D db da (by omega) (Um.len_le ta db.2 (by omega)) (by omega)) rfl ?_
   rintro u H2 ⟨hl1,l,hd,hv⟩
   refine⟨fun _=>hl1,a0d (a1p (decide (q<0)) hd) rfl ?_⟩
   rintro u2 H3 ⟨rfl,hu⟩
   rw[hv,va,vb,b4t (by rw[<-h];exact Bool.beq_comm) (by omega),Int.add_comm]at hu
   have hr:=hu.rq
   obtain⟨w',rfl,hw'⟩:=hu
   exact⟨fun _=>PH.le.refl _,a0a hr (a0c rfl ⟨hl1,w',rfl,hw'⟩)⟩
  ·have hc:=of_decide_eq_false hc
   refine a0d (a7D da db (by omega) (Um.len_le tb da.2 (by omega)) (by omega)) rfl ?_
   rintro u H2 ⟨hl1,l,hd,hv⟩
   refine⟨fun _=>hl1,a0d (a1p (decide (p<0)) hd) rfl ?_⟩
   rintro u2 H3 ⟨rfl,hu⟩
   rw[hv,va,vb,b4t h (by omega)]at hu
   have hr:=hu.rq
   obtain⟨w',rfl,hw'⟩:=hu
   exact⟨fun _=>PH.le.refl _,a0a hr (a0c rfl ⟨hl1,w',rfl,hw'⟩)⟩
theorem b6i (hx:Lw H x p) (hy:Lw H y q) (hp:Lm p) (hq:Lm q):Con prog 151 [x,y] H fun u H'=>PH.le H H'/\Lw H' u (p-q):=by
 have r1:=hx.rq
 have r2:=hy.rq
 have hq':Lm (-q):=by unfold Lm at hq⊢;rw[Int.natAbs_neg];exact hq
 have hx':=hx
 have hy':=hy
 obtain⟨wx,rfl,a,da,ta,va⟩:=hx
 obtain⟨wy,rfl,b,db,tb,vb⟩:=hy
 refine a0b mixed b8z (by kernel_rfl) rfl (a0a r1 (a0a r2 (a0d (a4Q hy') rfl ?_)))
 rintro u H1 ⟨rfl,hu⟩
 refine⟨fun _=>PH.le.refl _,a0d (a5n hx' hu hp hq') rfl ?_⟩
 rintro u2 H2 ⟨hl,hu2⟩
 rw[<-Int.sub_eq_add_neg]at hu2
 have hr:=hu2.rq
 obtain⟨w',rfl,hw'⟩:=hu2
 exact⟨fun _=>hl,a0a hr (a0c rfl ⟨hl,w',rfl,hw'⟩)⟩
theorem a1U (hx:Lw H x p) (hy:Lw H y q) (hp:Lm p) (hq:Lm q):Con prog 101 [x,y] H fun u H'=>PH.le H H'/\Lw H' u (p*q):=by
 have r1:=hx.rq
 have r2:=hy.rq
 obtain⟨wx,rfl,a,da,ta,va⟩:=hx
 obtain⟨wy,rfl,b,db,tb,vb⟩:=hy
 have la:=a6t ta va hp
 have lb:=a6t tb vb hq
 refine a0b mixed b8A (by kernel_rfl) rfl (a0a r1 (a0a r2 (a0a ⟨_,rfl⟩ (a0a ⟨_,rfl⟩ (a0d (c4G da db (by omega) (by omega)) rfl ?_)))))
 rintro u H1 ⟨hl1,l,hd,hv⟩
 refine⟨fun _=>hl1,a0d (a1p (true !=(decide (p<0)==decide (q<0))) hd) rfl ?_⟩
 rintro u2 H2 ⟨rfl,hu⟩
 rw[hv,va,vb,d4k]at hu
 have hr:=hu.rq
 obtain⟨w',rfl,hw'⟩:=hu
 exact⟨fun _=>PH.le.refl _,a0a hr (a0c rfl ⟨hl1,w',rfl,hw'⟩)⟩
theorem a7E (hx:Lw H x z):Con prog 143 [x] H fun u H'=>H'=H/\u= .int .i64 (sgI z 0):=by
 have r1:=hx.rq
 obtain⟨wx,rfl,a,da,ta,va⟩:=hx
 have hpos:=ta.pos
 rw[va]at hpos
 refine a0b mixed c4D (by kernel_rfl) rfl (a0a r1 (a0a ⟨_,rfl⟩ (a0f (b:=decide (z<0)) rfl (fun h=> ?_) (fun h=> ?_))))
 ·have h:=of_decide_eq_true h
  refine a0c rfl ⟨rfl,?_⟩
  unfold sgI;rw[if_pos h];rfl
 ·have h:=of_decide_eq_false h
  refine a0E rfl rfl da rfl (a0a ⟨_,rfl⟩ (a0f (b:=((a.length:Int)==0)) rfl (fun h2=> ?_) (fun h2=> ?_)))
  ·have h2:=beq_iff_eq.1 h2
   refine a0c rfl ⟨rfl,?_⟩
   unfold sgI;rw[if_neg h,if_pos (by omega)];rfl
  ·have h2:=beq_eq_false_iff_ne.1 h2
   refine a0c rfl ⟨rfl,?_⟩
   unfold sgI;rw[if_neg h,if_neg (by omega)];rfl
theorem c4J (p q:Int):sgI (p-q) 0=sgI p q:=by
 unfold sgI
 by_cases h1:p<q
 ·rw[if_pos (by omega),if_pos h1]
 ·rw[if_neg (by omega),if_neg h1]
  by_cases h2:p=q
  ·rw[if_pos (by omega),if_pos h2]
  ·rw[if_neg (by omega),if_neg h2]
theorem b4y (hx:Lw H x p) (hy:Lw H y q) (hp:Lm p) (hq:Lm q):Con prog 104 [x,y] H fun u H'=>PH.le H H'/\u= .int .i64 (sgI p q):=by
 have r1:=hx.rq
 have r2:=hy.rq
 have hx':=hx
 have hy':=hy
 obtain⟨wx,rfl,_⟩:=hx
 obtain⟨wy,rfl,_⟩:=hy
 refine a0b mixed c9I (by kernel_rfl) rfl (a0a r1 (a0a r2 (a0d (b6i hx' hy' hp hq) rfl ?_)))
 rintro u H1 ⟨hl,hu⟩
 refine⟨fun h=>(nomatch h),a0d (a7E hu) rfl ?_⟩
 rintro u2 H2 ⟨rfl,rfl⟩
 exact⟨fun h=>(nomatch h),a0c rfl ⟨hl,by rw[c4J];rfl⟩⟩
set_option maxRecDepth 100000 in
theorem a8W (hx:Lw H x p) (hy:Lw H y q) (hp:Lm p) (hq:Lm q) (hq0:q≠0):Con prog 147 [x,y] H fun u H'=>PH.le H H'/\∃a b,u= .tuple #[a,b]/\Lw H' a (p/q)/\Lw H' b (p%q):=by
 have r1:=hx.rq
 have r2:=hy.rq
 obtain⟨wx,rfl,a,da,ta,va⟩:=hx
 obtain⟨wy,rfl,b,db,tb,vb⟩:=hy
 have la:=a6t ta va hp
 have lb:=a6t tb vb hq
 unfold Lm at hp hq
 have hb0:0<ul b:=by rw[vb];omega
 have hR:p.natAbs%q.natAbs<q.natAbs:=Nat.mod_lt _ (by omega)
 have hQ:p.natAbs/q.natAbs<=p.natAbs:=Nat.div_le_self _ _
 obtain⟨s1,s2⟩:=b8w p q (p.natAbs/q.natAbs) (p.natAbs%q.natAbs) hq0 hR (by rw[Nat.mul_comm];exact(Nat.div_add_mod _ _).symm)
 generalize hQd:p.natAbs/q.natAbs=Q at*
 generalize hRd:p.natAbs%q.natAbs=R at*
 refine a0b mixed b8B (by kernel_rfl) rfl (a0a r1 (a0a r2 (a0d (b4x da db ta tb hb0 (by omega) (by omega)) rfl ?_)))
 rintro u H1 ⟨hl1,uq,ur,lq,rfl,dq,vq,hr1⟩
 rw[va,vb,hQd]at vq
 rw[va,vb,hRd]at hr1
 obtain⟨lr,dr,tr,vr⟩:=hr1
 refine⟨fun h=>(nomatch h),a0a ⟨_,rfl,Nat.zero_lt_succ _⟩ (a0a ⟨_,rfl,Nat.lt_succ_self _⟩ (a0a ⟨_,rfl⟩ (a0a ⟨_,rfl⟩ (a0d (a1p (true !=(decide (p<0)==decide (q<0))) dq) rfl ?_))))⟩
 rintro u3 H2 ⟨rfl,hu3⟩
 rw[vq]at hu3
 refine⟨fun _=>PH.le.refl _,a0d (a1p (decide (p<0)) dr) rfl ?_⟩
 rintro u4 H3 ⟨rfl,hu4⟩
 rw[vr]at hu4
 have hr3:=hu3.rq
 have hr4:=hu4.rq
 have hu3':=hu3
 have hu4':=hu4
 obtain⟨w3,rfl,n3⟩:=hu3
 obtain⟨w4,rfl,n4⟩:=hu4
 refine⟨fun _=>PH.le.refl _,a0a hr3 (a0a hr4 (a0a ⟨_,rfl⟩ (a0f rfl (fun h=> ?_) (fun h=> ?_))))⟩
 ·have h:=of_decide_eq_true h
  have hp0:p<0:=by
   rcases Int.lt_or_le p 0 with h1|h1
   ·exact h1
   ·exfalso;unfold sn at h;rw[decide_eq_false (show ¬p<0 by omega)]at h;simp only[Bool.false_eq_true,if_false]at h;omega
  have hR0:R≠0:=by
   intro h0;rw[h0]at h;unfold sn at h;split at h<;>omega
  have eR:sn (decide (p<0)) R= -(R:Int):=by unfold sn;rw[decide_eq_true hp0];rfl
  simp only[hp0,hR0,decide_true,decide_false,Bool.not_false,Bool.and_true,if_true]at s1 s2
  have nb:Mu H3 wy q.natAbs:=⟨b,db.mono hl1,tb,vb⟩
  have hplus:=a5n hu4' (b8H nb) (by unfold Lm;rw[eR,Int.natAbs_neg,Int.natAbs_natCast];omega) (Lm.nat hq)
  refine a0a nb.one.2 (a0d hplus ?_ ?_)
  ·simp only[List.map_cons,List.map_nil]
   congr 2
   show Value.agg ((a0G prog 4).cells++wy.cells)=_
   rw[b8C];exact b8I false nb
  rintro u5 H4 ⟨hl4,hu5⟩
  have e5:sn (decide (p<0)) R+(q.natAbs:Int)=p%q:=by rw[s2,eR];omega
  rw[e5]at hu5
  have hr5:=hu5.rq
  obtain⟨w5,rfl,n5⟩:=hu5
  simp only[cA,nA]
  refine⟨fun h=>(nomatch h),a0a hr5 (a7B (d:=1) rfl rfl (by omega) rfl fun v1 H5 hl5 h5=> ?_)⟩
  simp only[cA,nA]
  have n1:Mu H5 v1 1:=⟨[1],h5.es,Um.of (n:=0) rfl (by decide),rfl⟩
  have hone:Lw H5 (.agg #[.bool (!decide (q<0)),v1]) (if q<0 then 1 else -1):=by
   by_cases h2:q<0
   ·rw[if_pos h2];exact⟨v1,by simp[h2],n1⟩
   ·rw[if_neg h2];exact⟨v1,by simp[h2],n1⟩
  have eQ:(sn (true !=(decide (p<0)==decide (q<0))) Q).natAbs=Q:=by unfold sn;split<;>omega
  have hlm1:Lm (if q<0 then(1:Int)else -1):=by
   split
   ·exact b8D
   ·have:=b8D;unfold Lm at this⊢;exact this
  refine a0a n1.one.2 (a0d (a5n (hu3'.mono (hl4.trans hl5)) hone (by unfold Lm;rw[eQ];omega) hlm1) ?_ ?_)
  ·simp only[List.map_cons,List.map_nil]
   congr 2
   show Value.agg ((Value.bool (!decide (q<0))).cells++v1.cells)=_
   exact b8I _ n1
  rintro u7 H6 ⟨hl6,hu7⟩
  have e7:sn (true !=(decide (p<0)==decide (q<0))) Q+(if q<0 then 1 else -1)=p/q:=by
   rw[s1];unfold sn
   by_cases h2:q<0
   ·simp[h2,hp0]
   ·simp[h2,hp0];omega
  rw[e7]at hu7
  have hr7:=hu7.rq
  obtain⟨w7,rfl,n7⟩:=hu7
  exact⟨fun h=>(nomatch h),a0a hr7 (a0c rfl ⟨hl1.trans (hl4.trans (hl5.trans hl6)),_,_,rfl,⟨w7,rfl,n7⟩,w5,rfl,n5.mono (hl5.trans hl6)⟩)⟩
 ·have h:=of_decide_eq_false h
  have hc:(decide (p<0)&& !decide (R=0))=false:=by
   by_cases h1:p<0
   ·by_cases h2:R=0
    ·simp[h2]
    ·exfalso;apply h;unfold sn;rw[decide_eq_true h1];simp;omega
   ·simp[h1]
  rw[hc]at s1 s2
  simp only[Bool.false_eq_true,if_false]at s1 s2
  have e3:sn (true !=(decide (p<0)==decide (q<0))) Q=p/q:=by
   rw[s1];unfold sn
   by_cases h1:p<0<;>by_cases h2:q<0<;>simp[h1,h2]
  have e4:sn (decide (p<0)) R=p%q:=by
   rw[s2];unfold sn
   by_cases h1:p<0
   ·simp[h1]at hc⊢;omega
   ·simp[h1]
  rw[e3]at n3
  rw[e4]at n4
  refine a0c rfl ⟨hl1,_,_,rfl,⟨w3,?_,n3⟩,w4,?_,n4⟩
  ·rw[<-e3];rfl
  ·rw[<-e4];rfl
theorem a7F (hx:Lw H x p) (hy:Lw H y q) (hp:Lm p) (hq:Lm q):Con prog 146 [x,y] H fun u H'=>PH.le H H'/\Lw H' u (Nat.gcd p.natAbs q.natAbs:Nat):=by
 have r1:=hx.rq
 have r2:=hy.rq
 obtain⟨wx,rfl,nx⟩:=hx
 obtain⟨wy,rfl,ny⟩:=hy
 unfold Lm at hp hq
 refine a0b mixed b6h (by kernel_rfl) rfl (a0a r1 (a0a r2 ⟨fun vals H'=>∃(m n:Nat) (vm vn:Value),vals=[vm,vn]/\PH.le H H'/\Mu H' vm m/\Mu H' vn n/\m<BP 10000/\n<BP 10000/\Nat.gcd m n=Nat.gcd p.natAbs q.natAbs,fun vals H'=>d4l H' (vals.getD 1 undef),⟨p.natAbs,q.natAbs,wx,wy,rfl,PH.le.refl H,nx,ny,hp,hq,rfl⟩,?_⟩))
 rintro vals H'-⟨m,n,vm,vn,rfl,hle,hm,hn,lm,ln,hg⟩
 simp only[cA,nA]
 obtain⟨a,da,ta,va⟩:=id hm
 obtain⟨b,db,tb,vb⟩:=id hn
 have hpos:=tb.pos
 refine a0E rfl rfl db rfl (a0a ⟨_,rfl⟩ (a0f (b:=decide ((b.length:Int)>0)) rfl (fun h=> ?_) (fun h=> ?_)))
 ·have h:=of_decide_eq_true h
  refine a0d (b4x da db ta tb (by omega) (Nat.le_trans (a6t ta va lm) (by omega)) (Nat.le_trans (a6t tb vb ln) (by omega))) rfl ?_
  rintro u H2 ⟨hl2,uq,ur,lq,rfl,_,_,hr⟩
  rw[va,vb]at hr
  have hlt:m%n<n:=Nat.mod_lt _ (by omega)
  refine⟨fun h=>(nomatch h),a0a ⟨_,rfl,Nat.zero_lt_succ _⟩ (a0a ⟨_,rfl,Nat.lt_succ_self _⟩ ⟨⟨n,m%n,vn,ur,rfl,hle.trans hl2,hn.mono hl2,hr,ln,by omega,?_⟩,?_⟩)⟩
  ·rw[<-hg,Nat.gcd_comm n,<-Nat.gcd_rec,Nat.gcd_comm]
  ·show d4l H2 ur<d4l H' vn
   rw[b8G hr,b8G hn];exact hlt
 ·have h:=of_decide_eq_false h
  have hn0:n=0:=by omega
  subst hn0
  rw[Nat.gcd_zero_right]at hg
  rw[hg]at hm
  refine a0a hm.one.2 (a0c rfl ⟨hle,?_⟩)
  show Lw H' (Value.agg ((a0G prog 4).cells++vm.cells)) _
  rw[b8C,b8I false hm];exact b8H hm
end
theorem c9P {l:List Nat}:∀c∈l.map uv,c.oneCell'=true:=fun c hc=>by obtain⟨d,_,rfl⟩:=List.mem_map.1 hc;rfl
theorem b4z:a0G prog 220=nb false 0:=by kernel_rfl
def dgs (n:Nat):List Nat:=[dig n 0,dig n 1,dig n 2,dig n 3,dig n 4,dig n 5,dig n 6,dig n 7]
theorem d4m (n:Nat):Eg (dgs n):=fun d hd=>by
 simp only[dgs,List.mem_cons,List.not_mem_nil,or_false]at hd
 rcases hd with h|h|h|h|h|h|h|h<;>rw[h]<;>exact a6p _ _
theorem d4n (n:Nat):ul (dgs n)=n%M:=by
 have e:dig n 0+18446744073709551616*(dig n 1+18446744073709551616*(dig n 2+18446744073709551616*(dig n 3+18446744073709551616*(dig n 4+18446744073709551616*(dig n 5+18446744073709551616*(dig n 6+18446744073709551616*(dig n 7+18446744073709551616*0)))))))=n%PW 8:=by
  have h:=fun k=>a1x n k
  rw[h 7,h 6,h 5,h 4,h 3,h 2,h 1,h 0,a2X,Nat.mod_one]
  rw[show PW 7=PW 0*18446744073709551616*18446744073709551616*18446744073709551616*18446744073709551616*18446744073709551616*18446744073709551616*18446744073709551616 from by rw[a0C,a0C,a0C,a0C,a0C,a0C,a0C],show PW 6=PW 0*18446744073709551616*18446744073709551616*18446744073709551616*18446744073709551616*18446744073709551616*18446744073709551616 from by rw[a0C,a0C,a0C,a0C,a0C,a0C],show PW 5=PW 0*18446744073709551616*18446744073709551616*18446744073709551616*18446744073709551616*18446744073709551616 from by rw[a0C,a0C,a0C,a0C,a0C],show PW 4=PW 0*18446744073709551616*18446744073709551616*18446744073709551616*18446744073709551616 from by rw[a0C,a0C,a0C,a0C],show PW 3=PW 0*18446744073709551616*18446744073709551616*18446744073709551616 from by rw[a0C,a0C,a0C],show PW 2=PW 0*18446744073709551616*18446744073709551616 from by rw[a0C,a0C],show PW 1=PW 0*18446744073709551616 from by rw[a0C],a2X]
  omega
 rw[a3L,<-e];rfl
end Go.Proofs.YtlmgkkjgdapnpaaGreatDoor
namespace Go.WD
open Go.RX
theorem d8f {n k:Nat} (h:n<PW k) (hk:k<=8):n<M:=by rw[a3L];exact Nat.lt_of_lt_of_le h (b3l hk)
end Go.WD
namespace Go.Proofs.YtlmgkkjgdapnpaaGreatDoor
open Go.Proofs.Tryz
open Go.RowKit Go.RX Go.WD
theorem a8X:prog.underlying 220=some (.struct (fieldsOf prog 220)):=by kernel_rfl
theorem a8Y:1<(fieldsOf prog 220).size:=by decide+kernel
theorem b4A:prog.underlying 218=some (.array 8 57):=by kernel_rfl
theorem a2K:prog.cellsOf 220=9:=by kernel_rfl
theorem c7O (b:Bool) (n:Nat):spl (nb false 0).cells 0 (nb b n).cells.toList=(nb b n).cells:=by
 simp[nb,words,wf,spl,a1e]
theorem c4K (b:Bool):a0p (Value.bool b).cells:=by intro c hc;simp[a5L]at hc;subst hc;rfl
theorem c9Q (b:Bool) (n:Nat):((nb b n).cells.toList.drop 1).take 8=(dgs n).map uv:=rfl
section
variable {H:PH}
theorem c9R {o:Oper} {x:Operand} {b:Nat} (ho:o.op= .fieldAddr 220 x 0) (hx:a0k [x] [.pointer (some ⟨b,0,none⟩)] x= .pointer (some ⟨b,0,none⟩)):Yld prog o [.pointer (some ⟨b,0,none⟩)] (.pointer (some ⟨b,0,none⟩)):=
 a2W (T:=4) (off:=0) ho hx a8X (Nat.lt_trans Nat.zero_lt_one a8Y) (by kernel_rfl) (by kernel_rfl) (by kernel_rfl) (by decide+kernel)
theorem b8J {o:Oper} {x:Operand} {b:Nat} (ho:o.op= .fieldAddr 220 x 1) (hx:a0k [x] [.pointer (some ⟨b,0,none⟩)] x= .pointer (some ⟨b,0,none⟩)):Yld prog o [.pointer (some ⟨b,0,none⟩)] (.pointer (some ⟨b,1,none⟩)):=
 a2W (T:=218) (off:=1) ho hx a8X a8Y (by kernel_rfl) (by kernel_rfl) (by kernel_rfl) (by decide+kernel)
theorem a8Z {o:Oper} {x y:Operand} {b:Nat} {v:Value} {cs:Array Value} (ho:o.op= .store 220 x y) (hx:∀v,a0k [x,y] [.pointer (some ⟨b,0,none⟩),v] x= .pointer (some ⟨b,0,none⟩)) (hy:∀v,a0k [x,y] [.pointer (some ⟨b,0,none⟩),v] y=v) (hH:H b=some (.cells cs 220 (0,0))) (hcs:cs.size=9) (hv:v.cells.size=9) (h1:a0p v.cells):
  Opn prog o [.pointer (some ⟨b,0,none⟩),v] H fun _ H'=>H'=H.put b (.cells (spl cs 0 v.cells.toList) 220 (0,0)):=
 (a3R ho (hx v) (hy v) hH (by kernel_rfl) (by rw[a2K];omega) (by rw[a2K];exact hv) h1).mono fun _ _ h=>h.2
theorem b6j {o:Oper} {x:Operand} {b:Nat} {cs:Array Value} (ho:o.op= .load 220 x) (hx:a0k [x] [.pointer (some ⟨b,0,none⟩)] x= .pointer (some ⟨b,0,none⟩)) (hH:H b=some (.cells cs 220 (0,0))) (hcs:cs.size=9):Rds prog o [.pointer (some ⟨b,0,none⟩)] H (.agg cs):=by
 have:=a4l (P:=prog) (T:=220) ho hx hH (by kernel_rfl) (by rw[a2K];omega) (fun h=>by cases h.symm.trans (show a0F prog 220=true by kernel_rfl))
 rw[show a0F prog 220=true by kernel_rfl,if_pos rfl,a2K,Nat.zero_add,<-hcs,Array.extract_size]at this
 exact this
set_option maxRecDepth 100000 in
theorem a2w (a:Nat):Con prog 103 [wd a] H fun u H'=>PH.le H H'/\Lw H' u (toI a):=by
 have hM:=a2r a
 refine a0b mixed b6f (by kernel_rfl) rfl (a0a ⟨a0r a,a0x a⟩ (a1o (a9U a) rfl ?_))
 simp only[cA,nA]
 generalize toI a=z at hM
 intro b hb
 show den _ _ _ _ _ _ (H.put b (.cells (a0G prog 220).cells 220 (0,0)))
 rw[b4z]
 simp only[cA,nA]
 refine a0n (vs:=[.pointer (some ⟨b,0,none⟩),nm z]) (a8Z rfl (fun _=>rfl) (fun _=>rfl) (PH.put_self _ _ _) (a1z _ _) (a1z _ _) (a3H _ _)) rfl ?_
 rintro u H1 rfl
 rw[PH.put_put,show spl (nb false 0).cells 0 (nm z).cells.toList=(nm z).cells from c7O _ _]
 have l1:PH.le H (H.put b (.cells (nm z).cells 220 (0,0))):=PH.le_put hb _
 have hB:(H.put b (.cells (nm z).cells 220 (0,0))) b=some (.cells (nm z).cells 220 (0,0)):=PH.put_self _ _ _
 generalize H.put b (.cells (nm z).cells 220 (0,0))=H2 at l1 hB
 refine⟨fun h=>(nomatch h),?_⟩
 simp only[cA,nA]
 refine a0l ((c9R rfl rfl).rds _) rfl (a0l (a9P (w:= .bool (decide (z<0))) rfl rfl hB (by kernel_rfl) (by kernel_rfl) (by kernel_rfl) (by show 0+1<=9;omega) rfl) rfl ?_)
 simp only[cA,nA]
 refine a0l ((b8J rfl rfl).rds _) rfl (a0l ((a4m (vs:=[.pointer (some ⟨b,1,none⟩)]) rfl rfl b4A a2n).rds _) rfl ?_)
 simp only[cA,nA]
 obtain⟨ti,i1,i2,i3,i4⟩:=a6K
 refine a0n (vs:=[]) (b1i rfl a2o i1) rfl ?_
 rintro v8 H3 ⟨g,hg,rfl,rfl⟩
 have l3:PH.le H2 (H2.put g (.cells #[] 57 (0,0))):=PH.le_put hg _
 simp only[cA,nA]
 have hs:Sl (H2.put g (.cells #[] 57 (0,0))) 1 (.slice (some ⟨b,1,none⟩) 8 8) 8 ((dgs z.natAbs).map uv):=⟨rfl,_,8,rfl,by omega,by simp[maxLen],.inr ⟨b,1,_,_,_,rfl,l3 _ _ hB,c9Q _ _⟩⟩
 refine⟨fun _=>l3,a0n (vs:=[.slice (some ⟨g,0,none⟩) 0 0,.slice (some ⟨b,1,none⟩) 8 8]) (b5Z rfl rfl rfl a2o i1 i2 i3 rfl hs (by omega) (by simp[maxLen]) (by rw[i4];omega)) rfl ?_⟩
 rintro v9 H4 ⟨l4,ho⟩
 have hE:Es H4 v9 (dgs z.natAbs):=⟨ho.sl,d4m _⟩
 simp only[cA,nA]
 refine⟨fun _=>l4,a0d (a1p (decide (z<0)) hE) rfl ?_⟩
 rintro u H5 ⟨rfl,hu⟩
 rw[d4n,Nat.mod_eq_of_lt hM,c9J]at hu
 have hr:=hu.rq
 obtain⟨w',rfl,hw'⟩:=hu
 exact⟨fun _=>PH.le.refl _,a0a hr (a0c rfl ⟨l1.trans (l3.trans l4),w',rfl,hw'⟩)⟩
theorem a7G (n:Int) (h0: -9223372036854775808<=n) (h1:n<9223372036854775808):Con prog 99 [.int .i64 n] H fun u H'=>PH.le H H'/\Lw H' u n:=by
 refine a0b mixed c4y (by kernel_rfl) rfl (a1o (b4o n h0 h1) rfl (a0d (a2w (rs n)) rfl ?_))
 rintro u H1 ⟨l1,hu⟩
 rw[a3T (fits_small h0 h1)]at hu
 have hr:=hu.rq
 obtain⟨w',rfl,hw'⟩:=hu
 exact⟨fun h=>(nomatch h),a0a hr (a0c rfl ⟨l1,w',rfl,hw'⟩)⟩
theorem a7H (n:Nat):(words n).toList=(List.range 8).map fun j=>uv (dig n j):=rfl
theorem b6k {l:List Nat} (h:Eg l) (hl:l.length<=8):l.map uv++(words 0).toList.drop l.length=(words (ul l)).toList:=by
 rw[a7H,a7H]
 apply List.ext_getElem?
 intro j
 rcases Nat.lt_or_ge j l.length with hj|hj
 ·rw[List.getElem?_append_left (by simpa using hj),List.getElem?_map,List.getElem?_map,List.getElem?_range (by omega),b8n hj]
  simp only[Option.map_some]
  rw[b1v h]
 ·rw[List.getElem?_append_right (by simpa using hj),List.length_map,List.getElem?_drop,show l.length+(j-l.length)=j from by omega,List.getElem?_map,List.getElem?_map]
  rcases Nat.lt_or_ge j 8 with h8|h8
  ·rw[List.getElem?_range h8]
   simp only[Option.map_some]
   rw[b1v h,a8U hj,a5h]
  ·rw[List.getElem?_eq_none (by simpa using h8)];rfl
set_option maxRecDepth 100000 in
theorem a7I {v:Value} {z:Int} (hx:Lw H v z):Con prog 106 [v] H fun u H'=>PH.le H H'/\u=b2I z:=by
 have hrq:=hx.rq
 obtain⟨w,rfl,l,dl,tl,vl'⟩:=hx
 have hHM:=c3o
 refine a0b mixed c4z (by kernel_rfl) rfl (a0a hrq (a0E rfl rfl dl rfl (a0a ⟨_,rfl⟩ (a0f (b:=decide ((l.length:Int)>8)) rfl (fun h=> ?_) (fun h=> ?_)))))
 ·have h:=of_decide_eq_true h
  have hge:M<=z.natAbs:=by
   rcases Nat.lt_or_ge z.natAbs M with h1|h1
   ·have:=tl 8 (by rw[vl',<-a3L];exact h1)
    omega
   ·exact h1
  refine a0c ?_ ⟨PH.le.refl _,rfl⟩
  rw[a9Z (by have:=a8S;omega)]
  simp only[rxs,a4w,a3U]
 ·have h:=of_decide_eq_false h
  have hlM:z.natAbs<M:=by rw[<-vl'];exact d8f (a6B dl.2) (by omega)
  refine a0a ⟨rfl,c4K _⟩ ?_
  simp only[cA,nA]
  intro b hb
  show den _ _ _ _ _ _ (H.put b (.cells (a0G prog 220).cells 220 (0,0)))
  rw[b4z]
  simp only[cA,nA]
  obtain⟨V,hV⟩:∃V,V=nb (decide (z<0)) 0:=⟨_,rfl⟩
  have hV9:V.cells.size=9:=by rw[hV];exact a1z _ _
  have hV1:a0p V.cells:=by rw[hV];exact a3H _ _
  have harg:[Value.pointer (some ⟨b,0,none⟩),Value.agg ((Value.bool (decide (z<0))).cells++(a0G prog 218).cells)]=[Value.pointer (some ⟨b,0,none⟩),V]:=by
   rw[a8T,hV];rfl
  have hop:=a8Z (v:=V) b1u (fun _=>rfl) (fun _=>rfl) (PH.put_self H b (.cells (nb false 0).cells 220 (0,0))) (a1z _ _) hV9 hV1
  refine @a0n _ _ _ _ _ _ _ _ _ _ _ _ _ _ hop ?_ ?_
  ·simp only[List.map_cons,List.map_nil]
   exact harg
  rintro u H1 rfl
  rw[PH.put_put,hV,c7O]
  have l1:PH.le H (H.put b (.cells (nb (decide (z<0)) 0).cells 220 (0,0))):=PH.le_put hb _
  refine⟨fun h=>(nomatch h),?_⟩
  simp only[cA,nA]
  refine a0l ((b8J rfl rfl).rds _) rfl (a0l ((a4m (vs:=[.pointer (some ⟨b,1,none⟩)]) rfl rfl b4A a2n).rds _) rfl ?_)
  simp only[cA,nA]
  obtain⟨ti,i1,i2,i3,i4⟩:=a6K
  refine a0n (vs:=[.slice (some ⟨b,1,none⟩) 8 8,w]) (c4d rfl rfl rfl a2o i1 i3 (PH.put_self _ _ _) (dl.mono l1).1 c9P (by omega) (by show 1+l.length<=9;omega)) rfl ?_
  rintro u H2 rfl
  rw[PH.put_put]
  have ecs:((nb (decide (z<0)) 0).cells.toList.take 1++l.map uv++(nb (decide (z<0)) 0).cells.toList.drop (1+l.length)).toArray=(nm z).cells:=by
   have e1:∀n,(nb (decide (z<0)) n).cells.toList= .bool (decide (z<0))::(words n).toList:=fun n=>by simp[nb,a1e]
   have e2:=b6k dl.2 (by omega)
   rw[vl']at e2
   rw[<-Array.toList_inj,e1 0]
   show[Value.bool (decide (z<0))]++l.map uv++(Value.bool (decide (z<0))::(words 0).toList).drop (1+l.length)=(nb (decide (z<0)) z.natAbs).cells.toList
   rw[e1,Nat.add_comm 1,List.drop_succ_cons,List.append_assoc,e2]
   rfl
  rw[ecs]
  have l2:PH.le H (H.put b (.cells (nm z).cells 220 (0,0))):=PH.le_put hb _
  refine⟨fun h=>(nomatch h),?_⟩
  simp only[cA,nA]
  refine a0l (b6j rfl rfl (PH.put_self _ _ _) (a1z _ _)) rfl (a1o (b4m z hlM) rfl ?_)
  obtain⟨n,e,ht⟩:=a5l z
  rw[ht]
  exact a0a ⟨_,rfl,Nat.zero_lt_succ _⟩ (a0a ⟨_,rfl,Nat.lt_succ_self _⟩ (a0a ⟨a0r n,a0x n⟩ (a0c rfl ⟨l2,rfl⟩)))
end
end Go.Proofs.YtlmgkkjgdapnpaaGreatDoor

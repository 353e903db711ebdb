/- Words to the base 2^64: plain. -/
import Derived.Test.YtkcjbfoejpfbbaaGreatDoorRfB
import Derived.Test.YtkcjbfoejpfbbaaGreatDoorRfF
import Derived.Test.YtkcjbfoejpfbbaaGreatDoorLgT
import Derived.Test.YtkcjbfoejpfbbaaGreatDoorWdR
import Derived.Test.YtkcjbfoejpfbbaaGreatDoorRfM
import Derived.Test.YtkcjbfoejpfbbaaGreatDoorRxY
namespace Go.WD
open Go.RX
theorem PW_lt_iff {i j:Nat}:PW i<PW j↔i<j:=by
 constructor
 ·intro h;rcases Nat.lt_or_ge i j with h1|h1
  ·exact h1
  ·have:=b2l h1;omega
 ·intro h
  have h1:=b2l (show i+1<=j from h)
  have h2:=a1v i
  rw[a0o]at h1;omega
def ul:List Nat->Nat
 |[]=>0
 |d::l=>d+18446744073709551616*ul l
def Eg (l:List Nat):Prop:=∀d∈l,d<18446744073709551616
theorem Eg.one {d:Nat} (h:d<18446744073709551616):Eg [d]:=fun e he=>by rw[List.mem_singleton]at he;omega
theorem Eg.take {l:List Nat} (h:Eg l) (k:Nat):Eg (l.take k):=fun d hd=>h d (List.mem_of_mem_take hd)
theorem Eg.set {l:List Nat} (h:Eg l) (k:Nat) {x:Nat} (hx:x<18446744073709551616):Eg (l.set k x):=fun d hd=>by
 rcases List.mem_or_eq_of_mem_set hd with h1|h1
 ·exact h d h1
 ·omega
theorem Eg.zeros (n:Nat):Eg (List.replicate n 0):=fun d hd=>by rw[List.mem_replicate]at hd;omega
theorem Eg.at {l:List Nat} (h:Eg l) (k:Nat):l.getD k 0<18446744073709551616:=by
 rw[List.getD_eq_getElem?_getD]
 cases e:l[k]? with
 |none=>simp
 |some d=>exact h d (List.mem_of_getElem? e)
theorem a6Z:∀(a b:List Nat),ul (a++b)=ul a+PW a.length*ul b
 |[],b=>by simp[ul,a2K]
 |d::a,b=>by
  rw[List.cons_append,ul,ul,a6Z a b,List.length_cons,a0o,Nat.mul_add,<-Nat.add_assoc,<-Nat.mul_assoc,Nat.mul_comm (PW a.length)]
theorem c2o (d:Nat):ul [d]=d:=by simp[ul]
theorem a5z:∀{l:List Nat},Eg l->ul l<PW l.length
 |[],_=>by simp[ul,a2K]
 |d::l,h=>by
  have h1:=a5z (l:=l) fun e he=>h e (by simp[he])
  have h2:=h d (by simp)
  rw[ul,List.length_cons,a0o]
  omega
theorem a2N:∀n,ul (List.replicate n 0)=0
 |0=>rfl
 |n+1=>by rw[List.replicate_succ,ul,a2N n]
theorem a1G {l:List Nat} {k:Nat} (h:k<l.length):ul (l.take (k+1))=ul (l.take k)+PW k*l.getD k 0:=by
 rw[b6j h,a6Z,c2o,List.length_take,Nat.min_eq_left (by omega)]
theorem a5b {l:List Nat} {k:Nat} (h:k<l.length):ul (l.drop k)=l.getD k 0+18446744073709551616*ul (l.drop (k+1)):=by
 rw[a9m h];rfl
theorem a9r (l:List Nat) {k:Nat} (h:k<=l.length):ul l=ul (l.take k)+PW k*ul (l.drop k):=by
 have:=a6Z (l.take k) (l.drop k)
 rwa[List.take_append_drop,List.length_take,Nat.min_eq_left h]at this
theorem a3H:∀{l:List Nat} {k:Nat} (x:Nat),k<l.length->ul (l.set k x)+PW k*l.getD k 0=ul l+PW k*x
 |[],k,x,h=>by simp at h
 |d::l,0,x,_=>by simp[ul,a2K];omega
 |d::l,k+1,x,h=>by
  have ih:=a3H (l:=l) (k:=k) x (by simpa using h)
  have e:(d::l).getD (k+1) 0=l.getD k 0:=rfl
  rw[List.set_cons_succ,ul,ul,e,a0o,Nat.mul_comm (PW k),Nat.mul_assoc,Nat.mul_assoc]
  have h1:18446744073709551616*ul (l.set k x)+18446744073709551616*(PW k*l.getD k 0)=18446744073709551616*ul l+18446744073709551616*(PW k*x):=by rw[<-Nat.mul_add,ih,Nat.mul_add]
  omega
def Um (l:List Nat):Prop:=∀k,ul l<PW k->l.length<=k
theorem Um.nil:Um []:=fun _ _=>Nat.zero_le _
theorem d6s {l:List Nat} {n:Nat} (hl:l.length=n+1) (h:l.getD n 0≠0):PW n<=ul l:=by
 have h1:=a1G (l:=l) (k:=n) (by omega)
 rw[List.take_of_length_le (by omega)]at h1
 have:=Nat.mul_le_mul_left (PW n) (show 1<=l.getD n 0 by omega)
 omega
theorem Um.of {l:List Nat} {n:Nat} (hl:l.length=n+1) (h:l.getD n 0≠0):Um l:=fun k hk=>by
 have:=PW_lt_iff.1 (Nat.lt_of_le_of_lt (d6s hl h) hk)
 omega
theorem Um.ge {l:List Nat} (h:Um l) {n:Nat} (hl:l.length=n+1):PW n<=ul l:=by
 rcases Nat.lt_or_ge (ul l) (PW n)with h1|h1
 ·have:=h n h1;omega
 ·exact h1
theorem Um.len_le {a b:List Nat} (ha:Um a) (hb:Eg b) (h:ul a<=ul b):a.length<=b.length:=ha _ (Nat.lt_of_le_of_lt h (a5z hb))
theorem Um.lt_of_len {a b:List Nat} (ha:Eg a) (hb:Um b) (h:a.length<b.length):ul a<ul b:=by
 obtain⟨n,hn⟩:∃n,b.length=n+1:=⟨b.length-1,by omega⟩
 exact Nat.lt_of_lt_of_le (a5z ha) (Nat.le_trans (b2l (by omega)) (hb.ge hn))
theorem Um.pos {l:List Nat} (h:Um l):0<l.length↔0<ul l:=by
 constructor
 ·intro hl
  obtain⟨n,hn⟩:∃n,l.length=n+1:=⟨l.length-1,by omega⟩
  exact Nat.lt_of_lt_of_le (a1v n) (h.ge hn)
 ·intro hv
  cases l with
  |nil=>simp[ul]at hv
  |cons d l=>simp
theorem b5l {a b:List Nat} {i:Nat} (ha:Eg a) (hb:Eg b) (hia:i<a.length) (hib:i<b.length) (hd:a.drop (i+1)=b.drop (i+1)) (h:a.getD i 0<b.getD i 0):ul a<ul b:=by
 have e1:=a9r a (show i+1<=a.length by omega)
 have e2:=a9r b (show i+1<=b.length by omega)
 have f1:=a1G hia
 have f2:=a1G hib
 have g1:=a5z (ha.take i)
 rw[List.length_take,Nat.min_eq_left (by omega)]at g1
 have h2:=Nat.mul_le_mul_left (PW i) (show a.getD i 0+1<=b.getD i 0 from h)
 rw[Nat.mul_add]at h2
 rw[hd]at e1
 omega
end Go.WD
/- Slices of words in memory. -/
namespace Go.Proofs.YtkcjbfoejpfbbaaGreatDoor
open Go.Proofs.Tryz
open Go.RowKit Go.RX Go.WD
def uv (d:Nat):Value:= .int .u64 (d:Nat)
theorem d4p (f:Nat->Value) (d:Nat):Instr.fill (fun j=>some (j*1,1)) ((Array.range (1*1)).map f) [(0,uv d)]=some #[uv d]:=by
 rw[d3w]
 simp[Instr.fill,uv,a9V]
def Es (H:PH) (v:Value) (l:List Nat):Prop:=Sl H 1 v l.length (l.map uv)/\Eg l
def Eo (H0 H:PH) (v:Value) (l:List Nat):Prop:=OwS H0 H 34 1 v l.length (l.map uv)/\Eg l
theorem Es.mono {H H':PH} {v:Value} {l:List Nat} (h:Es H v l) (hl:PH.le H H'):Es H' v l:=⟨h.1.mono hl,h.2⟩
theorem Eo.mono {H0 H H':PH} {v:Value} {l:List Nat} (h:Eo H0 H v l) (hl:PH.le H H'):Eo H0 H' v l:=⟨h.1.mono hl,h.2⟩
theorem Eo.es {H0 H:PH} {v:Value} {l:List Nat} (h:Eo H0 H v l):Es H v l:=⟨h.1.sl,h.2⟩
def Mu (H:PH) (v:Value) (n:Nat):Prop:=∃l,Es H v l/\Um l/\ul l=n
theorem Mu.mono {H H':PH} {v:Value} {n:Nat} (h:Mu H v n) (hl:PH.le H H'):Mu H' v n:=by
 obtain⟨l,h1,h2⟩:=h;exact⟨l,h1.mono hl,h2⟩
theorem Es.cells {H:PH} {v:Value} {l:List Nat} (h:Es H v l):v.cells= #[v]:=by
 obtain⟨⟨_,a,c,h2,_⟩,_⟩:=h;rw[h2];rfl
theorem Es.one {H:PH} {v:Value} {l:List Nat} (h:Es H v l):v.cells.size=1/\a0u v.cells:=by
 rw[h.cells]
 obtain⟨⟨_,a,c,h2,_⟩,_⟩:=h
 refine⟨rfl,fun c hc=> ?_⟩
 simp at hc;rw[hc,h2];rfl
theorem d4q {l:List Nat} {i:Nat} (h:i<l.length):((l.map uv).drop (i*1)).take 1=[uv (l.getD i 0)]:=by
 rw[Nat.mul_one,<-List.map_drop,a9m h];rfl
theorem a3l:prog.cellsOf 34=1:=by kernel_rfl
theorem a2O:a1V prog 34=true:=by kernel_rfl
theorem d0T:a0I prog 34=false:=by kernel_rfl
theorem a2f:prog.underlying 145=some (.slice 34):=by kernel_rfl
theorem a5P:∃i,prog.info? 34=some i/\i.zero=some (.int .u64 0)/\i.size=1/\i.bytes=8:=by
 refine⟨(prog.info? 34).getD default,by kernel_rfl,by kernel_rfl,by kernel_rfl,by kernel_rfl⟩
section
variable {G:Value->PH->Prop} {nx:List (List Value->PH->Prop)} {ρ:List Value} {H H0:PH} {o o1 o2:Oper} {x y x2 y2:Operand} {id i id2 i2:Nat} {args args2:List SV} {t:Tree} {v:Value} {l:List Nat}
theorem a0t (ho:o.op= .call ⟨.builtin .len,#[x],#[145]⟩) (hx:a0g [x] [v] x=v) (h:Es H v l) (ha:args.map (D prog ρ)=[v]) (n:den prog G t nx (ρ++[iv l.length]) H):den prog G (.prim id i o args t) nx ρ H:=
 a0i ((c6l ho hx a2f h.1).rds H) ha n
theorem a1k {k:IntKind} {j:Nat} (ho1:o1.op= .indexAddr 145 x y) (ho2:o2.op= .load 34 x2) (hx:a0g [x,y] [v,.int k (j:Nat)] x=v) (hy:a0g [x,y] [v,.int k (j:Nat)] y= .int k (j:Nat)) (hx2:∀p,a0g [x2] [p] x2=p) (h:Es H v l) (hj:j<l.length)
  (ha:args.map (D prog ρ)=[v,.int k (j:Nat)]) (ha2:∀p,args2.map (D prog (ρ++[p]))=[p]) (n:∀p,den prog G t nx (ρ++[p]++[uv (l.getD j 0)]) H):den prog G (.prim id i o1 args (.prim id2 i2 o2 args2 t)) nx ρ H:=by
 obtain⟨b,q,cs,T',fz,h1,h2,h3,h4⟩:=d1X (P:=prog) ho1 hx hy a2f a2O a3l Nat.zero_lt_one h.1 hj
 rw[d4q hj]at h4
 exact a0i (h1.rds H) ha (a0i (a8M ho2 (hx2 _) h2 a2O d0T a3l h3 h4) (ha2 _) (n _))
theorem a2g {k:IntKind} {j d:Nat} {pf:Bool} (ho1:o1.op= .indexAddr 145 x y) (ho2:o2.op= .store 34 x2 y2) (hx:a0g [x,y] [v,.int k (j:Nat)] x=v) (hy:a0g [x,y] [v,.int k (j:Nat)] y= .int k (j:Nat)) (hx2:∀p,a0g [x2,y2] [p,uv d] x2=p) (hy2:∀p,a0g [x2,y2] [p,uv d] y2=uv d)
  (hle:PH.le H0 H) (h:Eo H0 H v l) (hj:j<l.length) (hd:d<18446744073709551616) (ha:args.map (D prog ρ)=[v,.int k (j:Nat)]) (ha2:∀p,args2.map (D prog (ρ++[p]))=[p,uv d]) (hpf:pf=false)
  (n:∀p u H',PH.le H0 H'->Eo H0 H' v (l.set j d)->(∃g ob,H0 g=none/\H'=H.put g ob)->den prog G t nx (ρ++[p]++[u]) H'):den prog G (.prim id i o1 args (.eff pf id2 i2 o2 args2 t)) nx ρ H:=by
 obtain⟨⟨hlen,hv⟩,hD⟩:=h
 rcases hv with⟨_,h0⟩|⟨g,cap,cur,rfl,hg0,hg,hnc,hcm,hcs,htk⟩
 ·omega
 rw[Nat.mul_one]at hcs htk
 have hix:=a3u (P:=prog) (m:=(j:Int)) (n:=l.length) ho1 hx hy a2f a2O (by omega) (by omega)
 rw[Int.toNat_natCast,a3l,Nat.zero_add,Nat.mul_one]at hix
 refine a0i (hix.rds H) ha (a0s (a2X ho2 (hx2 _) (hy2 _) hg a2O (by rw[a3l];omega) (by rw[a3l];rfl) (b7V _ _)) (ha2 _) ?_)
 rintro u H' ⟨rfl,rfl⟩
 subst hpf
 have hcl:(uv d).cells.toList=[uv d]:=rfl
 rw[hcl]
 refine⟨fun h=>(nomatch h),n _ _ _ ?_ ⟨⟨by simp,.inr ⟨g,cap,_,by rw[List.length_set],hg0,PH.put_self _ _ _,by rw[List.length_set];exact hnc,hcm,?_,?_⟩⟩,hD.set j hd⟩ ⟨g,_,hg0,rfl⟩⟩
 ·intro k ob hk
  rw[PH.put_ne _ _ (fun e=>by rw[e,hg0]at hk;cases hk)]
  exact hle _ _ hk
 ·show(cur.setIfInBounds j (uv d)).size=_
  rw[Array.size_setIfInBounds,hcs,Nat.mul_one]
 ·show(cur.setIfInBounds j (uv d)).toList.take _=_
  rw[Array.toList_setIfInBounds,Nat.mul_one,List.length_set,List.take_set,htk,List.map_set]
theorem c7m {g n:Nat} {cs:Array Value} {l:List Nat} (hg:H g=none) (hl:l.length=n) (hn:n<=maxLen) (hc:cs.toList=l.map uv) (hD:Eg l):Eo H (H.put g (.cells cs 34 (0,0))) (.slice (some ⟨g,0,none⟩) n n) l:=by
 have hs:cs.size=n:=by rw[<-Array.length_toList,hc,List.length_map,hl]
 refine⟨⟨by simp,.inr ⟨g,n,cs,by rw[hl],hg,PH.put_self _ _ _,by omega,hn,by omega,?_⟩⟩,hD⟩
 rw[hc,List.take_of_length_le (by simp)]
theorem a3m {kl kc:IntKind} {pf:Bool} {m:Nat} (ho:o.op= .makeSlice 145 x y) (hx:a0g [x,y] [.int kl (m:Nat),.int kc (m:Nat)] x= .int kl (m:Nat)) (hy:a0g [x,y] [.int kl (m:Nat),.int kc (m:Nat)] y= .int kc (m:Nat)) (hm:m<=1000000) (ha:args.map (D prog ρ)=[.int kl (m:Nat),.int kc (m:Nat)])
  (n:∀v H',PH.le H H'->Eo H H' v (List.replicate m 0)->den prog G t nx (ρ++[v]) H'):den prog G (.eff pf id i o args t) nx ρ H:=by
 obtain⟨ti,h1,h2,h3,h4⟩:=a5P
 refine a0s (b1S ho hx hy a2f h1 h2 h3 (by rw[h4];omega) (by simp only[maxLen];omega)) ha ?_
 rintro v H' ⟨g,hg,rfl,rfl⟩
 refine⟨fun _=>PH.le_put hg _,n _ _ (PH.le_put hg _) (c7m hg (by simp) (by simp only[maxLen];omega) ?_ (Eg.zeros m))⟩
 rw[Nat.mul_one]
 show(madeCells #[.int .u64 0] m).toList=_
 apply List.ext_getElem?
 intro j
 rw[List.getElem?_map,List.getElem?_replicate]
 simp only[madeCells,Array.toList_map,List.getElem?_map,Array.toList_range]
 by_cases hj:j<m
 ·simp[hj,Nat.mod_one,uv]
 ·simp[hj]
theorem a7a {d:Nat} {pf:Bool} (ho:o.op= .buildSlice 145 1 #[(0,x)]) (hx:a0g [x] [uv d] x=uv d) (hd:d<18446744073709551616) (ha:args.map (D prog ρ)=[uv d])
  (n:∀v H',PH.le H H'->Eo H H' v [d]->den prog G t nx (ρ++[v]) H'):den prog G (.eff pf id i o args t) nx ρ H:=by
 obtain⟨ti,h1,h2,h3,h4⟩:=a5P
 refine a0s (b3c (cells:= #[uv d]) ho a2f h1 h2 (by rw[h3];decide) (by rw[h3];decide) (by rw[h3];simp only[List.map_cons,List.map_nil,hx];exact d4p _ d)) ha ?_
 rintro v H' ⟨g,hg,rfl,rfl⟩
 exact⟨fun _=>PH.le_put hg _,n _ _ (PH.le_put hg _) (c7m hg rfl (by simp only[maxLen];omega) rfl (Eg.one hd))⟩
end
end Go.Proofs.YtkcjbfoejpfbbaaGreatDoor
/- wide/long.go: words. -/
namespace Go.Proofs.YtkcjbfoejpfbbaaGreatDoor
open Go.Proofs.Tryz
open Go.RowKit Go.RX Go.WD
theorem Es.len {H:PH} {v:Value} {l:List Nat} (h:Es H v l):l.length<9223372036854775808:=by
 have:=h.1.len_le;simp only[maxLen]at this;omega
theorem Es.take {H:PH} {v:Value} {l:List Nat} {o:Oper} {x hi:Operand} {i:Nat} {k:IntKind} {vs:List Value} (h:Es H v l) (ho:o.op= .slice 145 x none (some hi) none) (hx:a0g [x,hi] vs x=v) (hl:a0g [x,hi] vs hi= .int k (i:Nat)) (h1:i<=l.length):∃u,Yld prog o vs u/\Es H u (l.take i):=by
 obtain⟨u,h2,h3⟩:=b7n (P:=prog) ho hx hl a2f a2O h.1 h1
 refine⟨u,h2,?_,h.2.take i⟩
 rw[List.length_take,Nat.min_eq_left h1,List.map_take]
 rwa[Nat.mul_one]at h3
theorem a1c (l:List Nat) (k:Nat):ul (l.take (k+1))=ul (l.take k)+PW k*l.getD k 0:=by
 rcases Nat.lt_or_ge k l.length with h|h
 ·exact a1G h
 ·rw[List.take_of_length_le (by omega),List.take_of_length_le h,a7X h,Nat.mul_zero,Nat.add_zero]
theorem Mu.one {H:PH} {v:Value} {n:Nat} (h:Mu H v n):v.cells= #[v]/\v.cells.size=1/\a0u v.cells:=by
 obtain⟨l,h1,_⟩:=h;exact⟨h1.cells,h1.one⟩
def Lw (H:PH) (v:Value) (z:Int):Prop:=∃w,v= .agg #[.bool (decide (z<0)),w]/\Mu H w z.natAbs
theorem Lw.mono {H H':PH} {v:Value} {z:Int} (h:Lw H v z) (hl:PH.le H H'):Lw H' v z:=by
 obtain⟨w,h1,h2⟩:=h;exact⟨w,h1,h2.mono hl⟩
theorem Lw.rq {H:PH} {v:Value} {z:Int} (h:Lw H v z):v.cells.size=2/\a0u v.cells:=by
 obtain⟨w,rfl,hw⟩:=h
 refine⟨rfl,fun c hc=> ?_⟩
 have h1:=hw.one.2.2
 rw[hw.one.1]at h1
 rw[show(Value.agg #[.bool (decide (z<0)),w]).cells= #[.bool (decide (z<0)),w]from rfl]at hc
 simp only[List.mem_cons,List.not_mem_nil,or_false]at hc
 rcases hc with h2|h2
 ·rw[h2];rfl
 ·rw[h2];exact h1 w (by simp)
section
variable {H:PH} {v:Value} {l:List Nat}
theorem a7b {n:Nat} (hn:n<=l.length) (hz:∀k,n<=k->l.getD k 0=0):ul (l.take n)=ul l:=by
 obtain⟨d,hd⟩:=Nat.exists_eq_add_of_le hn
 induction d generalizing n with
 |zero=>rw[List.take_of_length_le (by omega)]
 |succ d ih=>
  have:=ih (n:=n+1) (by omega) (fun k hk=>hz k (by omega)) (by omega)
  rw[a1G (by omega),hz n (Nat.le_refl n),Nat.mul_zero,Nat.add_zero]at this
  exact this
set_option maxRecDepth 100000 in
theorem a1o (b:Bool) (h:Es H v l):Con prog 167 [.bool b,v] H fun u H'=>H'=H/\Lw H u (sn b (ul l)):=by
 have hlen:=h.len
 refine a0d a0r b4G (by kernel_rfl) rfl (a0t rfl rfl h rfl ⟨fun vals H'=>∃n:Nat,vals=[iv n]/\H'=H/\n<=l.length/\∀k,n<=k->l.getD k 0=0,fun vals _=>(intOf (vals.getD 0 undef)).toNat,⟨l.length,rfl,rfl,Nat.le_refl _,fun k hk=>a7X hk⟩,?_⟩)
 rintro vals H'-⟨n,rfl,rfl,hn,hz⟩
 simp only[cA,nA]
 refine⟨fun vs H1=>H1=H'/\vs=[.bool (decide (0<n/\l.getD (n-1) 0=0))],a0a ⟨_,rfl⟩ (a0e (b:=decide ((n:Int)>0)) rfl (fun hb=> ?_) (fun hb=> ?_)),?_⟩
 ·have hb:=of_decide_eq_true hb
  have e1:IntKind.i64.wrap ((n:Int)-1)=((n-1:Nat):Int):=d3y (by omega) (by omega)
  refine a1k (k:= .i64) (j:=n-1) rfl rfl rfl rfl (fun _=>rfl) h (by omega) (by simp only[rxs,iv,e1]) (fun _=>rfl) fun p=>a0a ⟨_,rfl⟩ ⟨rfl,?_⟩
  simp only[rxs,uv]
  congr 2
  rw[Bool.eq_iff_iff]
  simp only[beq_iff_eq,decide_eq_true_eq]
  omega
 ·have hb:=of_decide_eq_false hb
  refine⟨rfl,?_⟩
  simp only[rxs]
  congr 2
  rw[eq_comm,decide_eq_false_iff_not]
  omega
 rintro vs H1-⟨rfl,rfl⟩
 simp only[cA,nA]
 refine a0a ⟨_,rfl⟩ (a0e rfl (fun hb=> ?_) (fun hb=> ?_))
 ·have hb:=of_decide_eq_true hb
  have e1:IntKind.i64.wrap ((n:Int)-1)=((n-1:Nat):Int):=d3y (by omega) (by omega)
  refine a0a ⟨_,rfl⟩ ⟨⟨n-1,?_,rfl,by omega,fun k hk=> ?_⟩,?_⟩
  ·simp only[rxs,iv,e1]
  ·rcases Nat.eq_or_lt_of_le hk with e|e
   ·rw[<-e];exact hb.2
   ·exact hz k (by omega)
  ·simp only[rxs,iv,e1]
   omega
 ·have hb:=of_decide_eq_false hb
  have htm:Um (l.take n):=by
   rcases Nat.eq_zero_or_pos n with e|e
   ·subst e;exact Um.nil
   ·refine Um.of (n:=n-1) (by rw[List.length_take];omega) ?_
    rw[List.getD_eq_getElem?_getD,List.getElem?_take,if_pos (by omega),<-List.getD_eq_getElem?_getD]
    exact fun h0=>hb ⟨e,h0⟩
  have hpos:=htm.pos
  rw[a7b hn hz,List.length_take,Nat.min_eq_left hn]at hpos
  obtain⟨u,hu,hd⟩:=Es.take (vs:=[v,iv n]) (k:= .i64) (i:=n) h b0Z rfl rfl hn
  have hMu:Mu H1 u (ul l):=⟨l.take n,hd,htm,a7b hn hz⟩
  refine a0a ⟨_,rfl⟩ (a0e rfl (fun hb=> ?_) (fun hb=> ?_))
  ·subst hb
   refine a0a ⟨_,rfl⟩ (a0i (hu.rds _) rfl (a0a hd.one (a0f rfl ⟨rfl,u,?_,?_⟩)))
   ·simp only[rxs,a2S,hd.cells,iv,a4K]
    show Value.agg #[.bool (decide ((n:Int)>0)),u]=_
    congr 4
    rw[decide_eq_decide]
    show _↔ -(ul l:Int)<0
    omega
   ·show Mu _ u (-(ul l:Int)).natAbs
    rw[Int.natAbs_neg,Int.natAbs_natCast];exact hMu
  ·subst hb
   refine a0i (hu.rds _) rfl (a0a hd.one (a0f rfl ⟨rfl,u,?_,?_⟩))
   ·simp only[rxs,a2S,hd.cells,a4K]
    show Value.agg #[.bool false,u]=_
    congr 4
   ·exact hMu
theorem d0U {a b:List Nat} (ha:Eg a) (hb:Eg b) (ta:Um a) (tb:Um b) (h:a.length≠b.length):((a.length:Int)-b.length<0↔ul a<ul b)/\((a.length:Int)-b.length=0↔ul a=ul b):=by
 rcases Nat.lt_or_gt_of_ne h with h1|h1
 ·have:=Um.lt_of_len ha tb h1;omega
 ·have:=Um.lt_of_len hb ta h1;omega
set_option maxRecDepth 100000 in
theorem b5m {a b:List Nat} {va vb:Value} (ha:Es H va a) (hb:Es H vb b) (ta:Um a) (tb:Um b):Con prog 214 [va,vb] H fun u H'=>H'=H/\∃c:Int,u= .int .i64 c/\(c<0↔ul a<ul b)/\(c=0↔ul a=ul b):=by
 have hla:=ha.len
 have hlb:=hb.len
 refine a0d a0r c1w (by kernel_rfl) rfl (a0t rfl rfl ha rfl (a0t rfl rfl hb rfl (a0a ⟨_,rfl⟩ (a0a ⟨_,rfl⟩ (a0e (b:=((a.length:Int) !=(b.length:Int))) rfl (fun h=> ?_) (fun h=> ?_))))))
 ·have h:a.length≠b.length:=by have:=bne_iff_ne.1 h;omega
  have e1:IntKind.i64.wrap ((a.length:Int)-(b.length:Int))=(a.length:Int)-(b.length:Int):=c4V (by omega) (by omega)
  refine a0t rfl rfl ha rfl (a0t rfl rfl hb rfl (a0a ⟨_,rfl⟩ (a0a ⟨_,rfl⟩ (a0f rfl ⟨rfl,_,?_,d0U ha.2 hb.2 ta tb h⟩))))
  simp only[rxs,iv,a2S,e1]
 have h:a.length=b.length:=by have:=bne_eq_false_iff_eq.1 h;omega
 have e1:IntKind.i64.wrap ((a.length:Int)-1)=(a.length:Int)-1:=c4V (by omega) (by omega)
 refine a0t rfl rfl ha rfl (a0a ⟨_,rfl⟩ ⟨fun vals H'=>∃i:Nat,vals=[.int .i64 0,.int .i64 ((i:Int)-1)]/\H'=H/\i<=a.length/\a.drop i=b.drop i,fun vals _=>(intOf (vals.getD 1 undef)+1).toNat,⟨a.length,?_,rfl,Nat.le_refl _,?_⟩,?_⟩)
 ·simp only[rxs,iv,e1]
 ·rw[List.drop_of_length_le (Nat.le_refl _),List.drop_of_length_le (by omega)]
 rintro vals H'-⟨i,rfl,rfl,hi,hd⟩
 simp only[cA,nA]
 refine a0a ⟨_,rfl⟩ (a0e (b:=decide ((i:Int)-1≥0)) rfl (fun hi2=> ?_) (fun hi2=> ?_))
 ·have hi2:=of_decide_eq_true hi2
  obtain⟨j,rfl⟩:∃j,i=j+1:=⟨i-1,by omega⟩
  have ej:((j+1:Nat):Int)-1=(j:Int):=by omega
  rw[ej]
  have e2:IntKind.i64.wrap ((j:Int)-1)=(j:Int)-1:=c4V (by omega) (by omega)
  refine a1k (k:= .i64) (j:=j) rfl rfl rfl rfl (fun _=>rfl) ha (by omega) rfl (fun _=>rfl) fun p1=>a1k (k:= .i64) (j:=j) rfl rfl rfl rfl (fun _=>rfl) hb (by omega) rfl (fun _=>rfl) fun p2=> ?_
  simp only[cA,nA]
  refine a0a ⟨_,rfl⟩ (a0a ⟨_,rfl⟩ (a0e (b:=decide (((a.getD j 0:Nat):Int)<((b.getD j 0:Nat):Int))) rfl (fun h1=> ?_) (fun h1=> ?_)))
  ·have h1:=of_decide_eq_true h1
   have:=b5l ha.2 hb.2 (show j<a.length by omega) (by omega) hd (by omega)
   exact a0f rfl ⟨rfl,-1,rfl,by omega,by omega⟩
  ·have h1:=of_decide_eq_false h1
   refine a1k (k:= .i64) (j:=j) rfl rfl rfl rfl (fun _=>rfl) ha (by omega) rfl (fun _=>rfl) fun p3=>a1k (k:= .i64) (j:=j) rfl rfl rfl rfl (fun _=>rfl) hb (by omega) rfl (fun _=>rfl) fun p4=> ?_
   simp only[cA,nA]
   refine a0a ⟨_,rfl⟩ (a0a ⟨_,rfl⟩ (a0e (b:=decide (((a.getD j 0:Nat):Int)>((b.getD j 0:Nat):Int))) rfl (fun h2=> ?_) (fun h2=> ?_)))
   ·have h2:=of_decide_eq_true h2
    have:=b5l hb.2 ha.2 (show j<b.length by omega) (by omega) hd.symm (by omega)
    exact a0f rfl ⟨rfl,1,rfl,by omega,by omega⟩
   ·have h2:=of_decide_eq_false h2
    refine⟨⟨j,?_,rfl,by omega,?_⟩,?_⟩
    ·simp only[rxs,e2]
    ·rw[a9m (show j<a.length by omega),a9m (show j<b.length by omega),hd,show a.getD j 0=b.getD j 0 from by omega]
    ·simp only[rxs,e2]
     omega
 ·have hi2:=of_decide_eq_false hi2
  have hi0:i=0:=by omega
  subst hi0
  rw[List.drop_zero,List.drop_zero]at hd
  exact a0f rfl ⟨rfl,0,rfl,by rw[hd];omega,by rw[hd];omega⟩
end
section
variable {H:PH} {a b:List Nat} {va vb:Value}
set_option maxRecDepth 100000 in
theorem c5y (ha:Es H va a) (hb:Es H vb b) (hA:a.length<=100000) (hB:b.length<=100000):Con prog 213 [va,vb] H fun u H'=>PH.le H H'/\∃l,Es H' u l/\ul l=ul a+ul b:=by
 refine a0d a0r c1y (by kernel_rfl) rfl (a0t rfl rfl ha rfl (a0t rfl rfl hb rfl (a0a ⟨_,rfl⟩ (a0a ⟨_,rfl⟩ ⟨fun vals H'=>H'=H/\∃(x y:List Nat) (vx vy:Value),vals=[vx,vy]/\Es H vx x/\Es H vy y/\x.length<=100000/\y.length<=x.length/\ul x+ul y=ul a+ul b,a0e (b:=decide ((a.length:Int)<(b.length:Int))) rfl (fun h=> ?_) (fun h=> ?_),?_⟩))))
 ·have h:=of_decide_eq_true h
  exact⟨rfl,b,a,vb,va,rfl,hb,ha,hB,by omega,Nat.add_comm _ _⟩
 ·have h:=of_decide_eq_false h
  exact⟨rfl,a,b,va,vb,rfl,ha,hb,hA,by omega,rfl⟩
 rintro vals H0-⟨rfl,x,y,vx,vy,rfl,hx,hy,hX,hyx,hsum⟩
 simp only[cA,nA]
 have e0:IntKind.i64.wrap ((x.length:Int)+1)=((x.length+1:Nat):Int):=b0Y (by omega)
 refine a0t rfl rfl hx rfl (a0a ⟨_,rfl⟩ (a3m (kl:= .i64) (kc:= .i64) (m:=x.length+1) rfl rfl rfl (by omega) (by simp only[rxs,iv,e0]) fun out H1 hl1 h1=> ?_))
 simp only[cA,nA]
 refine a0t rfl rfl (hx.mono hl1) rfl ⟨fun vals H'=>∃(c i:Nat) (l:List Nat),vals=[.int .u64 (c:Nat),iv i]/\c<=1/\i<=x.length/\PH.le H0 H'/\Eo H0 H' out l/\l.length=x.length+1/\(∀k,i<=k->l.getD k 0=0)/\ul l+PW i*c=ul (x.take i)+ul (y.take i),fun vals _=>(x.length-intOf (vals.getD 1 undef)).toNat,⟨0,0,_,rfl,by omega,by omega,hl1,h1,by simp,fun k _=>a4x _ k,?_⟩,?_⟩
 ·rw[a2N];simp[ul]
 rintro vals H'-⟨c,i,l,rfl,hc,hi,hle,hO,hll,hz,hv⟩
 simp only[cA,nA]
 have hx':=hx.mono hle
 have hy':=hy.mono hle
 refine a0a ⟨_,rfl⟩ (a0a ⟨_,rfl⟩ (a0e (b:=decide ((i:Int)<x.length)) rfl (fun h=> ?_) (fun h=> ?_)))
 ·have h:i<x.length:=by have:=of_decide_eq_true h;omega
  have dx:=hx.2.at i
  have dy:=hy.2.at i
  have e1:IntKind.i64.wrap ((i:Int)+1)=((i+1:Nat):Int):=b0Y (by omega)
  refine a1k (k:= .i64) (j:=i) rfl rfl rfl rfl (fun _=>rfl) hx' h rfl (fun _=>rfl) fun p=> ?_
  simp only[cA,nA]
  refine a0t rfl rfl hy' rfl (a0a ⟨_,rfl⟩ ⟨fun vals H2=>H2=H'/\vals=[uv (y.getD i 0)],a0e (b:=decide ((i:Int)<y.length)) rfl (fun h1=> ?_) (fun h1=> ?_),?_⟩)
  ·have h1:=of_decide_eq_true h1
   exact a1k (k:= .i64) (j:=i) rfl rfl rfl rfl (fun _=>rfl) hy' (by omega) rfl (fun _=>rfl) fun p=>⟨rfl,rfl⟩
  ·have h1:=of_decide_eq_false h1
   refine⟨rfl,?_⟩
   rw[a7X (l:=y) (by omega)];rfl
  rintro vals H2-⟨rfl,rfl⟩
  simp only[cA,nA]
  refine a6o (a4p (x.getD i 0) (y.getD i 0) c dx dy hc) rfl (a0a ⟨_,rfl,Nat.zero_lt_succ _⟩ (a0a ⟨_,rfl,Nat.lt_succ_self _⟩ ?_))
  simp only[cA,nA]
  obtain⟨s,hs⟩:∃s,s=(x.getD i 0+y.getD i 0+c)%18446744073709551616:=⟨_,rfl⟩
  obtain⟨c',hc'⟩:∃c',c'=(x.getD i 0+y.getD i 0+c)/18446744073709551616:=⟨_,rfl⟩
  have key:s+18446744073709551616*c'=x.getD i 0+y.getD i 0+c:=by omega
  rw[<-hs,<-hc']
  refine a2g (k:= .i64) (j:=i) (d:=s) rfl rfl rfl rfl (fun _=>rfl) (fun _=>rfl) hle hO (by omega) (by omega) rfl (fun _=>rfl) rfl fun p u H3 hl3 h3 _=>⟨⟨c',i+1,_,?_,by omega,by omega,hl3,h3,by rw[List.length_set];exact hll,?_,?_⟩,?_⟩
  ·simp only[rxs,iv,e1]
  ·intro k hk
   rw[a1O (by omega)];exact hz k (by omega)
  ·have k1:=a3H (l:=l) s (show i<l.length by omega)
   rw[hz i (Nat.le_refl _),Nat.mul_zero,Nat.add_zero]at k1
   have k2:=congrArg (PW i* ·) key
   simp only[Nat.mul_add]at k2
   rw[a1c,a1c,k1,a0o,Nat.mul_assoc]
   omega
  ·simp only[rxs,iv,e1]
   omega
 ·have h:i=x.length:=by have:=of_decide_eq_false h;omega
  subst h
  refine a0t rfl rfl hx' rfl ?_
  simp only[cA,nA]
  refine a2g (k:= .i64) (j:=x.length) (d:=c) rfl rfl rfl rfl (fun _=>rfl) (fun _=>rfl) hle hO (by omega) (by omega) rfl (fun _=>rfl) rfl fun p u H3 hl3 h3 _=>a0f rfl ⟨hl3,_,h3.es,?_⟩
  have k1:=a3H (l:=l) c (show x.length<l.length by omega)
  rw[hz _ (Nat.le_refl _),Nat.mul_zero,Nat.add_zero]at k1
  rw[k1,hv,List.take_of_length_le (Nat.le_refl _),List.take_of_length_le hyx,hsum]
set_option maxRecDepth 100000 in
theorem a7c (ha:Es H va a) (hb:Es H vb b) (hab:ul b<=ul a) (hl:b.length<=a.length) (hA:a.length<=100000):Con prog 215 [va,vb] H fun u H'=>PH.le H H'/\∃l,Es H' u l/\ul l=ul a-ul b:=by
 refine a0d a0r b4M (by kernel_rfl) rfl (a0t rfl rfl ha rfl (a3m (kl:= .i64) (kc:= .i64) (m:=a.length) rfl rfl rfl (by omega) rfl fun out H1 hl1 h1=> ?_))
 simp only[cA,nA]
 refine a0t rfl rfl (ha.mono hl1) rfl ⟨fun vals H'=>∃(c i:Nat) (l:List Nat),vals=[.int .u64 (c:Nat),iv i]/\c<=1/\i<=a.length/\PH.le H H'/\Eo H H' out l/\l.length=a.length/\(∀k,i<=k->l.getD k 0=0)/\ul l+ul (b.take i)=ul (a.take i)+PW i*c,fun vals _=>(a.length-intOf (vals.getD 1 undef)).toNat,⟨0,0,_,rfl,by omega,by omega,hl1,h1,by simp,fun k _=>a4x _ k,?_⟩,?_⟩
 ·rw[a2N];simp[ul]
 rintro vals H'-⟨c,i,l,rfl,hc,hi,hle,hO,hll,hz,hv⟩
 simp only[cA,nA]
 have ha':=ha.mono hle
 have hb':=hb.mono hle
 refine a0a ⟨_,rfl⟩ (a0a ⟨_,rfl⟩ (a0e (b:=decide ((i:Int)<a.length)) rfl (fun h=> ?_) (fun h=> ?_)))
 ·have h:i<a.length:=by have:=of_decide_eq_true h;omega
  have dx:=ha.2.at i
  have dy:=hb.2.at i
  have e1:IntKind.i64.wrap ((i:Int)+1)=((i+1:Nat):Int):=b0Y (by omega)
  refine a1k (k:= .i64) (j:=i) rfl rfl rfl rfl (fun _=>rfl) ha' h rfl (fun _=>rfl) fun p=> ?_
  simp only[cA,nA]
  refine a0t rfl rfl hb' rfl (a0a ⟨_,rfl⟩ ⟨fun vals H2=>H2=H'/\vals=[uv (b.getD i 0)],a0e (b:=decide ((i:Int)<b.length)) rfl (fun h1=> ?_) (fun h1=> ?_),?_⟩)
  ·have h1:=of_decide_eq_true h1
   exact a1k (k:= .i64) (j:=i) rfl rfl rfl rfl (fun _=>rfl) hb' (by omega) rfl (fun _=>rfl) fun p=>⟨rfl,rfl⟩
  ·have h1:=of_decide_eq_false h1
   refine⟨rfl,?_⟩
   rw[a7X (l:=b) (by omega)];rfl
  rintro vals H2-⟨rfl,rfl⟩
  simp only[cA,nA]
  refine a6o (a6A (a.getD i 0) (b.getD i 0) c hc) rfl (a0a ⟨_,rfl,Nat.zero_lt_succ _⟩ (a0a ⟨_,rfl,Nat.lt_succ_self _⟩ ?_))
  simp only[cA,nA]
  obtain⟨s,hs⟩:∃s,s=(a.getD i 0+18446744073709551616-b.getD i 0-c)%18446744073709551616:=⟨_,rfl⟩
  obtain⟨c',hc'⟩:∃c',c'=(if a.getD i 0<b.getD i 0+c then 1 else 0):=⟨_,rfl⟩
  have hc1:c'<=1:=by rw[hc'];split<;>omega
  have key:s+b.getD i 0+c=a.getD i 0+18446744073709551616*c':=by rw[hs,hc'];split<;>omega
  rw[<-hs,<-hc']
  refine a2g (k:= .i64) (j:=i) (d:=s) rfl rfl rfl rfl (fun _=>rfl) (fun _=>rfl) hle hO (by omega) (by omega) rfl (fun _=>rfl) rfl fun p u H3 hl3 h3 _=>⟨⟨c',i+1,_,?_,by omega,by omega,hl3,h3,by rw[List.length_set];exact hll,?_,?_⟩,?_⟩
  ·simp only[rxs,iv,e1]
  ·intro k hk
   rw[a1O (by omega)];exact hz k (by omega)
  ·have k1:=a3H (l:=l) s (show i<l.length by omega)
   rw[hz i (Nat.le_refl _),Nat.mul_zero,Nat.add_zero]at k1
   have k2:=congrArg (PW i* ·) key
   simp only[Nat.mul_add]at k2
   rw[a1c,a1c,k1,a0o,Nat.mul_assoc]
   omega
  ·simp only[rxs,iv,e1]
   omega
 ·have h:i=a.length:=by have:=of_decide_eq_false h;omega
  subst h
  rw[List.take_of_length_le (Nat.le_refl _),List.take_of_length_le hl]at hv
  have hlt:=a5z hO.2
  rw[hll]at hlt
  have hb0:c=0:=by
   rcases Nat.eq_zero_or_pos c with e|e
   ·exact e
   ·have:c=1:=by omega
    rw[this]at hv;omega
  rw[hb0]at hv
  exact a0f rfl ⟨hle,l,hO.es,by omega⟩
theorem d0V {x y:Nat} (hx:x<18446744073709551616) (hy:y<18446744073709551616):x*y<=18446744073709551615*18446744073709551615:=Nat.mul_le_mul (by omega) (by omega)
set_option maxRecDepth 100000 in
set_option maxHeartbeats 1000000 in
theorem c5z (ha:Es H va a) (hb:Es H vb b) (hA:a.length<=100000) (hB:b.length<=100000):Con prog 244 [va,vb] H fun u H'=>PH.le H H'/\∃l,Es H' u l/\ul l=ul a*ul b:=by
 have e0:IntKind.i64.wrap ((a.length:Int)+(b.length:Int))=((a.length+b.length:Nat):Int):=d3x (by omega)
 refine a0d a0r c1A (by kernel_rfl) rfl (a0t rfl rfl ha rfl (a0t rfl rfl hb rfl (a0a ⟨_,rfl⟩ (a0a ⟨_,rfl⟩ (a3m (kl:= .i64) (kc:= .i64) (m:=a.length+b.length) rfl rfl rfl (by omega) (by simp only[rxs,iv,e0]) fun out H1 hl1 h1=> ?_)))))
 simp only[cA,nA]
 refine a0t rfl rfl (ha.mono hl1) rfl ⟨fun vals H'=>∃(i:Nat) (l:List Nat),vals=[iv i]/\i<=a.length/\PH.le H H'/\Eo H H' out l/\l.length=a.length+b.length/\(∀k,i+b.length<=k->l.getD k 0=0)/\ul l=ul (a.take i)*ul b,fun vals _=>(a.length-intOf (vals.getD 0 undef)).toNat,⟨0,_,rfl,by omega,hl1,h1,by simp,fun k _=>a4x _ k,?_⟩,?_⟩
 ·rw[a2N];simp[ul]
 rintro vals H'-⟨i,l,rfl,hi,hle,hO,hll,hz,hv⟩
 simp only[cA,nA]
 have ha':=ha.mono hle
 refine a0a ⟨_,rfl⟩ (a0a ⟨_,rfl⟩ (a0e (b:=decide ((i:Int)<a.length)) rfl (fun h=> ?_) (fun h=> ?_)))
 ·have h:i<a.length:=by have:=of_decide_eq_true h;omega
  have da:=ha.2.at i
  refine a1k (k:= .i64) (j:=i) rfl rfl rfl rfl (fun _=>rfl) ha' h rfl (fun _=>rfl) fun p0=> ?_
  simp only[cA,nA]
  refine a0t rfl rfl (hb.mono hle) rfl ⟨fun vals H'=>∃(c j:Nat) (l:List Nat),vals=[.int .u64 (c:Nat),iv j]/\j<=b.length/\c<18446744073709551616/\PH.le H H'/\Eo H H' out l/\l.length=a.length+b.length/\(∀k,i+b.length<=k->l.getD k 0=0)/\ul l+PW (i+j)*c=ul (a.take i)*ul b+PW i*(a.getD i 0*ul (b.take j)),fun vals _=>(b.length-intOf (vals.getD 1 undef)).toNat,⟨0,0,l,rfl,by omega,by omega,hle,hO,hll,hz,?_⟩,?_⟩
  ·simp[ul,hv]
  rintro vals H2-⟨c,j,l2,rfl,hj,hc,hle2,hO2,hll2,hz2,hv2⟩
  simp only[cA,nA]
  have hb2:=hb.mono hle2
  refine a0a ⟨_,rfl⟩ (a0a ⟨_,rfl⟩ (a0e (b:=decide ((j:Int)<b.length)) rfl (fun hj2=> ?_) (fun hj2=> ?_)))
  ·have hj2:j<b.length:=by have:=of_decide_eq_true hj2;omega
   have db:=hb.2.at j
   have dl:=hO2.2.at (i+j)
   have e1:IntKind.i64.wrap ((i:Int)+(j:Int))=((i+j:Nat):Int):=d3x (by omega)
   have e10:IntKind.i64.wrap ((j:Int)+1)=((j+1:Nat):Int):=b0Y (by omega)
   have hm:=d0V da db
   refine a1k (k:= .i64) (j:=j) rfl rfl rfl rfl (fun _=>rfl) hb2 hj2 rfl (fun _=>rfl) fun p1=> ?_
   simp only[cA,nA]
   refine a0v (b0w (a.getD i 0) (b.getD j 0) da db) rfl (a0a ⟨_,rfl,Nat.zero_lt_succ _⟩ (a0a ⟨_,rfl,Nat.lt_succ_self _⟩ ?_))
   simp only[cA,nA]
   generalize hP:a.getD i 0*b.getD j 0=P at hm
   obtain⟨hi',hhi⟩:∃x,x=P/18446744073709551616:=⟨_,rfl⟩
   obtain⟨lo,hlo⟩:∃x,x=P%18446744073709551616:=⟨_,rfl⟩
   rw[<-hhi,<-hlo]
   refine a1k (k:= .i64) (j:=i+j) rfl rfl rfl rfl (fun _=>rfl) hO2.es (by omega) (by simp only[rxs,iv,e1]) (fun _=>rfl) fun p2=> ?_
   simp only[cA,nA]
   generalize hd:l2.getD (i+j) 0=d at dl
   refine a6o (a4p d lo 0 dl (by omega) (by omega)) rfl (a0a ⟨_,rfl,Nat.zero_lt_succ _⟩ (a0a ⟨_,rfl,Nat.lt_succ_self _⟩ ?_))
   simp only[cA,nA]
   obtain⟨s1,hs1⟩:∃x,x=(d+lo+0)%18446744073709551616:=⟨_,rfl⟩
   obtain⟨c1,hc1⟩:∃x,x=(d+lo+0)/18446744073709551616:=⟨_,rfl⟩
   rw[<-hs1,<-hc1]
   refine a6o (a4p s1 c 0 (by omega) hc (by omega)) rfl (a0a ⟨_,rfl,Nat.zero_lt_succ _⟩ (a0a ⟨_,rfl,Nat.lt_succ_self _⟩ ?_))
   simp only[cA,nA]
   obtain⟨s2,hs2⟩:∃x,x=(s1+c+0)%18446744073709551616:=⟨_,rfl⟩
   obtain⟨c2,hc2⟩:∃x,x=(s1+c+0)/18446744073709551616:=⟨_,rfl⟩
   rw[<-hs2,<-hc2]
   have key:s2+18446744073709551616*(hi'+c1+c2)=c+d+P:=by omega
   have hcc:hi'+c1+c2<18446744073709551616:=by omega
   have e2:IntKind.u64.wrap ((hi':Int)+(c1:Int))=((hi'+c1:Nat):Int):=by rw[<-Int.natCast_add];exact wu (by omega)
   have e3:IntKind.u64.wrap (((hi'+c1:Nat):Int)+(c2:Int))=((hi'+c1+c2:Nat):Int):=by rw[<-Int.natCast_add];exact wu (by omega)
   refine a0a ⟨_,rfl⟩ (a0a ⟨_,rfl⟩ (a0a ⟨_,rfl⟩ (a2g (k:= .i64) (j:=i+j) (d:=s2) rfl rfl rfl rfl (fun _=>rfl) (fun _=>rfl) hle2 hO2 (by omega) (by omega) (by simp only[rxs,iv,e1]) (fun p=>rfl) rfl fun p u H3 hl3 h3 _=>⟨⟨hi'+c1+c2,j+1,_,?_,by omega,hcc,hl3,h3,by rw[List.length_set];exact hll2,?_,?_⟩,?_⟩)))
   ·simp only[rxs,iv,e2,e3,e10]
   ·intro k hk
    rw[a1O (by omega)];exact hz2 k hk
   ·have k1:=a3H (l:=l2) s2 (show i+j<l2.length by omega)
    rw[hd]at k1
    have k2:=congrArg (PW (i+j)* ·) key
    simp only[Nat.mul_add]at k2
    have k3:PW i*(a.getD i 0*(PW j*b.getD j 0))=PW (i+j)*P:=by
     rw[a7M,Nat.mul_left_comm (a.getD i 0),hP,Nat.mul_assoc]
    rw[a1c,Nat.mul_add (a.getD i 0),Nat.mul_add (PW i),k3,<-Nat.add_assoc i j 1,a0o,Nat.mul_assoc]
    simp only[Nat.mul_add]
    omega
   ·simp only[rxs,iv,e10]
    omega
  ·have hj2:j=b.length:=by have:=of_decide_eq_false hj2;omega
   subst hj2
   have e1:IntKind.i64.wrap ((i:Int)+(b.length:Int))=((i+b.length:Nat):Int):=d3x (by omega)
   have e10:IntKind.i64.wrap ((i:Int)+1)=((i+1:Nat):Int):=b0Y (by omega)
   refine a0t rfl rfl hb2 rfl (a0a ⟨_,rfl⟩ (a2g (k:= .i64) (j:=i+b.length) (d:=c) rfl rfl rfl rfl (fun _=>rfl) (fun _=>rfl) hle2 hO2 (by omega) hc (by simp only[rxs,iv,e1]) (fun p=>rfl) rfl fun p u H3 hl3 h3 _=>⟨⟨i+1,_,?_,by omega,hl3,h3,by rw[List.length_set];exact hll2,?_,?_⟩,?_⟩))
   ·simp only[rxs,iv,e10]
   ·intro k hk
    rw[a1O (by omega)];exact hz2 k (by omega)
   ·have k1:=a3H (l:=l2) c (show i+b.length<l2.length by omega)
    rw[hz2 _ (Nat.le_refl _),Nat.mul_zero,Nat.add_zero]at k1
    rw[k1,hv2,List.take_of_length_le (Nat.le_refl _),a1c,Nat.add_mul,Nat.mul_assoc]
   ·simp only[rxs,iv,e10]
    omega
 ·have h:i=a.length:=by have:=of_decide_eq_false h;omega
  rw[List.take_of_length_le (by omega)]at hv
  exact a0f rfl ⟨hle,l,hO.es,hv⟩
end
end Go.Proofs.YtkcjbfoejpfbbaaGreatDoor
namespace Go.WD
open Go.RX
theorem b1s {l:List Nat} (h:Eg l) (j:Nat):dig (ul l) j=l.getD j 0:=by
 rcases Nat.lt_or_ge j l.length with hj|hj
 ·have e1:=a9r l (show j<=l.length by omega)
  have e2:=a5b hj
  have h1:=a5z (h.take j)
  rw[List.length_take,Nat.min_eq_left (by omega)]at h1
  have h2:=h.at j
  unfold dig
  rw[e1,Nat.add_mul_div_left _ _ (a1v j),Nat.div_eq_of_lt h1,Nat.zero_add,e2,Nat.add_mul_mod_self_left,Nat.mod_eq_of_lt h2]
 ·rw[a7X hj]
  refine a6C (Nat.lt_of_lt_of_le (a5z h) (b2l hj))
theorem Um.top {l:List Nat} (h:Um l) (hD:Eg l) {n:Nat} (hn:l.length=n+1):l.getD n 0≠0:=fun h0=>by
 have h1:=a1G (l:=l) (k:=n) (by omega)
 rw[List.take_of_length_le (by omega),h0,Nat.mul_zero,Nat.add_zero]at h1
 have h4:=a5z (hD.take n)
 rw[List.length_take,Nat.min_eq_left (by omega)]at h4
 have h3:l.length<=n:=h n (by omega)
 omega
theorem d0W {l:List Nat} (h:Um l) (hD:Eg l) {n:Nat} (hn:l.length=n+1):blen (ul l)=64*n+blen (l.getD n 0):=by
 have ht:=h.top hD hn
 have hlt:=a5z hD
 rw[hn]at hlt
 have:=b5Z (A:=ul l) (i:=n) (by rw[b1s hD];exact ht) hlt
 rwa[b1s hD]at this
theorem c5A {q k:Nat} (h:2^(k+1) ∣ q):dig q (k/64)|||2^(k%64)=dig q (k/64)+2^(k%64):=by
 refine d2w ?_
 obtain⟨m,rfl⟩:=h
 have e:2^(k+1)*m/PW (k/64)=2^(k%64+1)*m:=by
  rw[b3C,show k+1=64*(k/64)+(k%64+1)from by omega,Nat.pow_add,Nat.mul_assoc,Nat.mul_div_cancel_left _ (Nat.pow_pos (by omega))]
 unfold dig
 rw[e,a8X]
 have hd:2^(k%64+1) ∣ 2^64:=Nat.pow_dvd_pow 2 (by omega)
 exact(Nat.dvd_mod_iff hd).2 ⟨m,rfl⟩
theorem c2p (k:Nat):2^k=PW (k/64)*2^(k%64):=by
 rw[b3C,<-Nat.pow_add,show 64*(k/64)+k%64=k from by omega]
theorem d0X {r:Nat} (h:r<64):2^r<18446744073709551616:=by
 rw[a8X];exact Nat.pow_lt_pow_right (by omega) h
end Go.WD
namespace Go.Proofs.YtkcjbfoejpfbbaaGreatDoor
open Go.Proofs.Tryz
open Go.RowKit Go.RX Go.WD
theorem Eo.frame {Hr H Hr' H':PH} {v:Value} {l:List Nat} (h:Eo Hr H v l) (hk:∀k ob,H k=some ob->Hr k=none->Hr' k=none/\H' k=some ob):Eo Hr' H' v l:=⟨h.1.frame hk,h.2⟩
theorem d0Y (d r:Nat) (h:r<=64):IntKind.u64.wrap ((d:Int)*2^min r (IntKind.bits .u64))=((d*2^r%18446744073709551616:Nat):Int):=by
 rw[show min r (IntKind.bits .u64)=r from Nat.min_eq_left h,show(d:Int)*2^r=((d*2^r:Nat):Int)from by rw[Int.natCast_mul,Int.natCast_pow];rfl,IntKind.wrap_u64]
 omega
section
variable {H:PH} {a b:List Nat} {va vb:Value}
set_option maxRecDepth 100000 in
theorem b5n (ha:Es H va a) (ta:Um a) (hA:a.length<=1000000):Con prog 262 [va] H fun u H'=>H'=H/\u= .int .i64 (blen (ul a):Nat):=by
 refine a0d a0r c1C (by kernel_rfl) rfl (a0t rfl rfl ha rfl (a0a ⟨_,rfl⟩ (a0e (b:=((a.length:Int)==0)) rfl (fun h=> ?_) (fun h=> ?_))))
 ·have h:=beq_iff_eq.1 h
  obtain rfl:a=[]:=List.eq_nil_of_length_eq_zero (by omega)
  exact a0f rfl ⟨rfl,rfl⟩
 ·have h:=beq_eq_false_iff_ne.1 h
  obtain⟨n,hn⟩:∃n,a.length=n+1:=⟨a.length-1,by omega⟩
  have e1:IntKind.i64.wrap ((a.length:Int)-1)=((n:Nat):Int):=by rw[c4V (by omega) (by omega)];omega
  have dt:=ha.2.at n
  have hbl:=blen_le (x:=a.getD n 0) (k:=64) dt
  refine a0t rfl rfl ha rfl (a0a ⟨_,rfl⟩ (a0t rfl rfl ha rfl (a0a ⟨_,rfl⟩ ?_)))
  simp only[cA,nA]
  refine a1k (k:= .i64) (j:=n) rfl rfl rfl rfl (fun _=>rfl) ha (by omega) (by simp only[rxs,iv,e1]) (fun _=>rfl) fun p=>a0v (b3E _ dt) rfl (a0a ⟨_,rfl⟩ (a0f ?_ ⟨rfl,rfl⟩))
  simp only[List.cons_append,List.nil_append,rxs,iv,a2S]
  rw[d0W ta ha.2 hn]
  congr 1
  rw[IntKind.wrap_i64,IntKind.wrap_i64]
  omega
set_option maxRecDepth 100000 in
set_option maxHeartbeats 1000000 in
theorem c2q (k:Nat) (ha:Es H va a) (hA:a.length<=100000) (hk:k<=20000000):Con prog 263 [va,.int .i64 (k:Nat)] H fun u H'=>PH.le H H'/\Mu H' u (ul a*2^k):=by
 obtain⟨q,hq⟩:∃q,q=k/64:=⟨_,rfl⟩
 obtain⟨r,hr⟩:∃r,r=k%64:=⟨_,rfl⟩
 have hr64:r<64:=by omega
 have hkq:k=64*q+r:=by omega
 have eq1:IntKind.i64.wrap ((k:Int).tdiv 64)=((q:Nat):Int):=by rw[hq];exact d6A k (by omega)
 have er1:(k:Int).tmod 64=((r:Nat):Int):=by rw[hr];exact d6B k
 have e0:IntKind.i64.wrap ((a.length:Int)+(q:Int))=((a.length+q:Nat):Int):=d3x (by omega)
 have e00:IntKind.i64.wrap (((a.length+q:Nat):Int)+1)=((a.length+q+1:Nat):Int):=b0Y (by omega)
 have hpk:2^k=PW q*2^r:=by rw[hq,hr];exact c2p k
 refine a0d a0r b4O (by kernel_rfl) rfl (a0t rfl rfl ha rfl (a0a ⟨_,rfl⟩ (a0a ⟨_,rfl⟩ (a3m (kl:= .i64) (kc:= .i64) (m:=a.length+q+1) rfl rfl rfl (by omega) (by simp only[rxs,iv,eq1,e0,e00]) fun out H1 hl1 h1=> ?_))))
 simp only[cA,nA]
 refine a0t rfl rfl (ha.mono hl1) rfl ⟨fun vals H'=>∃(i:Nat) (l:List Nat),vals=[iv i]/\i<=a.length/\PH.le H H'/\Eo H H' out l/\l.length=a.length+q+1/\(∀k,i+q<k->l.getD k 0=0)/\l.getD (i+q) 0<2^r/\ul l=ul (a.take i)*2^k,fun vals _=>(a.length-intOf (vals.getD 0 undef)).toNat,⟨0,_,rfl,by omega,hl1,h1,by simp,fun k _=>a4x _ k,?_,?_⟩,?_⟩
 ·rw[a4x];exact Nat.pow_pos (by omega)
 ·rw[a2N];simp[ul]
 rintro vals H'-⟨i,l,rfl,hi,hle,hO,hll,hz,hcar,hv⟩
 simp only[cA,nA]
 have ha':=ha.mono hle
 refine a0a ⟨_,rfl⟩ (a0a ⟨_,rfl⟩ (a0e (b:=decide ((i:Int)<a.length)) rfl (fun h=> ?_) (fun h=> ?_)))
 ·have h:i<a.length:=by have:=of_decide_eq_true h;omega
  have da:=ha.2.at i
  have e1:IntKind.i64.wrap ((i:Int)+(q:Int))=((i+q:Nat):Int):=d3x (by omega)
  have e2:IntKind.i64.wrap (((i+q:Nat):Int)+1)=((i+q+1:Nat):Int):=b0Y (by omega)
  have e10:IntKind.i64.wrap ((i:Int)+1)=((i+1:Nat):Int):=b0Y (by omega)
  refine a1k (k:= .i64) (j:=i) rfl rfl rfl rfl (fun _=>rfl) ha' h rfl (fun _=>rfl) fun p0=> ?_
  simp only[cA,nA]
  refine a1k (k:= .i64) (j:=i+q) rfl rfl rfl rfl (fun _=>rfl) hO.es (by omega) (by simp only[rxs,iv,eq1,e1]) (fun _=>rfl) fun p1=> ?_
  simp only[cA,nA]
  generalize hx:a.getD i 0=x at da
  generalize hc:l.getD (i+q) 0=c at hcar
  have hc64:c<18446744073709551616:=Nat.lt_trans hcar (d0X hr64)
  have hor:c|||(x*2^r%18446744073709551616)=(x%2^(64-r))*2^r+c:=by
   rw[c8q x (by omega),Nat.or_comm,c6v hcar]
  have hw0:(x%2^(64-r))*2^r+c<18446744073709551616:=by
   rw[<-hor,a8X]
   exact Nat.or_lt_two_pow (by rw[<-a8X];exact hc64) (by rw[<-a8X];exact Nat.mod_lt _ (by omega))
  have e3:=d0Y x r (by omega)
  have e4:=b8f c (x*2^r%18446744073709551616) hc64 (Nat.mod_lt _ (by omega))
  rw[hor]at e4
  have hsplit:=a2e (r:=r) (by omega)
  have hdm:=Nat.div_add_mod x (2^(64-r))
  refine a0a ⟨_,rfl⟩ (a0a ?_ (a0a ⟨_,rfl⟩ (a2g (k:= .i64) (j:=i+q) (d:=(x%2^(64-r))*2^r+c) rfl rfl rfl rfl (fun _=>rfl) (fun _=>rfl) hle hO (by omega) hw0 (by simp only[rxs,iv,eq1,e1]) (fun p=> ?_) rfl fun p2 u2 H2 hl2 h2 _=> ?_)))
  ·show(0:Int)<=(k:Int).tmod 64
   rw[er1];omega
  ·simp only[rxs,uv,er1,Int.toNat_natCast,e3,e4]
  simp only[cA,nA]
  have k1:=a3H (l:=l) ((x%2^(64-r))*2^r+c) (show i+q<l.length by omega)
  rw[hc]at k1
  have hP:PW i*x*2^k=PW (i+q)*(2^r*x):=by
   rw[hpk,a7M,Nat.mul_assoc (PW i),Nat.mul_left_comm x,<-Nat.mul_assoc (PW i),Nat.mul_comm x]
  refine a0e (b:=decide (((r:Nat):Int)>0)) ?_ (fun h0=> ?_) (fun h0=> ?_)
  ·show Value.bool (decide ((k:Int).tmod 64>0))=_
   rw[er1]
  ·have h0:=of_decide_eq_true h0
   have e5:IntKind.i64.wrap (64-((r:Nat):Int))=((64-r:Nat):Int):=by rw[c4V (by omega) (by omega)];omega
   have e6:=a4Q x (64-r) (by omega)
   have hw1:=c6w da (r:=r) (by omega)
   refine a0a ?_ (a2g (k:= .i64) (j:=i+q+1) (d:=x/2^(64-r)) rfl rfl rfl rfl (fun _=>rfl) (fun _=>rfl) hl2 h2 (by rw[List.length_set];omega) (Nat.lt_trans hw1 (d0X hr64)) (by simp only[rxs,iv,eq1,e1,e2]) (fun p=> ?_) rfl fun p3 u3 H3 hl3 h3 _=>⟨⟨i+1,_,?_,by omega,hl3,h3,by rw[List.length_set,List.length_set];exact hll,?_,?_,?_⟩,?_⟩)
   ·show(0:Int)<=IntKind.i64.wrap (64-(k:Int).tmod 64)
    rw[er1,e5];omega
   ·simp only[rxs,uv,er1,e5,Int.toNat_natCast,e6]
   ·simp only[rxs,iv,e10]
   ·intro j hj
    rw[a1O (by omega),a1O (by omega)];exact hz j (by omega)
   ·rw[show i+1+q=i+q+1 from by omega,a6T (by rw[List.length_set];omega)];exact hw1
   ·have k2:=a3H (l:=l.set (i+q) ((x%2^(64-r))*2^r+c)) (x/2^(64-r)) (show i+q+1<(l.set (i+q) ((x%2^(64-r))*2^r+c)).length by rw[List.length_set];omega)
    rw[a1O (by omega),hz (i+q+1) (by omega),Nat.mul_zero,Nat.add_zero]at k2
    rw[k2,a1c,hx,Nat.add_mul,hP,<-hv]
    have k3:2^r*x=(x%2^(64-r))*2^r+18446744073709551616*(x/2^(64-r)):=by
     rw[hsplit]
     generalize x/2^(64-r)=X at hdm
     generalize x%2^(64-r)=Y at hdm
     generalize 2^(64-r)=S at hdm
     rw[<-hdm,Nat.mul_add,Nat.mul_comm (2^r) Y,<-Nat.mul_assoc,Nat.mul_comm (2^r) S]
     omega
    rw[k3,a0o]
    rw[Nat.mul_add]at k1
    rw[Nat.mul_add,Nat.mul_assoc]
    omega
   ·simp only[rxs,iv,e10]
    omega
  ·have h0:=of_decide_eq_false h0
   have hr0:r=0:=by omega
   rw[hr0]at hcar k1 hP h2 hdm
   rw[Nat.pow_zero]at hcar
   have hc0:c=0:=by omega
   rw[Nat.sub_zero,<-a8X,Nat.mod_eq_of_lt da,Nat.pow_zero,Nat.mul_one]at k1 h2
   refine⟨⟨i+1,_,?_,by omega,hl2,h2,by rw[List.length_set];exact hll,?_,?_,?_⟩,?_⟩
   ·simp only[rxs,iv,e10]
   ·intro j hj
    rw[a1O (by omega)];exact hz j (by omega)
   ·rw[a1O (by omega),hz (i+1+q) (by omega)];exact Nat.pow_pos (by omega)
   ·rw[a1c,hx,Nat.add_mul,hP,<-hv,Nat.pow_zero,Nat.one_mul]
    rw[hc0,Nat.mul_zero,Nat.add_zero,Nat.add_zero]at k1
    rw[hc0,Nat.add_zero]
    exact k1
   ·simp only[rxs,iv,e10]
    omega
 ·have h:i=a.length:=by have:=of_decide_eq_false h;omega
  rw[List.take_of_length_le (by omega)]at hv
  refine a0h (a1o false hO.es) rfl ?_
  rintro u H2 ⟨rfl,w,rfl,hw⟩
  refine⟨fun h=>(nomatch h),a0a ⟨_,rfl,rfl⟩ (a0f rfl ⟨hle,?_⟩)⟩
  have e:(sn false (ul l)).natAbs=ul l:=rfl
  rw[e,hv]at hw
  exact hw
end
open Go.RowKit Go.RX Go.WD
section
variable {H:PH} {a b:List Nat} {va vb:Value}
theorem c5B {X Q R d s R' c:Nat} (h1:X=Q*d+R) (h2:s*d+R'=R*18446744073709551616+c):c+18446744073709551616*X=(s+18446744073709551616*Q)*d+R':=by
 rw[Nat.add_mul,Nat.mul_assoc,h1]
 generalize Q*d=Y
 generalize s*d=Z at h2
 omega
set_option maxRecDepth 100000 in
set_option maxHeartbeats 1000000 in
theorem c5C (ha:Es H va a) (hb:Es H vb b) (ta:Um a) (tb:Um b) (hb0:0<ul b) (hA:a.length<=50000) (hB:b.length<=50000):
  Con prog 245 [va,vb] H fun u H'=>PH.le H H'/\∃q r lq,u= .tuple #[q,r]/\Es H' q lq/\ul lq=ul a/ul b/\Mu H' r (ul a%ul b):=by
 refine a0d a0r c1E (by kernel_rfl) rfl (a0t rfl rfl ha rfl (a3m (kl:= .i64) (kc:= .i64) (m:=a.length) rfl rfl rfl (by omega) rfl fun vq H1 hl1 h1=> ?_))
 simp only[cA,nA]
 refine a0t rfl rfl (hb.mono hl1) rfl (a0a ⟨_,rfl⟩ (a0e (b:=((b.length:Int)==1)) rfl (fun h=> ?_) (fun h=> ?_)))
 ·have h:b.length=1:=by have:=beq_iff_eq.1 h;omega
  obtain⟨d,rfl⟩:∃d,b=[d]:=by
   match b,h with
   |[d],_=>exact⟨d,rfl⟩
  rw[c2o]at hb0⊢
  have hd:d<18446744073709551616:=hb.2.at 0
  have e0:IntKind.i64.wrap ((a.length:Int)-1)=(a.length:Int)-1:=c4V (by omega) (by omega)
  refine a0t rfl rfl (ha.mono hl1) rfl (a0a ⟨_,rfl⟩ ⟨fun vals H'=>∃(i R:Nat) (lq:List Nat),vals=[.int .u64 (R:Nat),.int .i64 ((i:Int)-1)]/\i<=a.length/\PH.le H H'/\Eo H H' vq lq/\lq.length=a.length/\R<d/\ul (a.drop i)=ul (lq.drop i)*d+R,fun vals _=>(intOf (vals.getD 1 undef)+1).toNat,⟨a.length,0,_,?_,Nat.le_refl _,hl1,h1,by simp,hb0,?_⟩,?_⟩)
  ·simp only[List.cons_append,List.nil_append,rxs,iv,e0];rfl
  ·rw[List.drop_of_length_le (Nat.le_refl _),List.drop_of_length_le (by simp)];simp[ul]
  rintro vals H'-⟨i,R,lq,rfl,hi,hle,hO,hll,hR,hv⟩
  simp only[cA,nA]
  refine a0a ⟨_,rfl⟩ (a0e (b:=decide ((i:Int)-1≥0)) rfl (fun hi2=> ?_) (fun hi2=> ?_))
  ·have hi2:=of_decide_eq_true hi2
   obtain⟨j,rfl⟩:∃j,i=j+1:=⟨i-1,by omega⟩
   have ej:((j+1:Nat):Int)-1=(j:Int):=by omega
   rw[ej]
   have e2:IntKind.i64.wrap ((j:Int)-1)=(j:Int)-1:=c4V (by omega) (by omega)
   have da:=ha.2.at j
   refine a1k (k:= .i64) (j:=j) rfl rfl rfl rfl (fun _=>rfl) (ha.mono hle) (by omega) rfl (fun _=>rfl) fun p1=> ?_
   simp only[cA,nA]
   refine a1k (k:= .i64) (j:=0) rfl rfl rfl rfl (fun _=>rfl) (hb.mono hle) (by simp) rfl (fun _=>rfl) fun p2=> ?_
   simp only[cA,nA]
   refine a0v (b0z R (a.getD j 0) d hR da hd) rfl (a0a ⟨_,rfl,Nat.zero_lt_succ _⟩ (a0a ⟨_,rfl,Nat.lt_succ_self _⟩ ?_))
   simp only[cA,nA]
   obtain⟨s,hs⟩:∃s,s=(R*18446744073709551616+a.getD j 0)/d:=⟨_,rfl⟩
   obtain⟨R',hR'⟩:∃s,s=(R*18446744073709551616+a.getD j 0)%d:=⟨_,rfl⟩
   have key:s*d+R'=R*18446744073709551616+a.getD j 0:=by
    rw[hs,hR',Nat.mul_comm];exact Nat.div_add_mod _ _
   have hs64:s<18446744073709551616:=by
    rw[hs,Nat.div_lt_iff_lt_mul hb0]
    have:=Nat.mul_le_mul_right 18446744073709551616 (show R+1<=d from hR)
    rw[Nat.add_mul,Nat.one_mul]at this
    rw[Nat.mul_comm 18446744073709551616 d]
    omega
   have hRd:R'<d:=by rw[hR'];exact Nat.mod_lt _ hb0
   rw[<-hs,<-hR']
   refine a2g (k:= .i64) (j:=j) (d:=s) rfl rfl rfl rfl (fun _=>rfl) (fun _=>rfl) hle hO (by omega) hs64 rfl (fun _=>rfl) rfl fun p u H3 hl3 h3 _=>⟨⟨j,R',_,?_,by omega,hl3,h3,by rw[List.length_set];exact hll,hRd,?_⟩,?_⟩
   ·simp only[rxs,e2]
   ·rw[a5b (l:=a) (show j<a.length by omega),a5b (l:=lq.set j s) (by rw[List.length_set];omega),a6T (by omega),c4U (by omega)]
    exact c5B hv key
   ·simp only[rxs,e2]
    omega
  ·have hi2:=of_decide_eq_false hi2
   have hi0:i=0:=by omega
   subst hi0
   rw[List.drop_zero,List.drop_zero]at hv
   refine a7a (d:=R) rfl rfl (by omega) rfl fun vr H2 hl2 h2=> ?_
   simp only[cA,nA]
   refine a0h (a1o false h2.es) rfl ?_
   rintro u H3 ⟨rfl,w,rfl,hw⟩
   have e3:(sn false (ul [R])).natAbs=R:=by rw[c2o];rfl
   rw[e3]at hw
   refine⟨fun h=>(nomatch h),a0a ⟨_,rfl,rfl⟩ (a0f rfl ⟨hle.trans hl2,vq,w,lq,rfl,(hO.mono hl2).es,?_,?_⟩)⟩
   ·rw[hv,Nat.add_comm,Nat.add_mul_div_right _ _ hb0,Nat.div_eq_of_lt hR,Nat.zero_add]
   ·rw[hv,Nat.add_comm,Nat.add_mul_mod_self_right,Nat.mod_eq_of_lt hR];exact hw
 ·have lA:blen (ul a)<=64*a.length:=b8k (a5z ha.2)
  have lB:blen (ul b)<=64*b.length:=b8k (a5z hb.2)
  obtain⟨p1,p2⟩:=a4q (x:=ul b) (by omega)
  refine a0h (b5n (ha.mono hl1) ta (by omega)) rfl ?_
  rintro _ H2 ⟨rfl,rfl⟩
  simp only[cA,nA]
  refine⟨fun h=>(nomatch h),a0h (b5n (hb.mono hl1) tb (by omega)) rfl ?_⟩
  rintro _ H3 ⟨rfl,rfl⟩
  simp only[cA,nA]
  have e0:IntKind.i64.wrap ((blen (ul a):Int)-(blen (ul b):Int))=(blen (ul a):Int)-(blen (ul b):Int):=c4V (by omega) (by omega)
  refine⟨fun h=>(nomatch h),a0a ⟨_,rfl⟩ (a0a ⟨_,rfl⟩ ⟨fun vals H'=>∃(t:Int) (r:Nat) (vr:Value) (Hr:PH) (lq:List Nat),vals=[vr,.int .i64 t]/\ -10000000<=t/\t<=10000000/\PH.le H Hr/\PH.le Hr H'/\Eo Hr H' vq lq/\lq.length=a.length/\Mu Hr vr r/\ul a=ul lq*ul b+r/\((t<0/\r<ul b)\/(0<=t/\r<ul b*2^(t.toNat+1)/\2^(t.toNat+1) ∣ ul lq/\t.toNat+blen (ul b)<=blen (ul a))),fun vals _=>(intOf (vals.getD 1 undef)+1).toNat,⟨(blen (ul a):Int)-(blen (ul b):Int),ul a,va,H,_,?_,by omega,by omega,PH.le.refl _,hl1,h1,by simp,⟨a,ha,ta,rfl⟩,?_,?_⟩,?_⟩)⟩
  ·simp only[rxs,e0]
  ·rw[a2N,Nat.zero_mul,Nat.zero_add]
  ·have hlA:=a6D (ul a)
   by_cases hlt:blen (ul a)<blen (ul b)
   ·left
    refine⟨by omega,?_⟩
    have:2^blen (ul a)<=2^(blen (ul b)-1):=Nat.pow_le_pow_right (by omega) (by omega)
    omega
   ·right
    refine⟨by omega,?_,by rw[a2N];exact Nat.dvd_zero _,by omega⟩
    rw[show((blen (ul a):Int)-(blen (ul b):Int)).toNat+1=blen (ul a)-blen (ul b)+1 from by omega]
    have h3:=Nat.mul_le_mul_right (2^(blen (ul a)-blen (ul b)+1)) p2
    rw[<-Nat.pow_add,show blen (ul b)-1+(blen (ul a)-blen (ul b)+1)=blen (ul a)from by omega]at h3
    omega
  rintro vals H'-⟨t,r,vr,Hr,lq,rfl,ht1,ht2,hle,hler,hq,hlq,hrest,hqr,hcase⟩
  simp only[cA,nA]
  refine a0a ⟨_,rfl⟩ (a0e (b:=decide (t≥0)) rfl (fun ht=> ?_) (fun ht=> ?_))
  ·have ht:=of_decide_eq_true ht
   obtain⟨k,rfl⟩:∃k:Nat,t=(k:Int):=⟨t.toNat,by omega⟩
   rw[Int.toNat_natCast]at hcase
   obtain⟨_,hr,hdv,hk⟩:=hcase.resolve_left (by omega)
   have e1:IntKind.i64.wrap ((k:Int)-1)=(k:Int)-1:=c4V (by omega) (by omega)
   have hQ:=d6A k (by omega)
   have hR:=d6B k
   have hpk:2^(k+1)=2*2^k:=by rw[Nat.pow_succ,Nat.mul_comm]
   have hrA:r<=ul a:=by omega
   have hnext:∀(q' r':Nat),r'<ul b*2^k->2^k ∣ q'->(((k:Int)-1<0/\r'<ul b)\/(0<=(k:Int)-1/\r'<ul b*2^(((k:Int)-1).toNat+1)/\2^(((k:Int)-1).toNat+1) ∣ q'/\((k:Int)-1).toNat+blen (ul b)<=blen (ul a))):=fun q' r' g2 g3=>by
    by_cases hk0:k=0
    ·left
     subst hk0
     rw[Nat.pow_zero,Nat.mul_one]at g2
     exact⟨by omega,g2⟩
    ·right
     rw[show((k:Int)-1).toNat+1=k from by omega]
     exact⟨by omega,g2,g3,by omega⟩
   refine a0h ((c2q k (hb.mono hle) (by omega) (by omega)).frame hler) rfl ?_
   rintro vt H2 ⟨Hr',⟨s1,s2⟩,s3,s4⟩
   have hq':=hq.frame s4
   simp only[cA,nA]
   obtain⟨lt,dt,tt,vt'⟩:=s2
   obtain⟨lr,dr,tr,vr'⟩:=id hrest
   refine⟨fun h=>(nomatch h),a0h (b5m ((dr.mono s1).mono s3) (dt.mono s3) tr tt) rfl ?_⟩
   rintro c H3 ⟨rfl,c,rfl,hc1,hc2⟩
   rw[vr',vt']at hc1 hc2
   refine⟨fun h=>(nomatch h),a0a ⟨_,rfl⟩ (a0e (b:=decide (c≥0)) rfl (fun hc=> ?_) (fun hc=> ?_))⟩
   ·have hc:=of_decide_eq_true hc
    have hge:ul b*2^k<=r:=by omega
    have llr:lr.length<=a.length:=Um.len_le tr ha.2 (by omega)
    refine a0h ((a7c (dr.mono s1) dt (by omega) (Um.len_le tt dr.2 (by omega)) (by omega)).frame s3) rfl ?_
    rintro vk H4 ⟨Hr2,⟨t1,lk,dk,vk'⟩,t3,t4⟩
    have hq2:=hq'.frame t4
    simp only[cA,nA]
    refine⟨fun h=>(nomatch h),a0h ((a1o false dk).frame t3) rfl ?_⟩
    rintro u H5 ⟨Hr3,⟨e3,w,rfl,hw⟩,w3,w4⟩
    have e3:=e3.symm
    subst e3
    have hq3:=hq2.frame w4
    have ew:(sn false (ul lk)).natAbs=r-ul b*2^k:=by rw[vk',vr',vt'];rfl
    rw[ew]at hw
    simp only[cA,nA]
    have hkl:k/64<lq.length:=by rw[hlq];omega
    have dq:=hq3.2.at (k/64)
    have hdig:=b1s hq3.2 (k/64)
    have hwb:=c5A hdv
    rw[hdig]at hwb
    have hp64:2^(k%64)<18446744073709551616:=d0X (Nat.mod_lt _ (by omega))
    have hor:=b8f (lq.getD (k/64) 0) (2^(k%64)) dq hp64
    rw[hwb]at hor
    have hb1:=c8u (k%64) (Nat.mod_lt _ (by omega))
    have hfit:lq.getD (k/64) 0+2^(k%64)<18446744073709551616:=by
     rw[<-hwb,a8X]
     exact Nat.or_lt_two_pow dq hp64
    refine⟨fun h=>(nomatch h),a0a ⟨_,rfl,rfl⟩ (a1k (k:= .i64) (j:=k/64) rfl rfl rfl rfl (fun _=>rfl) hq3.es hkl (by simp only[rxs,hQ]) (fun _=>rfl) fun p=> ?_)⟩
    simp only[cA,nA]
    refine a0a ?_ (a0a ⟨_,rfl⟩ (a2g (k:= .i64) (j:=k/64) (d:=lq.getD (k/64) 0+2^(k%64)) rfl rfl rfl rfl (fun _=>rfl) (fun _=>rfl) w3 hq3 hkl hfit (by simp only[rxs,hQ]) (fun p=> ?_) rfl fun p2 u2 H6 hl6 h6 _=>⟨⟨(k:Int)-1,r-ul b*2^k,w,Hr2,_,?_,by omega,by omega,hle.trans (s1.trans t1),hl6,h6,by rw[List.length_set];exact hlq,hw,?_,?_⟩,?_⟩))
    ·show(0:Int)<=(k:Int).tmod 64
     rw[hR];omega
    ·simp only[rxs,uv,hR,hb1,hor]
    ·simp only[rxs,e1];rfl
    ·have k1:=a3H (l:=lq) (lq.getD (k/64) 0+2^(k%64)) hkl
     rw[Nat.mul_add,<-c2p k]at k1
     have k2:ul (lq.set (k/64) (lq.getD (k/64) 0+2^(k%64)))=ul lq+2^k:=by omega
     rw[k2,Nat.add_mul,Nat.mul_comm (2^k)]
     omega
    ·have k1:=a3H (l:=lq) (lq.getD (k/64) 0+2^(k%64)) hkl
     rw[Nat.mul_add,<-c2p k]at k1
     have k2:ul (lq.set (k/64) (lq.getD (k/64) 0+2^(k%64)))=ul lq+2^k:=by omega
     rw[k2]
     refine hnext _ _ ?_ ((Nat.dvd_add_right (Nat.dvd_trans ⟨2,by rw[hpk,Nat.mul_comm]⟩ hdv)).2 (Nat.dvd_refl _))
     rw[hpk,<-Nat.mul_assoc,Nat.mul_comm (ul b) 2,Nat.mul_assoc]at hr
     omega
    ·simp only[rxs,e1]
     omega
   ·have hc:=of_decide_eq_false hc
    refine⟨⟨(k:Int)-1,r,vr,Hr',lq,?_,by omega,by omega,hle.trans s1,s3,hq',hlq,hrest.mono s1,hqr,hnext _ _ (by omega) (Nat.dvd_trans ⟨2,by rw[hpk,Nat.mul_comm]⟩ hdv)⟩,?_⟩
    ·simp only[rxs,e1]
    ·simp only[rxs,e1]
     omega
  ·have ht:=of_decide_eq_false ht
   obtain⟨_,hr⟩:=hcase.resolve_right (by omega)
   refine a0f rfl ⟨hle.trans hler,vq,vr,lq,rfl,hq.es,?_,?_⟩
   ·rw[hqr,Nat.add_comm,Nat.add_mul_div_right _ _ hb0,Nat.div_eq_of_lt hr,Nat.zero_add]
   ·rw[hqr,Nat.add_comm,Nat.add_mul_mod_self_right,Nat.mod_eq_of_lt hr];exact hrest.mono hler
end
open Go.RowKit Go.RX Go.WD
open Classical in
theorem a8k {l:List Nat} {n:Nat} (t:Um l) (hv:ul l=n) (h:n<BP 10000):l.length<=5000:=t _ (by rw[hv,<-d6c];exact h)
section
variable {H:PH} {v x y:Value} {z p q:Int}
theorem d4r {w:Value} {n:Nat} (h:Mu H w n):Lw H (.agg #[.bool false,w]) (n:Int):=
 ⟨w,by rw[decide_eq_false (by omega)],by rw[Int.natAbs_natCast];exact h⟩
theorem c7n (b:Bool) {w:Value} {n:Nat} (h:Mu H w n):Value.agg ((Value.bool b).cells++w.cells)= .agg #[.bool b,w]:=by
 rw[h.one.1];rfl
theorem b2J (h:Lw H v z):Con prog 169 [v] H fun u H'=>H'=H/\Lw H u (-z):=by
 have hrq:=h.rq
 obtain⟨w,rfl,l,hd,ht,hv⟩:=h
 refine a0d a0r a8c (by kernel_rfl) rfl (a0a hrq (a0a ⟨_,rfl⟩ (a0h (a1o (!decide (z<0)) hd) rfl ?_)))
 rintro u H' ⟨rfl,hu⟩
 rw[hv,d3z]at hu
 have hr:=hu.rq
 obtain⟨w',rfl,hw'⟩:=hu
 exact⟨fun h=>(nomatch h),a0a hr (a0f rfl ⟨rfl,w',rfl,hw'⟩)⟩
theorem a4B (hx:Lw H x p) (hy:Lw H y q) (hp:Lm p) (hq:Lm q):Con prog 163 [x,y] H fun u H'=>PH.le H H'/\Lw H' u (p+q):=by
 have r1:=hx.rq
 have r2:=hy.rq
 obtain⟨wx,rfl,a,da,ta,va⟩:=hx
 obtain⟨wy,rfl,b,db,tb,vb⟩:=hy
 have la:=a8k ta va hp
 have lb:=a8k tb vb hq
 refine a0d a0r b4Q (by kernel_rfl) rfl (a0a r1 (a0a r2 (a0a ⟨_,rfl⟩ (a0a ⟨_,rfl⟩ (a0e (b:=(decide (p<0)==decide (q<0))) ?_ (fun h=> ?_) (fun h=> ?_))))))
 ·show Value.bool (false !=(decide (p<0)==decide (q<0)))=_
  rw[Bool.false_bne]
 ·refine a0h (c5y da db (by omega) (by omega)) rfl ?_
  rintro u H1 ⟨hl1,l,hd,hv⟩
  refine⟨fun _=>hl1,a0h (a1o (decide (p<0)) hd) rfl ?_⟩
  rintro u2 H2 ⟨rfl,hu⟩
  rw[hv,va,vb,c4W h]at hu
  have hr:=hu.rq
  obtain⟨w',rfl,hw'⟩:=hu
  exact⟨fun _=>PH.le.refl _,a0a hr (a0f rfl ⟨hl1,w',rfl,hw'⟩)⟩
 ·refine a0h (b5m da db ta tb) rfl ?_
  rintro c H1 ⟨rfl,c,rfl,hc1,hc2⟩
  rw[va,vb]at hc1 hc2
  refine⟨fun h=>(nomatch h),a0a ⟨_,rfl⟩ (a0e (b:=decide (c<0)) rfl (fun hc=> ?_) (fun hc=> ?_))⟩
  ·have hc:=of_decide_eq_true hc
   refine a0h (a7c db da (by omega) (Um.len_le ta db.2 (by omega)) (by omega)) rfl ?_
   rintro u H2 ⟨hl1,l,hd,hv⟩
   refine⟨fun _=>hl1,a0h (a1o (decide (q<0)) hd) rfl ?_⟩
   rintro u2 H3 ⟨rfl,hu⟩
   rw[hv,va,vb,b4s (by rw[<-h];exact Bool.beq_comm) (by omega),Int.add_comm]at hu
   have hr:=hu.rq
   obtain⟨w',rfl,hw'⟩:=hu
   exact⟨fun _=>PH.le.refl _,a0a hr (a0f rfl ⟨hl1,w',rfl,hw'⟩)⟩
  ·have hc:=of_decide_eq_false hc
   refine a0h (a7c da db (by omega) (Um.len_le tb da.2 (by omega)) (by omega)) rfl ?_
   rintro u H2 ⟨hl1,l,hd,hv⟩
   refine⟨fun _=>hl1,a0h (a1o (decide (p<0)) hd) rfl ?_⟩
   rintro u2 H3 ⟨rfl,hu⟩
   rw[hv,va,vb,b4s h (by omega)]at hu
   have hr:=hu.rq
   obtain⟨w',rfl,hw'⟩:=hu
   exact⟨fun _=>PH.le.refl _,a0a hr (a0f rfl ⟨hl1,w',rfl,hw'⟩)⟩
theorem a5c (hx:Lw H x p) (hy:Lw H y q) (hp:Lm p) (hq:Lm q):Con prog 98 [x,y] H fun u H'=>PH.le H H'/\Lw H' u (p-q):=by
 have r1:=hx.rq
 have r2:=hy.rq
 have hq':Lm (-q):=by unfold Lm at hq⊢;rw[Int.natAbs_neg];exact hq
 have hx':=hx
 have hy':=hy
 obtain⟨wx,rfl,a,da,ta,va⟩:=hx
 obtain⟨wy,rfl,b,db,tb,vb⟩:=hy
 refine a0d a0r b1c (by kernel_rfl) rfl (a0a r1 (a0a r2 (a0h (b2J hy') rfl ?_)))
 rintro u H1 ⟨rfl,hu⟩
 refine⟨fun _=>PH.le.refl _,a0h (a4B hx' hu hp hq') rfl ?_⟩
 rintro u2 H2 ⟨hl,hu2⟩
 rw[<-Int.sub_eq_add_neg]at hu2
 have hr:=hu2.rq
 obtain⟨w',rfl,hw'⟩:=hu2
 exact⟨fun _=>hl,a0a hr (a0f rfl ⟨hl,w',rfl,hw'⟩)⟩
theorem a8l (hx:Lw H x p) (hy:Lw H y q) (hp:Lm p) (hq:Lm q):Con prog 216 [x,y] H fun u H'=>PH.le H H'/\Lw H' u (p*q):=by
 have r1:=hx.rq
 have r2:=hy.rq
 obtain⟨wx,rfl,a,da,ta,va⟩:=hx
 obtain⟨wy,rfl,b,db,tb,vb⟩:=hy
 have la:=a8k ta va hp
 have lb:=a8k tb vb hq
 refine a0d a0r b1e (by kernel_rfl) rfl (a0a r1 (a0a r2 (a0a ⟨_,rfl⟩ (a0a ⟨_,rfl⟩ (a0h (c5z da db (by omega) (by omega)) rfl ?_)))))
 rintro u H1 ⟨hl1,l,hd,hv⟩
 refine⟨fun _=>hl1,a0h (a1o (true !=(decide (p<0)==decide (q<0))) hd) rfl ?_⟩
 rintro u2 H2 ⟨rfl,hu⟩
 rw[hv,va,vb,d3A]at hu
 have hr:=hu.rq
 obtain⟨w',rfl,hw'⟩:=hu
 exact⟨fun _=>PH.le.refl _,a0a hr (a0f rfl ⟨hl1,w',rfl,hw'⟩)⟩
theorem a7d (hx:Lw H x z):Con prog 95 [x] H fun u H'=>H'=H/\u= .int .i64 (sgI z 0):=by
 have r1:=hx.rq
 obtain⟨wx,rfl,a,da,ta,va⟩:=hx
 have hpos:=ta.pos
 rw[va]at hpos
 refine a0d a0r b4S (by kernel_rfl) rfl (a0a r1 (a0a ⟨_,rfl⟩ (a0e (b:=decide (z<0)) rfl (fun h=> ?_) (fun h=> ?_))))
 ·have h:=of_decide_eq_true h
  refine a0f rfl ⟨rfl,?_⟩
  unfold sgI;rw[if_pos h];rfl
 ·have h:=of_decide_eq_false h
  refine a0t rfl rfl da rfl (a0a ⟨_,rfl⟩ (a0e (b:=((a.length:Int)==0)) rfl (fun h2=> ?_) (fun h2=> ?_)))
  ·have h2:=beq_iff_eq.1 h2
   refine a0f rfl ⟨rfl,?_⟩
   unfold sgI;rw[if_neg h,if_pos (by omega)];rfl
  ·have h2:=beq_eq_false_iff_ne.1 h2
   refine a0f rfl ⟨rfl,?_⟩
   unfold sgI;rw[if_neg h,if_neg (by omega)];rfl
theorem c5D (p q:Int):sgI (p-q) 0=sgI p q:=by
 unfold sgI
 by_cases h1:p<q
 ·rw[if_pos (by omega),if_pos h1]
 ·rw[if_neg (by omega),if_neg h1]
  by_cases h2:p=q
  ·rw[if_pos (by omega),if_pos h2]
  ·rw[if_neg (by omega),if_neg h2]
theorem b5o (hx:Lw H x p) (hy:Lw H y q) (hp:Lm p) (hq:Lm q):Con prog 96 [x,y] H fun u H'=>PH.le H H'/\u= .int .i64 (sgI p q):=by
 have r1:=hx.rq
 have r2:=hy.rq
 have hx':=hx
 have hy':=hy
 obtain⟨wx,rfl,_⟩:=hx
 obtain⟨wy,rfl,_⟩:=hy
 refine a0d a0r d0s (by kernel_rfl) rfl (a0a r1 (a0a r2 (a0h (a5c hx' hy' hp hq) rfl ?_)))
 rintro u H1 ⟨hl,hu⟩
 refine⟨fun h=>(nomatch h),a0h (a7d hu) rfl ?_⟩
 rintro u2 H2 ⟨rfl,rfl⟩
 exact⟨fun h=>(nomatch h),a0f rfl ⟨hl,by rw[c5D];rfl⟩⟩
set_option maxRecDepth 100000 in
theorem b6t (hx:Lw H x p) (hy:Lw H y q) (hp:Lm p) (hq:Lm q) (hq0:q≠0):Con prog 217 [x,y] H fun u H'=>PH.le H H'/\∃a b,u= .tuple #[a,b]/\Lw H' a (p/q)/\Lw H' b (p%q):=by
 have r1:=hx.rq
 have r2:=hy.rq
 obtain⟨wx,rfl,a,da,ta,va⟩:=hx
 obtain⟨wy,rfl,b,db,tb,vb⟩:=hy
 have la:=a8k ta va hp
 have lb:=a8k tb vb hq
 unfold Lm at hp hq
 have hb0:0<ul b:=by rw[vb];omega
 have hR:p.natAbs%q.natAbs<q.natAbs:=Nat.mod_lt _ (by omega)
 have hQ:p.natAbs/q.natAbs<=p.natAbs:=Nat.div_le_self _ _
 obtain⟨s1,s2⟩:=b8l p q (p.natAbs/q.natAbs) (p.natAbs%q.natAbs) hq0 hR (by rw[Nat.mul_comm];exact(Nat.div_add_mod _ _).symm)
 generalize hQd:p.natAbs/q.natAbs=Q at*
 generalize hRd:p.natAbs%q.natAbs=R at*
 refine a0d a0r b1g (by kernel_rfl) rfl (a0a r1 (a0a r2 (a0h (c5C da db ta tb hb0 (by omega) (by omega)) rfl ?_)))
 rintro u H1 ⟨hl1,uq,ur,lq,rfl,dq,vq,hr1⟩
 rw[va,vb,hQd]at vq
 rw[va,vb,hRd]at hr1
 obtain⟨lr,dr,tr,vr⟩:=hr1
 refine⟨fun h=>(nomatch h),a0a ⟨_,rfl,Nat.zero_lt_succ _⟩ (a0a ⟨_,rfl,Nat.lt_succ_self _⟩ (a0a ⟨_,rfl⟩ (a0a ⟨_,rfl⟩ (a0h (a1o (true !=(decide (p<0)==decide (q<0))) dq) rfl ?_))))⟩
 rintro u3 H2 ⟨rfl,hu3⟩
 rw[vq]at hu3
 refine⟨fun _=>PH.le.refl _,a0h (a1o (decide (p<0)) dr) rfl ?_⟩
 rintro u4 H3 ⟨rfl,hu4⟩
 rw[vr]at hu4
 have hr3:=hu3.rq
 have hr4:=hu4.rq
 have hu3':=hu3
 have hu4':=hu4
 obtain⟨w3,rfl,n3⟩:=hu3
 obtain⟨w4,rfl,n4⟩:=hu4
 refine⟨fun _=>PH.le.refl _,a0a hr3 (a0a hr4 (a0a ⟨_,rfl⟩ (a0e rfl (fun h=> ?_) (fun h=> ?_))))⟩
 ·have h:=of_decide_eq_true h
  have hp0:p<0:=by
   rcases Int.lt_or_le p 0 with h1|h1
   ·exact h1
   ·exfalso;unfold sn at h;rw[decide_eq_false (show ¬p<0 by omega)]at h;simp only[Bool.false_eq_true,if_false]at h;omega
  have hR0:R≠0:=by
   intro h0;rw[h0]at h;unfold sn at h;split at h<;>omega
  have eR:sn (decide (p<0)) R= -(R:Int):=by unfold sn;rw[decide_eq_true hp0];rfl
  simp only[hp0,hR0,decide_true,decide_false,Bool.not_false,Bool.and_true,if_true]at s1 s2
  have nb:Mu H3 wy q.natAbs:=⟨b,db.mono hl1,tb,vb⟩
  have hplus:=a4B hu4' (d4r nb) (by unfold Lm;rw[eR,Int.natAbs_neg,Int.natAbs_natCast];omega) (Lm.nat hq)
  refine a0a nb.one.2 (a0h hplus ?_ ?_)
  ·simp only[List.map_cons,List.map_nil]
   congr 2
   show Value.agg ((a0G prog 4).cells++wy.cells)=_
   rw[d3B];exact c7n false nb
  rintro u5 H4 ⟨hl4,hu5⟩
  have e5:sn (decide (p<0)) R+(q.natAbs:Int)=p%q:=by rw[s2,eR];omega
  rw[e5]at hu5
  have hr5:=hu5.rq
  obtain⟨w5,rfl,n5⟩:=hu5
  simp only[cA,nA]
  refine⟨fun h=>(nomatch h),a0a hr5 (a7a (d:=1) rfl rfl (by omega) rfl fun v1 H5 hl5 h5=> ?_)⟩
  simp only[cA,nA]
  have n1:Mu H5 v1 1:=⟨[1],h5.es,Um.of (n:=0) rfl (by decide),rfl⟩
  have hone:Lw H5 (.agg #[.bool (!decide (q<0)),v1]) (if q<0 then 1 else -1):=by
   by_cases h2:q<0
   ·rw[if_pos h2];exact⟨v1,by simp[h2],n1⟩
   ·rw[if_neg h2];exact⟨v1,by simp[h2],n1⟩
  have eQ:(sn (true !=(decide (p<0)==decide (q<0))) Q).natAbs=Q:=by unfold sn;split<;>omega
  have hlm1:Lm (if q<0 then(1:Int)else -1):=by
   split
   ·exact c6V
   ·have:=c6V;unfold Lm at this⊢;exact this
  refine a0a n1.one.2 (a0h (a4B (hu3'.mono (hl4.trans hl5)) hone (by unfold Lm;rw[eQ];omega) hlm1) ?_ ?_)
  ·simp only[List.map_cons,List.map_nil]
   congr 2
   show Value.agg ((Value.bool (!decide (q<0))).cells++v1.cells)=_
   exact c7n _ n1
  rintro u7 H6 ⟨hl6,hu7⟩
  have e7:sn (true !=(decide (p<0)==decide (q<0))) Q+(if q<0 then 1 else -1)=p/q:=by
   rw[s1];unfold sn
   by_cases h2:q<0
   ·simp[h2,hp0]
   ·simp[h2,hp0];omega
  rw[e7]at hu7
  have hr7:=hu7.rq
  obtain⟨w7,rfl,n7⟩:=hu7
  exact⟨fun h=>(nomatch h),a0a hr7 (a0f rfl ⟨hl1.trans (hl4.trans (hl5.trans hl6)),_,_,rfl,⟨w7,rfl,n7⟩,w5,rfl,n5.mono (hl5.trans hl6)⟩)⟩
 ·have h:=of_decide_eq_false h
  have hc:(decide (p<0)&& !decide (R=0))=false:=by
   by_cases h1:p<0
   ·by_cases h2:R=0
    ·simp[h2]
    ·exfalso;apply h;unfold sn;rw[decide_eq_true h1];simp;omega
   ·simp[h1]
  rw[hc]at s1 s2
  simp only[Bool.false_eq_true,if_false]at s1 s2
  have e3:sn (true !=(decide (p<0)==decide (q<0))) Q=p/q:=by
   rw[s1];unfold sn
   by_cases h1:p<0<;>by_cases h2:q<0<;>simp[h1,h2]
  have e4:sn (decide (p<0)) R=p%q:=by
   rw[s2];unfold sn
   by_cases h1:p<0
   ·simp[h1]at hc⊢;omega
   ·simp[h1]
  rw[e3]at n3
  rw[e4]at n4
  refine a0f rfl ⟨hl1,_,_,rfl,⟨w3,?_,n3⟩,w4,?_,n4⟩
  ·rw[<-e3];rfl
  ·rw[<-e4];rfl
end
theorem d0Z {l:List Nat}:∀c∈l.map uv,c.oneCell'=true:=fun c hc=>by obtain⟨d,_,rfl⟩:=List.mem_map.1 hc;rfl
theorem b5p:a0G prog 232=nb false 0:=by kernel_rfl
def dgs (n:Nat):List Nat:=[dig n 0,dig n 1,dig n 2,dig n 3,dig n 4,dig n 5,dig n 6,dig n 7]
theorem d4s (n:Nat):Eg (dgs n):=fun d hd=>by
 simp only[dgs,List.mem_cons,List.not_mem_nil,or_false]at hd
 rcases hd with h|h|h|h|h|h|h|h<;>rw[h]<;>exact b0o _ _
theorem d4t (n:Nat):ul (dgs n)=n%M:=by
 have e:dig n 0+18446744073709551616*(dig n 1+18446744073709551616*(dig n 2+18446744073709551616*(dig n 3+18446744073709551616*(dig n 4+18446744073709551616*(dig n 5+18446744073709551616*(dig n 6+18446744073709551616*(dig n 7+18446744073709551616*0)))))))=n%PW 8:=by
  have h:=fun k=>a1X n k
  rw[h 7,h 6,h 5,h 4,h 3,h 2,h 1,h 0,a2K,Nat.mod_one]
  rw[show PW 7=PW 0*18446744073709551616*18446744073709551616*18446744073709551616*18446744073709551616*18446744073709551616*18446744073709551616*18446744073709551616 from by rw[a0o,a0o,a0o,a0o,a0o,a0o,a0o],show PW 6=PW 0*18446744073709551616*18446744073709551616*18446744073709551616*18446744073709551616*18446744073709551616*18446744073709551616 from by rw[a0o,a0o,a0o,a0o,a0o,a0o],show PW 5=PW 0*18446744073709551616*18446744073709551616*18446744073709551616*18446744073709551616*18446744073709551616 from by rw[a0o,a0o,a0o,a0o,a0o],show PW 4=PW 0*18446744073709551616*18446744073709551616*18446744073709551616*18446744073709551616 from by rw[a0o,a0o,a0o,a0o],show PW 3=PW 0*18446744073709551616*18446744073709551616*18446744073709551616 from by rw[a0o,a0o,a0o],show PW 2=PW 0*18446744073709551616*18446744073709551616 from by rw[a0o,a0o],show PW 1=PW 0*18446744073709551616 from by rw[a0o],a2K]
  omega
 rw[a4n,<-e];rfl
end Go.Proofs.YtkcjbfoejpfbbaaGreatDoor
namespace Go.WD
open Go.RX
theorem d7m {n k:Nat} (h:n<PW k) (hk:k<=8):n<M:=by rw[a4n];exact Nat.lt_of_lt_of_le h (b2l hk)
end Go.WD
namespace Go.Proofs.YtkcjbfoejpfbbaaGreatDoor
open Go.Proofs.Tryz
open Go.RowKit Go.RX Go.WD
theorem a8m:prog.underlying 232=some (.struct (a1d prog 232)):=by kernel_rfl
theorem a8n:1<(a1d prog 232).size:=by decide+kernel
theorem b5q:prog.underlying 230=some (.array 8 34):=by kernel_rfl
theorem a2p:prog.cellsOf 232=9:=by kernel_rfl
theorem c7o (b:Bool) (n:Nat):spl (nb false 0).cells 0 (nb b n).cells.toList=(nb b n).cells:=by
 simp[nb,words,wf,spl,a1J]
theorem c5E (b:Bool):a0u (Value.bool b).cells:=by intro c hc;simp[a4K]at hc;subst hc;rfl
theorem d1a (b:Bool) (n:Nat):((nb b n).cells.toList.drop 1).take 8=(dgs n).map uv:=rfl
section
variable {H:PH}
theorem d1b {o:Oper} {x:Operand} {b:Nat} (ho:o.op= .fieldAddr 232 x 0) (hx:a0g [x] [.pointer (some ⟨b,0,none⟩)] x= .pointer (some ⟨b,0,none⟩)):Yld prog o [.pointer (some ⟨b,0,none⟩)] (.pointer (some ⟨b,0,none⟩)):=
 a2t (T:=4) (off:=0) ho hx a8m (Nat.lt_trans Nat.zero_lt_one a8n) (by kernel_rfl) (by kernel_rfl) (by kernel_rfl) (by decide+kernel)
theorem c2r {o:Oper} {x:Operand} {b:Nat} (ho:o.op= .fieldAddr 232 x 1) (hx:a0g [x] [.pointer (some ⟨b,0,none⟩)] x= .pointer (some ⟨b,0,none⟩)):Yld prog o [.pointer (some ⟨b,0,none⟩)] (.pointer (some ⟨b,1,none⟩)):=
 a2t (T:=230) (off:=1) ho hx a8m a8n (by kernel_rfl) (by kernel_rfl) (by kernel_rfl) (by decide+kernel)
theorem a8o {o:Oper} {x y:Operand} {b:Nat} {v:Value} {cs:Array Value} (ho:o.op= .store 232 x y) (hx:∀v,a0g [x,y] [.pointer (some ⟨b,0,none⟩),v] x= .pointer (some ⟨b,0,none⟩)) (hy:∀v,a0g [x,y] [.pointer (some ⟨b,0,none⟩),v] y=v) (hH:H b=some (.cells cs 232 (0,0))) (hcs:cs.size=9) (hv:v.cells.size=9) (h1:a0u v.cells):
  Opn prog o [.pointer (some ⟨b,0,none⟩),v] H fun _ H'=>H'=H.put b (.cells (spl cs 0 v.cells.toList) 232 (0,0)):=
 (a2X ho (hx v) (hy v) hH (by kernel_rfl) (by rw[a2p];omega) (by rw[a2p];exact hv) h1).mono fun _ _ h=>h.2
theorem b6u {o:Oper} {x:Operand} {b:Nat} {cs:Array Value} (ho:o.op= .load 232 x) (hx:a0g [x] [.pointer (some ⟨b,0,none⟩)] x= .pointer (some ⟨b,0,none⟩)) (hH:H b=some (.cells cs 232 (0,0))) (hcs:cs.size=9):Rds prog o [.pointer (some ⟨b,0,none⟩)] H (.agg cs):=by
 have:=a2I (P:=prog) (T:=232) ho hx hH (by kernel_rfl) (by rw[a2p];omega) (fun h=>by cases h.symm.trans (show a0I prog 232=true by kernel_rfl))
 rw[show a0I prog 232=true by kernel_rfl,if_pos rfl,a2p,Nat.zero_add,<-hcs,Array.extract_size]at this
 exact this
set_option maxRecDepth 100000 in
theorem a7e (a:Nat):Con prog 94 [wd a] H fun u H'=>PH.le H H'/\Lw H' u (toI a):=by
 have hM:=b5Y a
 refine a0d a0r a8a (by kernel_rfl) rfl (a0a ⟨words_size a,words_one a⟩ (a0v (c3Z a) rfl ?_))
 simp only[cA,nA]
 generalize toI a=z at hM
 intro b hb
 show den _ _ _ _ _ (H.put b (.cells (a0G prog 232).cells 232 (0,0)))
 rw[b5p]
 simp only[cA,nA]
 refine a0s (vs:=[.pointer (some ⟨b,0,none⟩),nm z]) (a8o rfl (fun _=>rfl) (fun _=>rfl) (PH.put_self _ _ _) (a4P _ _) (a4P _ _) (b8b _ _)) rfl ?_
 rintro u H1 rfl
 rw[PH.put_put,show spl (nb false 0).cells 0 (nm z).cells.toList=(nm z).cells from c7o _ _]
 have l1:PH.le H (H.put b (.cells (nm z).cells 232 (0,0))):=PH.le_put hb _
 have hB:(H.put b (.cells (nm z).cells 232 (0,0))) b=some (.cells (nm z).cells 232 (0,0)):=PH.put_self _ _ _
 generalize H.put b (.cells (nm z).cells 232 (0,0))=H2 at l1 hB
 refine⟨fun h=>(nomatch h),?_⟩
 simp only[cA,nA]
 refine a0i ((d1b rfl rfl).rds _) rfl (a0i (a8M (w:= .bool (decide (z<0))) rfl rfl hB (by kernel_rfl) (by kernel_rfl) (by kernel_rfl) (by show 0+1<=9;omega) rfl) rfl ?_)
 simp only[cA,nA]
 refine a0i ((c2r rfl rfl).rds _) rfl (a0i ((a3w (vs:=[.pointer (some ⟨b,1,none⟩)]) rfl rfl b5q a2O).rds _) rfl ?_)
 simp only[cA,nA]
 obtain⟨ti,i1,i2,i3,i4⟩:=a5P
 refine a0s (vs:=[]) (a9Y rfl a2f i1) rfl ?_
 rintro v8 H3 ⟨g,hg,rfl,rfl⟩
 have l3:PH.le H2 (H2.put g (.cells #[] 34 (0,0))):=PH.le_put hg _
 simp only[cA,nA]
 have hs:Sl (H2.put g (.cells #[] 34 (0,0))) 1 (.slice (some ⟨b,1,none⟩) 8 8) 8 ((dgs z.natAbs).map uv):=⟨rfl,_,8,rfl,by omega,by simp[maxLen],.inr ⟨b,1,_,_,_,rfl,l3 _ _ hB,d1a _ _⟩⟩
 refine⟨fun _=>l3,a0s (vs:=[.slice (some ⟨g,0,none⟩) 0 0,.slice (some ⟨b,1,none⟩) 8 8]) (b5Q rfl rfl rfl a2f i1 i2 i3 rfl hs (by omega) (by simp[maxLen]) (by rw[i4];omega)) rfl ?_⟩
 rintro v9 H4 ⟨l4,ho⟩
 have hE:Es H4 v9 (dgs z.natAbs):=⟨ho.sl,d4s _⟩
 simp only[cA,nA]
 refine⟨fun _=>l4,a0h (a1o (decide (z<0)) hE) rfl ?_⟩
 rintro u H5 ⟨rfl,hu⟩
 rw[d4t,Nat.mod_eq_of_lt hM,c9S]at hu
 have hr:=hu.rq
 obtain⟨w',rfl,hw'⟩:=hu
 exact⟨fun _=>PH.le.refl _,a0a hr (a0f rfl ⟨l1.trans (l3.trans l4),w',rfl,hw'⟩)⟩
theorem a4C (n:Int) (h0: -9223372036854775808<=n) (h1:n<9223372036854775808):Con prog 159 [.int .i64 n] H fun u H'=>PH.le H H'/\Lw H' u n:=by
 refine a0d a0r b4I (by kernel_rfl) rfl (a0v (b8i n h0 h1) rfl (a0h (a7e (rs n)) rfl ?_))
 rintro u H1 ⟨l1,hu⟩
 rw[toI_rs (a4R h0 h1)]at hu
 have hr:=hu.rq
 obtain⟨w',rfl,hw'⟩:=hu
 exact⟨fun h=>(nomatch h),a0a hr (a0f rfl ⟨l1,w',rfl,hw'⟩)⟩
theorem a7f (n:Nat):(words n).toList=(List.range 8).map fun j=>uv (dig n j):=rfl
theorem b6v {l:List Nat} (h:Eg l) (hl:l.length<=8):l.map uv++(words 0).toList.drop l.length=(words (ul l)).toList:=by
 rw[a7f,a7f]
 apply List.ext_getElem?
 intro j
 rcases Nat.lt_or_ge j l.length with hj|hj
 ·rw[List.getElem?_append_left (by simpa using hj),List.getElem?_map,List.getElem?_map,List.getElem?_range (by omega),c0u hj]
  simp only[Option.map_some]
  rw[b1s h]
 ·rw[List.getElem?_append_right (by simpa using hj),List.length_map,List.getElem?_drop,show l.length+(j-l.length)=j from by omega,List.getElem?_map,List.getElem?_map]
  rcases Nat.lt_or_ge j 8 with h8|h8
  ·rw[List.getElem?_range h8]
   simp only[Option.map_some]
   rw[b1s h,a7X hj,a4o]
  ·rw[List.getElem?_eq_none (by simpa using h8)];rfl
set_option maxRecDepth 100000 in
theorem c2s {v:Value} {z:Int} (hx:Lw H v z):Con prog 93 [v] H fun u H'=>PH.le H H'/\u=b0u z:=by
 have hrq:=hx.rq
 obtain⟨w,rfl,l,dl,tl,vl'⟩:=hx
 have hHM:=c3W
 refine a0d a0r b4K (by kernel_rfl) rfl (a0a hrq (a0t rfl rfl dl rfl (a0a ⟨_,rfl⟩ (a0e (b:=decide ((l.length:Int)>8)) rfl (fun h=> ?_) (fun h=> ?_)))))
 ·have h:=of_decide_eq_true h
  have hge:M<=z.natAbs:=by
   rcases Nat.lt_or_ge z.natAbs M with h1|h1
   ·have:=tl 8 (by rw[vl',<-a4n];exact h1)
    omega
   ·exact h1
  refine a0f ?_ ⟨PH.le.refl _,rfl⟩
  rw[c4h (by have:=c6r;omega)]
  simp only[rxs,a2S,b0r]
 ·have h:=of_decide_eq_false h
  have hlM:z.natAbs<M:=by rw[<-vl'];exact d7m (a5z dl.2) (by omega)
  refine a0a ⟨rfl,c5E _⟩ ?_
  simp only[cA,nA]
  intro b hb
  show den _ _ _ _ _ (H.put b (.cells (a0G prog 232).cells 232 (0,0)))
  rw[b5p]
  simp only[cA,nA]
  obtain⟨V,hV⟩:∃V,V=nb (decide (z<0)) 0:=⟨_,rfl⟩
  have hV9:V.cells.size=9:=by rw[hV];exact a4P _ _
  have hV1:a0u V.cells:=by rw[hV];exact b8b _ _
  have harg:[Value.pointer (some ⟨b,0,none⟩),Value.agg ((Value.bool (decide (z<0))).cells++(a0G prog 230).cells)]=[Value.pointer (some ⟨b,0,none⟩),V]:=by
   rw[b0q,hV];rfl
  have hop:=a8o (v:=V) b1a (fun _=>rfl) (fun _=>rfl) (PH.put_self H b (.cells (nb false 0).cells 232 (0,0))) (a4P _ _) hV9 hV1
  refine @a0s _ _ _ _ _ _ _ _ _ _ _ _ _ hop ?_ ?_
  ·simp only[List.map_cons,List.map_nil]
   exact harg
  rintro u H1 rfl
  rw[PH.put_put,hV,c7o]
  have l1:PH.le H (H.put b (.cells (nb (decide (z<0)) 0).cells 232 (0,0))):=PH.le_put hb _
  refine⟨fun h=>(nomatch h),?_⟩
  simp only[cA,nA]
  refine a0i ((c2r rfl rfl).rds _) rfl (a0i ((a3w (vs:=[.pointer (some ⟨b,1,none⟩)]) rfl rfl b5q a2O).rds _) rfl ?_)
  simp only[cA,nA]
  obtain⟨ti,i1,i2,i3,i4⟩:=a5P
  refine a0s (vs:=[.slice (some ⟨b,1,none⟩) 8 8,w]) (c3z rfl rfl rfl a2f i1 i3 (PH.put_self _ _ _) (dl.mono l1).1 d0Z (by omega) (by show 1+l.length<=9;omega)) rfl ?_
  rintro u H2 rfl
  rw[PH.put_put]
  have ecs:((nb (decide (z<0)) 0).cells.toList.take 1++l.map uv++(nb (decide (z<0)) 0).cells.toList.drop (1+l.length)).toArray=(nm z).cells:=by
   have e1:∀n,(nb (decide (z<0)) n).cells.toList= .bool (decide (z<0))::(words n).toList:=fun n=>by simp[nb,a1J]
   have e2:=b6v dl.2 (by omega)
   rw[vl']at e2
   rw[<-Array.toList_inj,e1 0]
   show[Value.bool (decide (z<0))]++l.map uv++(Value.bool (decide (z<0))::(words 0).toList).drop (1+l.length)=(nb (decide (z<0)) z.natAbs).cells.toList
   rw[e1,Nat.add_comm 1,List.drop_succ_cons,List.append_assoc,e2]
   rfl
  rw[ecs]
  have l2:PH.le H (H.put b (.cells (nm z).cells 232 (0,0))):=PH.le_put hb _
  refine⟨fun h=>(nomatch h),?_⟩
  simp only[cA,nA]
  refine a0i (b6u rfl rfl (PH.put_self _ _ _) (a4P _ _)) rfl (a0v (c4a z hlM) rfl ?_)
  obtain⟨n,e,ht⟩:=b8d z
  rw[ht]
  exact a0a ⟨_,rfl,Nat.zero_lt_succ _⟩ (a0a ⟨_,rfl,Nat.lt_succ_self _⟩ (a0a ⟨words_size n,words_one n⟩ (a0f rfl ⟨l2,rfl⟩)))
end
end Go.Proofs.YtkcjbfoejpfbbaaGreatDoor

/- Chapter 32: sorting, and where an edge stands. -/
import Derived.Test.YtkcjbfoejpfbbaaGreatDoorGxT
import Derived.Test.YtkcjbfoejpfbbaaGreatDoorGqT
import Derived.Test.YtkcjbfoejpfbbaaGreatDoorGaD
import Derived.Test.YtkcjbfoejpfbbaaGreatDoorGsP
import Derived.Test.YtkcjbfoejpfbbaaGreatDoorRzD
import Derived.Test.YtkcjbfoejpfbbaaGreatDoorGwC
import Derived.Test.YtkcjbfoejpfbbaaGreatDoorRzM
namespace Go.RZ
open Go.RowKit Go.RX
theorem d2g {P:Program} {o:Oper} {x y:Operand} {T u:TypeId} {vs:List Value} {a b:List AV} {H:PH} (hk:a5J P T) (ha:a9z P 6 T a=true) (hb:a9z P 6 T b=true) (ho:o.op= .binOp .eql T x y u) (hx:a0h [x,y] vs x=rz (fun _=>(0,0)) (.agg a)) (hy:a0h [x,y] vs y=rz (fun _=>(0,0)) (.agg b)):Rds P o vs H (.bool (a0Z a b)):=fun w _=>by
 have hos:o.op.operands.toList=[x,y]:=by simp[ho,Op.operands]
 have hK:∀t,(fun t=>Nat.beq t T) t=true->a5J P t:=fun t ht=>by rw[a1I ht];exact hk
 have h1:a3M P (fun t=>Nat.beq t T) T (.agg a)=true:=by simp[a3M,ha]
 have h2:a3M P (fun t=>Nat.beq t T) T (.agg b)=true:=by simp[a3M,hb]
 have he:=a6a (σ:=fun _=>(0,0)) hK h1 h2 w
 rw[hos]
 simp only[execOp,ho,hx,hy,Sem.run_bind]
 simp only[rz]at he⊢
 simp[eqGuard,hk.noguard,binOp,he]
theorem d2h {P:Program} {o:Oper} {x y:Operand} {T u:TypeId} {vs:List Value} {a b:List AV} {H:PH} (hk:a5J P T) (ha:a9z P 6 T a=true) (hb:a9z P 6 T b=true) (ho:o.op= .binOp .neq T x y u) (hx:a0h [x,y] vs x=rz (fun _=>(0,0)) (.agg a)) (hy:a0h [x,y] vs y=rz (fun _=>(0,0)) (.agg b)):Rds P o vs H (.bool (!a0Z a b)):=fun w _=>by
 have hos:o.op.operands.toList=[x,y]:=by simp[ho,Op.operands]
 have hK:∀t,(fun t=>Nat.beq t T) t=true->a5J P t:=fun t ht=>by rw[a1I ht];exact hk
 have h1:a3M P (fun t=>Nat.beq t T) T (.agg a)=true:=by simp[a3M,ha]
 have h2:a3M P (fun t=>Nat.beq t T) T (.agg b)=true:=by simp[a3M,hb]
 have he:=a6a (σ:=fun _=>(0,0)) hK h1 h2 w
 rw[hos]
 simp only[execOp,ho,hx,hy,Sem.run_bind]
 simp only[rz]at he⊢
 simp[eqGuard,hk.noguard,binOp,he]
end Go.RZ
namespace Go.GS
open Go.RowKit Go.RX
theorem a4V {P:Program} {ρ:List Value} {a:SV} {k:Nat} (ha:D P ρ a=ii ((k+1:Nat):Int)) (h:k<9223372036854775807):D P ρ (.op2 .sub .i64 a (.k (.int .i64 1)))=ii (k:Nat):=by
 have:=a3s (P:=P) (ρ:=ρ) (a:=a) (b:= .k (.int .i64 1)) ha (y:=1) rfl (by omega) (by omega)
 rw[this]
 show ii _=ii _
 congr 1;omega
end Go.GS
namespace Go.Proofs.YtkcjbfoejpfbbaaGreatDoor
open Go.Proofs.Tryz
open Go.RowKit Go.RX Go.GS Go.RZ
theorem c7P:a5J prog 100:=by
 have big:6<=(prog).types.size+1:=of_decide_eq_true (by kernel_rfl)
 exact⟨by kernel_rfl,by kernel_rfl,by kernel_rfl,by kernel_rfl,by kernel_rfl,big⟩
theorem d2i:a5J prog 66:=by
 have big:6<=(prog).types.size+1:=of_decide_eq_true (by kernel_rfl)
 exact⟨by kernel_rfl,by kernel_rfl,by kernel_rfl,by kernel_rfl,by kernel_rfl,big⟩
def pA (a b:Nat):List AV:=[.int .i64 (.ofNat a),.int .i64 (.ofNat b)]
def cA1 (s:Nat):List AV:=[.int .u64 (.ofNat s)]
theorem c4d {n:Nat} (h:n<9223372036854775808) (d:Nat):a9z prog (d+1) 3 [.int .i64 (.ofNat n)]=true:=by
 have hu:prog.underlying 3=some (.int .i64):=by kernel_rfl
 simp only[a9z,hu,okI]
 rw[show Nat.blt n 9223372036854775808=true from by rw[Nat.blt_eq];exact h]
 rfl
theorem d2j {n:Nat} (h:n<M64) (d:Nat):a9z prog (d+1) 34 [.int .u64 (.ofNat n)]=true:=by
 have hu:prog.underlying 34=some (.int .u64):=by kernel_rfl
 simp only[a9z,hu,okI]
 rw[show Nat.blt n 18446744073709551616=true from by rw[Nat.blt_eq];exact h]
 rfl
theorem b5C {a b:Nat} (ha:a<9223372036854775808) (hb:b<9223372036854775808):a9z prog 6 100 (pA a b)=true:=by
 have hu:prog.underlying 100=some (.array 2 3):=by kernel_rfl
 have h1:prog.cellsOf 100=2:=by kernel_rfl
 have h2:prog.cellsOf 3=1:=by kernel_rfl
 have hr:List.range 2=[0,1]:=by decide
 unfold a9z
 rw[hu]
 simp only[h1,h2,hr,List.all_cons,List.all_nil,Bool.and_true,pA]
 rw[show(List.take 1 (List.drop (Nat.mul 0 1) [AV.int .i64 (.ofNat a),.int .i64 (.ofNat b)]))=[.int .i64 (.ofNat a)]from rfl,show(List.take 1 (List.drop (Nat.mul 1 1) [AV.int .i64 (.ofNat a),.int .i64 (.ofNat b)]))=[.int .i64 (.ofNat b)]from rfl,c4d ha,c4d hb]
 rfl
theorem c4e {s:Nat} (hs:s<M64):a9z prog 6 66 (cA1 s)=true:=by
 have hu:∃nm ex,prog.underlying 66=some (.struct (a1h prog 66))/\nm=ex:=⟨(),(),by kernel_rfl,rfl⟩
 obtain⟨_,_,hu,_⟩:=hu
 have h1:prog.cellsOf 66=1:=by kernel_rfl
 have h2:prog.cellsOf 34=1:=by kernel_rfl
 have h3:(a1h prog 66).toList.map (fun f=>(f.type,f.offset))=[(34,0)]:=by kernel_rfl
 unfold a9z
 rw[hu]
 simp only[h1]
 rw[Bool.and_eq_true]
 refine⟨rfl,List.all_eq_true.2 fun f hf=> ?_⟩
 have hm:(f.type,f.offset)∈[(34,0)]:=by rw[<-h3];exact List.mem_map.2 ⟨f,hf,rfl⟩
 simp only[List.mem_singleton,Prod.mk.injEq]at hm
 rw[hm.1,hm.2,h2]
 exact d2j hs 4
theorem d2k {o:Oper} {x y:Operand} {a b c d:Nat} {H:PH} (ho:o.op= .binOp .eql 100 x y 100) {vs:List Value} (hx:a0h [x,y] vs x=ev2 (a,b)) (hy:a0h [x,y] vs y=ev2 (c,d)) (ha:a<9223372036854775808) (hb:b<9223372036854775808) (hc:c<9223372036854775808) (hd:d<9223372036854775808):
  Rds prog o vs H (.bool (decide ((a,b)=(c,d)))):=by
 have h:=d2g (H:=H) c7P (b5C ha hb) (b5C hc hd) ho (hx.trans (by simp only[pA,rz,rzs];rfl)) (hy.trans (by simp only[pA,rz,rzs];rfl))
 have e:a0Z (pA a b) (pA c d)=decide ((a,b)=(c,d)):=by
  rw[Bool.eq_iff_iff,decide_eq_true_iff]
  simp[pA,a0Z,isK,eqI,Prod.ext_iff]
 rw[e]at h
 exact h
theorem c9t {o:Oper} {x y:Operand} {s t:Nat} {H:PH} (ho:o.op= .binOp .neq 66 x y 66) {vs:List Value} (hx:a0h [x,y] vs x= .agg #[uv s]) (hy:a0h [x,y] vs y= .agg #[uv t]) (hs:s<M64) (ht:t<M64):Rds prog o vs H (.bool (!decide (s=t))):=by
 have h:=d2h (H:=H) d2i (c4e hs) (c4e ht) ho (hx.trans (by simp only[cA1,rz,rzs];rfl)) (hy.trans (by simp only[cA1,rz,rzs];rfl))
 have e:a0Z (cA1 s) (cA1 t)=decide (s=t):=by
  rw[Bool.eq_iff_iff,decide_eq_true_iff]
  simp[cA1,a0Z,isK,eqI]
 rw[e]at h
 exact h
theorem d2l (x y:Int):Det prog 99 [ii x,ii y] (.bool (decide (x<y))):=by
 refine a1e a0n c3w (by kernel_rfl) rfl (a5g (a9K x) rfl ?_)
 exact a0Q ⟨_,rfl⟩ (a9k rfl (a0Q ⟨_,rfl⟩ (a0Q ⟨_,rfl⟩ (a2q rfl rfl))))
theorem c4f {s:Nat} (hs:s<M64):Det prog 154 [uv s] (ii (Go.WD.blen s)):=a1e a0n b5e (by kernel_rfl) rfl (a5g (a2J s hs) rfl (a2q rfl rfl))
section
variable {H H0:PH} {u v w:Value} {l:List Int} {n:Nat} {es:List (Nat×Nat)}
abbrev OI (H0 H:PH) (v:Value) (l:List Int):Prop:=SO H0 H 3 1 (fun z:Int=>[ii z]) v l
theorem c7Q (hle:PH.le H0 H) (ho:OI H0 H u l):Con prog 251 [u,ii 0,ii (l.length:Nat)] H fun _ H'=>PH.le H0 H'/\∃m,m.Perm l/\m.Pairwise (· <= ·)/\OI H0 H' u m:=by
 refine a0j a0n c3u ?_
 have hl:=ho.se.len
 refine a0a ?_
 refine a0i (α:=Nat×List Int) (fun⟨i,m⟩=>[ii (i:Nat)]) (fun⟨i,m⟩=>fun H'=>1<=i/\(i<=l.length\/i=1)/\m.length=l.length/\PH.le H0 H'/\OI H0 H' u m/\m.Perm l/\SoT m i) (fun⟨i,m⟩=>l.length+1-i) ((1,l)) rfl (⟨Nat.le_refl _,.inr rfl,rfl,hle,ho,List.Perm.refl _,d2e _⟩) fun⟨i,m⟩ H' hQ=> ?_
 simp only[cA,nA]
 obtain⟨hi1,hi2,hml,l1,o1,hp,hs⟩:=hQ
 refine a0a ?_
 refine a0a ?_
 refine a0e (b:=decide (((i:Nat):Int)<(l.length:Nat))) rfl (fun h=> ?_) (fun h=> ?_)
 ·replace h:=of_decide_eq_true h
  have hi:i<l.length:=by omega
  refine a0i (α:=Nat×List Int) (fun⟨j,m2⟩=>[ii (j:Nat)]) (fun⟨j,m2⟩=>fun H2=>j<=i/\m2.length=l.length/\PH.le H0 H2/\OI H0 H2 u m2/\d5d l m2 i j) (fun⟨j,m2⟩=>j) ((i,m)) rfl (⟨Nat.le_refl _,hml,l1,o1,c3Y hp hs⟩) fun⟨j,m2⟩ H2 hQ2=> ?_
  simp only[cA,nA]
  obtain⟨hji,hm2,l2,o2,hI⟩:=hQ2
  refine a0a ?_
  refine a0e (b:=decide (((j:Nat):Int)>0)) rfl (fun h2=> ?_) (fun h2=> ?_)
  ·replace h2:=of_decide_eq_true h2
   obtain⟨k,rfl⟩:∃k,j=k+1:=⟨j-1,by omega⟩
   obtain⟨x,hx,_⟩:=a0q (l:=m2) (i:=k+1) (by omega)
   obtain⟨y,hy,_⟩:=a0q (l:=m2) (i:=k) (by omega)
   have hy':m2[k+1-1]? =some y:=hy
   refine a0I el_int rfl rfl rfl rfl (fun _=>rfl) o2.se hx rfl (fun _=>rfl) fun _=> ?_
   simp only[cA,nA]
   refine a0I el_int rfl rfl rfl rfl (fun _=>rfl) o2.se hy (a0F rfl (a4V rfl (by omega))) (fun _=>rfl) fun _=> ?_
   simp only[cA,nA]
   refine a0x (d2l x y) rfl ?_
   simp only[cA,nA]
   refine a0a ?_
   refine a0e (b:=decide (x<y)) rfl (fun h3=> ?_) (fun h3=> ?_)
   ·replace h3:=of_decide_eq_true h3
    refine a0I el_int rfl rfl rfl rfl (fun _=>rfl) o2.se hy (a0F rfl (a4V rfl (by omega))) (fun _=>rfl) fun _=> ?_
    simp only[cA,nA]
    refine a0I el_int rfl rfl rfl rfl (fun _=>rfl) o2.se hx rfl (fun _=>rfl) fun _=> ?_
    simp only[cA,nA]
    refine a0U el_int (a:=y) rfl rfl rfl rfl (fun _=>rfl) (fun _=>rfl) l2 o2 (show k+1<m2.length by omega) rfl (fun _=>rfl) rfl fun p3 u3 H3 l3 o3 _=> ?_
    simp only[cA,nA]
    refine a0U el_int (a:=x) rfl rfl rfl rfl (fun _=>rfl) (fun _=>rfl) l3 o3 (show k<(m2.set (k+1) y).length by rw[List.length_set];omega) (a0F rfl (a4V rfl (by omega))) (fun _=>rfl) rfl fun p4 u4 H4 l4 o4 _=> ?_
    simp only[cA,nA]
    exact⟨(k,(m2.set (k+1) y).set k x),by show k<k+1;omega,(a2S (a4V rfl (by omega))),⟨by show k<=i;omega,by simp[hm2],l4,o4,c7N hI hx hy' (by omega) (by omega) h3⟩⟩
   ·replace h3:=of_decide_eq_false h3
    exact⟨(i+1,m2),by show l.length+1-(i+1)<l.length+1-i;omega,(a2S (a0k rfl (by omega))),⟨by show 1<=i+1;omega,.inl (by show i+1<=l.length;omega),hm2,l2,o2,hI.1,c3Z hI (.inr ⟨x,y,hx,hy',h3⟩)⟩⟩
  ·replace h2:=of_decide_eq_false h2
   exact⟨(i+1,m2),by show l.length+1-(i+1)<l.length+1-i;omega,(a2S (a0k rfl (by omega))),⟨by show 1<=i+1;omega,.inl (by show i+1<=l.length;omega),hm2,l2,o2,hI.1,c3Z hI (.inl (by omega))⟩⟩
 ·replace h:=of_decide_eq_false h
  exact a0b rfl ⟨l1,m,hp,d5e fun a b x y h1 h2 h3 h4=>hs a b x y h1 (by omega) h3 h4,o1⟩
theorem c7R {k:Int} (hle:PH.le H0 H) (ho:OI H0 H u l) (hn:l.length<=12):Con prog 229 [u,ii 0,ii (l.length:Nat),ii k] H fun _ H'=>PH.le H0 H'/\∃m,m.Perm l/\m.Pairwise (· <= ·)/\OI H0 H' u m:=by
 refine a0j a0n c3s ?_
 refine a0i (α:=Unit) (fun⟨⟩=>[ii k,.bool true,ii 0,.bool true,ii (l.length:Nat)]) (fun⟨⟩=>fun H'=>H'=H) (fun⟨⟩=>0) (()) rfl (rfl) fun⟨⟩ H' hQ=> ?_
 simp only[cA,nA]
 subst hQ
 have dd:D prog ([u,ii 0,ii (l.length:Nat),ii k]++[ii k,.bool true,ii 0,.bool true,ii (l.length:Nat)]) (.op2 .sub .i64 (.v 8) (.v 6))=ii ((l.length:Nat):Int):=(a3s (x:=((l.length:Nat):Int)) (y:=0) rfl rfl (by omega) (by omega)).trans (by rw[Int.sub_zero])
 refine a0a ?_
 refine a0a ?_
 refine a0c (by show D _ _ _= .bool true;show a1y .leq .i64 (intOf (D _ _ _)) 12= .bool true;erw [dd];show Value.bool (decide (((l.length:Nat):Int)<=12))=_;rw[decide_eq_true (by omega)]) ?_
 refine a0f (c7Q hle ho) rfl ?_
 rintro _ H2 ⟨l2,h2⟩
 refine⟨fun h=>(nomatch h),?_⟩
 simp only[cA,nA]
 exact a0b rfl ⟨l2,h2⟩
theorem c7S (hle:PH.le H0 H) (ho:OI H0 H u l) (hn:l.length<=12):Con prog 188 [u] H fun _ H'=>PH.le H0 H'/\∃m,m.Perm l/\m.Pairwise (· <= ·)/\OI H0 H' u m:=by
 refine a0j a0n c3q ?_
 have hl:=ho.se.len
 refine a1C el_int rfl rfl ho.se rfl ?_
 refine a0a ?_
 refine a0x (c4f (s:=l.length) (by simp only[M64];omega)) (a2S (b3a rfl (by simp only[M64];omega))) ?_
 refine a0f (c7R hle ho hn) rfl ?_
 rintro _ H2 ⟨l2,h2⟩
 refine⟨fun h=>(nomatch h),?_⟩
 exact a0b rfl ⟨l2,h2⟩
theorem c7T {a b:Nat} (hw:SG H w es) (hg:GV n es) (h64:n<=64) (ha:a<64) (hb:b<64):Asks prog 187 [w,ev2 (a,b)] H (ii (c7O es (a,b))):=by
 refine a0j a0n c3o ?_
 have hl:=hw.len
 refine a0c (el_edge.vcells (a,b)) ?_
 refine a0p el_edge hw ?_
 refine a0A (α:=Nat×Value) (fun⟨i,z⟩=>[z,ii (i:Nat)]) (fun⟨i,z⟩=>i<=es.length/\∀y∈es.take i,y≠(a,b)) (fun⟨i,z⟩=>es.length-i) ((0,ii 0)) rfl (⟨Nat.zero_le _,fun y hy=>by cases hy⟩) fun⟨i,z⟩ hQ=> ?_
 obtain⟨hi,hq⟩:=hQ
 refine a0a ?_
 refine a0a ?_
 refine a0e (b:=decide (((i:Nat):Int)<(es.length:Nat))) rfl (fun h=> ?_) (fun h=> ?_)
 ·replace h:=of_decide_eq_true h
  have hi':i<es.length:=by omega
  obtain⟨e,he,hde⟩:=a0q hi'
  refine a0t el_edge hw he fun _=> ?_
  have hev:=hg.mem he
  obtain⟨c,d⟩:=e
  refine a0u (d2k (a:=a) (b:=b) (c:=c) (d:=d) rfl rfl rfl (by omega) (by omega) (by omega) (by omega)) rfl ?_
  refine a0a ?_
  refine a0e (b:=decide ((a,b)=(c,d))) rfl (fun h2=> ?_) (fun h2=> ?_)
  ·replace h2:=of_decide_eq_true h2
   exact a0b rfl ⟨rfl,congrArg ii (b1U (h2 ▸ he) hq).symm⟩
  ·replace h2:=of_decide_eq_false h2
   exact⟨(i+1,z),by show es.length-(i+1)<es.length-i;omega,(a0F rfl (a0k rfl (by omega))),⟨⟨hi',by rw[take_snoc he];intro y hy;rw[List.mem_append,List.mem_singleton]at hy;rcases hy with hy|rfl;(exact hq y hy);exact fun e=>h2 e.symm⟩,rfl⟩⟩
 ·replace h:=of_decide_eq_false h
  rw[List.take_of_length_le (by omega)]at hq
  exact a0b rfl ⟨rfl,congrArg ii (b5B hq).symm⟩
end
end Go.Proofs.YtkcjbfoejpfbbaaGreatDoor
/- Chapter 32: the neighbours of a node in a set. -/
namespace Go.GS
open Go.RowKit Go.RX
def nbl (es:List (Nat×Nat)) (set x:Nat):List Nat:=els (nb es x&&&set)
theorem c7U {P:Program} {ρ:List Value} {a b c:SV} {p q x r:Nat} (ha:D P ρ a=ii (p:Nat)) (hb:D P ρ b=ii (q:Nat)) (hc:D P ρ c=ii (x:Nat)) (h:p+q=x+r) (hp:p<64) (hq:q<64):D P ρ (.op2 .sub .i64 (.op2 .add .i64 a b) c)=ii (r:Nat):=by
 have h1:=b0W (P:=P) (ρ:=ρ) ha hb (by omega) (by omega)
 have h2:=a3s (P:=P) (ρ:=ρ) h1 hc (by omega) (by omega)
 rw[h2]
 show ii _=ii _
 congr 1;omega
theorem GV.take {n:Nat} {es:List (Nat×Nat)} (h:GV n es) (i:Nat):∀e∈es.take i,e.1<e.2/\e.2<n:=fun e he=>h.ed e (List.mem_of_mem_take he)
end Go.GS
namespace Go.Proofs.YtkcjbfoejpfbbaaGreatDoor
open Go.Proofs.Tryz
open Go.RowKit Go.RX Go.GS
theorem d2m {es:List (Nat×Nat)} {i x:Nat} {e:Nat×Nat} (he:es[i]? =some e):nb (es.take (i+1)) x=if e.1=x then nb (es.take i) x|||2^e.2 else if e.2=x then nb (es.take i) x|||2^e.1 else nb (es.take i) x:=by
 rw[take_snoc he,a9t]
theorem d5f:Sc prog 252:=⟨by kernel_rfl,by kernel_rfl,by kernel_rfl⟩
theorem d2n:FA prog 254 0 0:=⟨by kernel_rfl,of_decide_eq_true (by kernel_rfl),by kernel_rfl,by kernel_rfl,of_decide_eq_true (by kernel_rfl)⟩
theorem d7D:FA prog 254 1 1:=⟨by kernel_rfl,of_decide_eq_true (by kernel_rfl),by kernel_rfl,by kernel_rfl,of_decide_eq_true (by kernel_rfl)⟩
theorem d7E:FA prog 254 2 3:=⟨by kernel_rfl,of_decide_eq_true (by kernel_rfl),by kernel_rfl,by kernel_rfl,of_decide_eq_true (by kernel_rfl)⟩
theorem d2o:FA prog 254 3 4:=⟨by kernel_rfl,of_decide_eq_true (by kernel_rfl),by kernel_rfl,by kernel_rfl,of_decide_eq_true (by kernel_rfl)⟩
theorem c4g:a4w prog 250=true:=by kernel_rfl
def wkc (c n:Nat) (w:Value) (set left:Nat):Array Value:= #[uv c,ii (n:Nat),w,uv set,ii (left:Nat)]
def WkO (c n:Nat) (w:Value) (set left:Nat):Obj:= .cells (wkc c n w set left) 254 (0,0)
def nbx (b j bw x:Nat):PH:=(PH.nil.put b (.cells #[.pointer (some ⟨bw,0,none⟩)] 252 (0,0))).put j (.cells #[ii (x:Nat)] 3 (0,0))
section
variable {H:PH} {w:Value} {n x c set left bw:Nat} {es:List (Nat×Nat)}
theorem bEn (a b:Nat):Value.bool (((a:Nat):Int)==((b:Nat):Int))= .bool (decide (a=b)):=by
 rw[bE];congr 1;apply decide_eq_decide.2;omega
theorem c7V:Con prog 228 [.pointer (some ⟨bw,0,none⟩),ii (x:Nat)] H fun u H'=>∃b j,b≠j/\H'=H.or (nbx b j bw x)/\Disj H (nbx b j bw x)/\u= .func (.func 250) #[] #[.pointer (some ⟨b,0,none⟩),.pointer (some ⟨j,0,none⟩)]:=by
 refine a0j a0n c3g ?_
 refine a0c ⟨rfl,fun c hc=>by simp[D,Value.cells]at hc;subst hc;rfl⟩ ?_
 refine a2i (cs:= #[.pointer (some ⟨bw,0,none⟩)]) rfl fun b hb=> ?_
 refine a0c ⟨rfl,fun c hc=>by simp[D,Value.cells,ii]at hc;subst hc;rfl⟩ ?_
 refine a2i (cs:= #[ii (x:Nat)]) rfl fun j hj=> ?_
 refine a3p (a2e (vs:=[.pointer (some ⟨b,0,none⟩),.pointer (some ⟨j,0,none⟩)]) rfl rfl) rfl ?_
 have hbj:b≠j:=fun e=>by subst e;rw[PH.put_self]at hj;cases hj
 have hj':H j=none:=by rwa[PH.put_ne _ _ (fun e=>hbj e.symm)]at hj
 exact a0b rfl ⟨b,j,hbj,by unfold nbx;rw[PH.put_or hb,PH.or_put (X:=H) hj'],a9p (a9p (b3H H) hb) hj',rfl⟩
theorem c4h {b j:Nat} {Ro:PH} (hbj:b≠j) (hbw:Ro bw=some (WkO c n w set left)) (hw:SG Ro w es) (hg:GV n es) (h64:n<=64) (hs:set<M64) (hT:Tb Ro):
  ItC prog 250 [.pointer (some ⟨b,0,none⟩),.pointer (some ⟨j,0,none⟩)] Ro (nbx b j bw x) (fun pre xs=>∃y,(nbl es set x)[pre.length]? =some y/\xs=[ii (y:Nat)]) (fun xs _=>xs=(nbl es set x).map fun y:Nat=>[ii (y:Int)]) (fun _ _=>True):=by
 intro l J Jx hRo hr X hX hd w' hw'
 refine(a0r (H:=X.or (nbx b j bw x)) (V:=fun _ H'=>∃X' K',PH.le (X'.or K') H'/\Disj X' K'/\((∃xs,xs=(nbl es set x).map (fun y:Nat=>[ii (y:Int)])/\J xs X')\/(∃pre,True/\Jx pre X'))) a0n b5i (by kernel_rfl) rfl ?_ w' hw').mono fun e w' ⟨v,H',he,hst,hV⟩=>⟨v,H',he,hst,hV⟩
 have kb:nbx b j bw x b=some (.cells #[.pointer (some ⟨bw,0,none⟩)] 252 (0,0)):=by unfold nbx;rw[PH.put_ne _ _ hbj];exact PH.put_self _ _ _
 have kj:nbx b j bw x j=some (.cells #[ii (x:Nat)] 3 (0,0)):=PH.put_self _ _ _
 have hb:=PH.or_right hd kb
 have hj:=PH.or_right hd kj
 have hR0:=(hRo _ _ hX).trans (PH.le_or X (nbx b j bw x))
 have hwb:=hR0 _ _ hbw
 have hwe:=hw.mono hR0
 have hl:=hw.len
 have hlt:∀i,nb (es.take i) x<M64:=fun i=>c9V (n:=n) (hg.take i) h64 x
 have hlen:∀{pre X'},J pre X'->PH.le Ro (X'.or (nbx b j bw x)):=fun hJ=>(hRo _ _ hJ).trans (PH.le_or _ _)
 refine a0D d5f rfl rfl hb rfl rfl ?_
 simp only[cA,nA]
 refine a1a ?_
 simp only[cA,nA]
 refine a0z d7D ?_
 simp only[cA,nA]
 refine a0z d4B ?_
 simp only[cA,nA]
 refine a0D d4C rfl rfl hwb rfl rfl ?_
 simp only[cA,nA]
 refine a0p el_edge hwe ?_
 refine a0A (α:=Nat) (fun i=>[uv (nb (es.take i) x),ii (i:Nat)]) (fun i=>i<=es.length) (fun i=>es.length-i) (0) rfl (Nat.zero_le _) fun i hQ=> ?_
 simp only[cA,nA]
 refine a0a ?_
 refine a0a ?_
 refine a0e (b:=decide (((i:Nat):Int)<(es.length:Nat))) rfl (fun h=> ?_) (fun h=> ?_)
 ·replace h:=of_decide_eq_true h
  have hi':i<es.length:=by omega
  obtain⟨e,he,hde⟩:=a0q hi'
  obtain⟨he1,he2⟩:=hg.mem he
  refine a0t el_edge hwe he fun _=> ?_
  simp only[cA,nA]
  refine a0c (el_edge.vcells e) ?_
  refine a0D sc_int rfl rfl hj rfl rfl ?_
  simp only[cA,nA]
  refine a0a ?_
  refine a0a ?_
  refine a0o (p:=(e.1=x)) (bEn _ _) (fun h2=> ?_) fun h2=> ?_
  ·refine a0a ?_
   refine a0D sc_int rfl rfl hj rfl rfl ?_
   simp only[cA,nA]
   refine a0a ?_
   refine a0c (by show(0:Int)<=intOf (D prog _ _);erw [c7U (p:=e.1) (q:=e.2) (x:=x) (r:=e.2) rfl rfl rfl (by omega) (by omega) (by omega)];show(0:Int)<=((e.2:Nat):Int);omega) ?_
   refine a0a ?_
   exact⟨i+1,by omega,(a0F (by rw[d2m he,if_pos h2];exact a4q rfl (a2R (c7U (p:=e.1) (q:=e.2) (x:=x) rfl rfl rfl (by omega) (by omega) (by omega)) (by omega)) (hlt i) (a0R (by omega))) (a0k rfl (by omega))),⟨hi',rfl⟩⟩
  ·refine a0D sc_int rfl rfl hj rfl rfl ?_
   simp only[cA,nA]
   refine a0a ?_
   refine a0a ?_
   refine a0o (p:=(e.2=x)) (bEn _ _) (fun h3=> ?_) fun h3=> ?_
   ·refine a0D sc_int rfl rfl hj rfl rfl ?_
    simp only[cA,nA]
    refine a0a ?_
    refine a0c (by show(0:Int)<=intOf (D prog _ _);erw [c7U (p:=e.1) (q:=e.2) (x:=x) (r:=e.1) rfl rfl rfl (by omega) (by omega) (by omega)];show(0:Int)<=((e.1:Nat):Int);omega) ?_
    refine a0a ?_
    exact⟨i+1,by omega,(a0F (by rw[d2m he,if_neg h2,if_pos h3];exact a4q rfl (a2R (c7U (p:=e.1) (q:=e.2) (x:=x) rfl rfl rfl (by omega) (by omega) (by omega)) (by omega)) (hlt i) (a0R (by omega))) (a0k rfl (by omega))),⟨hi',rfl⟩⟩
   ·exact⟨i+1,by omega,(a0F (by rw[d2m he,if_neg h2,if_neg h3];rfl) (a0k rfl (by omega))),⟨hi',rfl⟩⟩
 ·replace h:=of_decide_eq_false h
  rw[List.take_of_length_le (by omega)]
  refine a0D d5f rfl rfl hb rfl rfl ?_
  simp only[cA,nA]
  refine a1a ?_
  simp only[cA,nA]
  refine a0z d7E ?_
  simp only[cA,nA]
  refine a0D a2K rfl rfl hwb rfl rfl ?_
  simp only[cA,nA]
  refine a0a ?_
  refine a0a ?_
  refine a0i (α:=Nat×Nat×PH) (fun⟨k,s',X'⟩=>[uv s']) (fun⟨k,s',X'⟩=>fun H'=>k<=(nbl es set x).length/\s'<M64/\els s'=(nbl es set x).drop k/\H'=X'.or (nbx b j bw x)/\J (((nbl es set x).take k).map fun x:Nat=>[ii (x:Int)]) X'/\Disj X' (nbx b j bw x)) (fun⟨k,s',X'⟩=>(nbl es set x).length-k) ((0,nb es x&&&set,X)) (a2S (a2H rfl rfl (by have:=hlt es.length;rwa[List.take_length]at this) hs)) (⟨Nat.zero_le _,Nat.lt_of_le_of_lt Nat.and_le_right hs,rfl,rfl,hX,hd⟩) fun⟨k,s',X'⟩ H' hQ=> ?_
  simp only[cA,nA]
  obtain⟨hk,hs',he,rfl,hJ,hd'⟩:=hQ
  refine a0a ?_
  refine a0o (p:=(s'≠0)) (bN0 s') (fun h=> ?_) fun h=> ?_
  ·obtain⟨y,r,hel⟩:∃y r,els s'=y::r:=by
    cases hel:els s' with
    |nil=>exact absurd (a4p hs' hel) h
    |cons y r=>exact⟨y,r,rfl⟩
   have htz:tz s'=y:=by simp[tz,hel]
   have hk':k<(nbl es set x).length:=by
    apply Nat.lt_of_not_le;intro hh
    rw[List.drop_eq_nil_of_le hh,hel]at he;cases he
   obtain⟨z,hz,hdz⟩:=a0q hk'
   rw[<-he,hel]at hdz
   obtain⟨rfl,hr'⟩:=List.cons.inj hdz
   refine a0s (b1w (hT.mono (hlen hJ)) hs') rfl ?_
   simp only[cA,nA]
   rw[htz]
   refine a3o (hr _ [ii (y:Nat)] X' (nbx b j bw x) ⟨y,by simp[Nat.min_eq_left hk,hz],rfl⟩ hJ hd') rfl rfl rfl rfl rfl fun v X2 hd2 hV=> ?_
   simp only[cA,nA]
   obtain⟨bb,rfl,hb1,hb2⟩:∃bb,v= .bool bb/\(bb=true->J ((((nbl es set x).take k).map fun x:Nat=>[ii (x:Int)])++[[ii (y:Nat)]]) X2)/\(bb=false->Jx ((((nbl es set x).take k).map fun x:Nat=>[ii (x:Int)])++[[ii (y:Nat)]]) X2):=by
    rcases hV with⟨rfl,h⟩|⟨rfl,h⟩
    ·exact⟨true,rfl,fun _=>h,(fun h=>nomatch h)⟩
    ·exact⟨false,rfl,(fun h=>nomatch h),fun _=>h⟩
   refine a0a ?_
   refine a0e (b:= !bb) rfl (fun hbb=> ?_) (fun hbb=> ?_)
   ·skip
    exact a0b rfl ⟨X2,_,PH.le.refl _,hd2,.inr ⟨_,trivial,hb2 (by simpa using hbb)⟩⟩
   ·skip
    exact⟨(k+1,s'&&&(s'-1),X2),by show(nbl es set x).length-(k+1)<(nbl es set x).length-k;omega,(a2S (a2H rfl (a8c (B:=1) rfl rfl hs' (by omega)) hs' (Nat.lt_of_le_of_lt (Nat.sub_le _ _) hs'))),⟨by show k+1<=(nbl es set x).length;omega,Nat.lt_of_le_of_lt Nat.and_le_left hs',by rw[a9r hs' hel];exact hr',rfl,by rw[take_snoc hz,List.map_append];exact hb1 (by simpa using hbb),hd2⟩⟩
  ·have h0:s'=0:=by omega
   subst h0
   have hk2:(nbl es set x).length<=k:=by
    rw[show els 0=[]from rfl]at he
    have:=congrArg List.length he
    rw[List.length_drop]at this;simp at this;omega
   rw[List.take_of_length_le hk2]at hJ
   exact a0b rfl ⟨X',_,PH.le.refl _,hd',.inl ⟨_,rfl,hJ⟩⟩
theorem b6W {b j:Nat} {Ro:PH} (hbj:b≠j) (hbw:Ro bw=some (WkO c n w set left)) (hw:SG Ro w es) (hg:GV n es) (h64:n<=64) (hs:set<M64) (hT:Tb Ro):
  ItC prog 250 [.pointer (some ⟨b,0,none⟩),.pointer (some ⟨j,0,none⟩)] Ro (nbx b j bw x) (fun pre xs=>∃y,((nbl es set x).map fun y:Nat=>(y:Int))[pre.length]? =some y/\xs=[ii y]) (fun xs _=>xs=((nbl es set x).map fun y:Nat=>(y:Int)).map fun y:Int=>[ii y]) (fun _ _=>True):=by
 have h:=c4h (x:=x) hbj hbw hw hg h64 hs hT
 have e1:(fun(pre:List (List Value)) (xs:List Value)=>∃y,(nbl es set x)[pre.length]? =some y/\xs=[ii (y:Nat)])=fun(pre:List (List Value)) (xs:List Value)=>∃y,((nbl es set x).map fun y:Nat=>(y:Int))[pre.length]? =some y/\xs=[ii y]:=by
  funext pre xs
  apply propext
  rw[List.getElem?_map]
  constructor
  ·rintro⟨y,h1,h2⟩;exact⟨(y:Int),by rw[h1];rfl,h2⟩
  ·rintro⟨y,h1,h2⟩
   obtain⟨z,h3,rfl⟩:=Option.map_eq_some_iff.1 h1
   exact⟨z,h3,h2⟩
 have e2:((nbl es set x).map fun y:Nat=>(y:Int)).map (fun y:Int=>[ii y])=(nbl es set x).map fun y:Nat=>[ii (y:Int)]:=by rw[List.map_map];rfl
 rw[e1]at h
 rw[e2]
 exact h
theorem c7W {f:FuncId} {caps:List Value} {X K Ro:PH} {L:List Int} (hit:ItC prog f caps Ro K (fun pre xs=>∃y,L[pre.length]? =some y/\xs=[ii y]) (fun xs _=>xs=L.map fun y:Int=>[ii y]) (fun _ _=>True)) (hent:a4w prog f=true) (hd:Disj X K) (hRo:PH.le Ro X) (hL:L.length<=1000):
  Con prog 249 [.slice none 0 0,.func (.func f) #[] caps.toArray] (X.or K) fun u H'=>PH.le X H'/\OI X H' u L:=by
 refine a0j a0n c3m ?_
 refine a0c ⟨rfl,fun c hc=>by simp[D,Value.cells]at hc;subst hc;rfl⟩ ?_
 refine b8m (X:=X) (K:=K) (Ro:=Ro) (fun pre vals X'=>PH.le X X'/\∃v,vals=[v]/\v.cells= #[v]/\OI X X' v (L.take pre.length)) (fun _ _ _=>False) hit hent hd rfl (fun _ _ _ h=>hRo.trans h.1) ⟨PH.le.refl _,_,rfl,rfl,SO.nil _ _ _ _ _⟩ ?_ ?_ ?_
 ·rintro pre xs vals X' ⟨y,hy,rfl⟩ _ ⟨l1,v,rfl,hvc,ho⟩
  refine⟨rfl,?_⟩
  refine a0B el_int rfl rfl rfl (fun _=>rfl) (fun _=>rfl) l1 ho (by rw[List.length_take];omega) rfl (fun _=>a0F (b3b rfl hvc) rfl) rfl fun p v' X2 l2 o2=> ?_
  refine a0c (o2.se.one) ?_
  exact⟨l2,v',rfl,o2.se.cells,by rw[List.length_append];simp only[List.length_cons,List.length_nil];rw[take_snoc hy];exact o2⟩
 ·rintro xs vals X' K' rfl hd _ ⟨l1,v,rfl,hvc,ho⟩
  rw[List.length_map,List.take_length]at ho
  simp only[cA,nA]
  exact a0b (b3b rfl hvc) ⟨l1.trans (PH.le_or _ _),ho.mono (PH.le_or _ _)⟩
 ·exact fun _ _ _ _ _ _ _ h=>h.elim
theorem c7X {f:FuncId} {caps:List Value} {X K Ro:PH} {L:List Int} (hit:ItC prog f caps Ro K (fun pre xs=>∃y,L[pre.length]? =some y/\xs=[ii y]) (fun xs _=>xs=L.map fun y:Int=>[ii y]) (fun _ _=>True)) (hent:a4w prog f=true) (hd:Disj X K) (hRo:PH.le Ro X) (hL:L.length<=1000):
  Con prog 227 [.func (.func f) #[] caps.toArray] (X.or K) fun u H'=>PH.le X H'/\OI X H' u L:=by
 refine a0j a0n c3k ?_
 refine a0f (c7W hit hent hd hRo hL) rfl ?_
 rintro u H1 ⟨l1,h1⟩
 refine⟨fun h=>(nomatch h),?_⟩
 exact a0b rfl ⟨l1,h1⟩
end
end Go.Proofs.YtkcjbfoejpfbbaaGreatDoor
/- Chapter 32: walks at random. -/
namespace Go.RX
open Go.RowKit
theorem SO.tr {α:Type} {e:TypeId} {sz:Nat} {ce:α->List Value} {v:Value} {l:List α} {H0 H H0' H2:PH} (h:SO H0 H e sz ce v l) (h2:∀g ob,H0 g=none->H g=some ob->H0' g=none/\H2 g=some ob):SO H0' H2 e sz ce v l:=by
 obtain⟨hlen,hv⟩:=h
 refine⟨hlen,hv.imp id ?_⟩
 rintro⟨g,cap,cur,h3,hg0,hg,h4⟩
 obtain⟨h5,h6⟩:=h2 g _ hg0 hg
 exact⟨g,cap,cur,h3,h5,h6,h4⟩
section
variable {P:Program} {o:Oper}
theorem b1V {fn:Fn} {t:Nat} {v:Value} (ho:o.op= .makeFunc fn #[.tmp t] #[]):Run P o [v] (.func fn #[v] #[]):=fun w=>by
 have hos:o.op.operands.toList=[.tmp t]:=by rw[ho];rfl
 unfold Stp
 rw[hos]
 simp only[execOp,ho,Sem.run_bind,Instr.makeFunc,Sem.run_pure,Result.andThen_ok]
 exact⟨by simp[a0h,a5e],Ext.refl _⟩
variable {G:Value->PH->Prop} {nx:List (List Value->PH->Prop)} {ρ:List Value} {H:PH} {t:Tree} {id i b q:Nat} {x y:Operand} {T T':TypeId} {cs:Array Value} {args:List SV} {pf:Bool}
theorem b3o {vs:List Value} (hT:Ag P T vs.length) (ho:o.op= .store T x y) (hx:a0h [x,y] [.pointer (some ⟨b,q,none⟩),.agg vs.toArray] x= .pointer (some ⟨b,q,none⟩)) (hy:a0h [x,y] [.pointer (some ⟨b,q,none⟩),.agg vs.toArray] y= .agg vs.toArray) (hH:H b=some (.cells cs T' (0,0))) (hq:q+vs.length<=cs.size) (h1:∀c∈vs,a7M c=true) (ha:args.map (D P ρ)=[.pointer (some ⟨b,q,none⟩),.agg vs.toArray]) (hpf:pf=false)
  (n:den P G t nx (ρ++[undef]) (H.put b (.cells (spl cs q vs) T' (0,0)))):den P G (.eff pf id i o args t) nx ρ H:=by
 refine a0H (a3j ho hx hy hH hT.has (by rw[hT.cel];omega) (by rw[hT.cel];rfl) (fun c hc=>h1 c (by simpa[a1F]using hc))) ha ?_
 rintro v H' ⟨rfl,rfl⟩
 exact⟨fun h=>(by rw[hpf]at h;cases h),n⟩
end
end Go.RX
namespace Go.GS
open Go.RowKit Go.RX
def a1m (s n:Nat):Nat×Nat×Nat:=if n=0 then(0,0,2)else match a7B n 200 s with
 |some (x,t)=>(x,t,0)
 |none=>(0,0,9)
theorem a7u {s n:Nat} (h:(a1m s n).2.2=0):(a1m s n).1<n:=by
 unfold a1m at h⊢
 split at h
 ·cases h
 ·rename_i hn
  rw[if_neg hn]
  cases hf:a7B n 200 s with
  |none=>rw[hf]at h;cases h
  |some p=>exact(b0a (by omega) hf).1
theorem a2B (s n:Nat):(a1m s n).2.1<M64:=by
 unfold a1m
 split
 ·exact a2s
 ·rename_i hn
  cases hf:a7B n 200 s with
  |none=>exact a2s
  |some p=>exact(b0a (by omega) hf).2
def a2C (es:List (Nat×Nat)) (set til:Nat):Nat->List Nat->Nat->Nat->Nat ⊕ (List Nat×Nat×Nat)
 |0,out,x,c=>if bit til x=true then .inr (out,c,0)else .inl 9
 |k+1,out,x,c=>if bit til x=true then .inr (out,c,k+1)else
  if(a1m c (nbl es set x).length).2.2=0 then
   a2C es set til k (out++[(nbl es set x).getD (a1m c (nbl es set x).length).1 0]) ((nbl es set x).getD (a1m c (nbl es set x).length).1 0) (a1m c (nbl es set x).length).2.1
  else .inl (a1m c (nbl es set x).length).2.2
theorem a4W {es:List (Nat×Nat)} {set til x:Nat} (h:bit til x=true) (k:Nat) (out:List Nat) (c:Nat):a2C es set til k out x c= .inr (out,c,k):=by
 cases k<;>simp only[a2C,h,if_true]
theorem a5t {es:List (Nat×Nat)} {set til x:Nat} (h:bit til x=false) (out:List Nat) (c:Nat):a2C es set til 0 out x c= .inl 9:=by
 simp only[a2C,h];rfl
theorem b3p (es:List (Nat×Nat)) (set x:Nat):(nbl es set x).length<=64:=a1G _
theorem c4i {n:Nat} {es:List (Nat×Nat)} (hg:GV n es) (h64:n<=64) {set x y:Nat} (hs:set<M64) (h:y∈nbl es set x):y<n:=by
 have h1:=(a2j (Nat.lt_of_le_of_lt Nat.and_le_right hs)).1 h
 have h2:bit (nb es x) y=true:=by
  have:bit (nb es x&&&set) y=(bit (nb es x) y&&bit set y):=Nat.testBit_and _ _ _
  rw[this,Bool.and_eq_true]at h1;exact h1.1
 obtain⟨e,he,h3⟩:=(b8y es x y).1 h2
 have:=hg.ed e he
 rcases h3 with⟨_,h⟩|⟨_,_,h⟩<;>omega
end Go.GS
namespace Go.Proofs.YtkcjbfoejpfbbaaGreatDoor
open Go.Proofs.Tryz
open Go.RowKit Go.RX Go.GS
theorem b5D (s n:Nat):a8M s (n:Nat)= .tuple #[ii ((a1m s n).1:Nat),chV (a1m s n).2.1,ii ((a1m s n).2.2:Nat)]:=by
 unfold a8M a1m
 by_cases h:n=0
 ·subst h;rfl
 ·rw[if_neg (by omega),if_neg h,Int.toNat_natCast]
  cases a7B n 200 s with
  |none=>rfl
  |some p=>rfl
theorem b0b (H:PH) (b:Nat) (ob:Obj):PH.le (a1W H b) (H.put b ob):=fun k o hk=>by
 unfold a1W at hk
 by_cases e:k=b
 ·rw[if_pos e]at hk;cases hk
 ·rw[if_neg e]at hk;rw[PH.put_ne _ _ e];exact hk
theorem a5L (H:PH) (b:Nat):PH.le (a1W H b) H:=fun k o hk=>by
 unfold a1W at hk
 by_cases e:k=b
 ·rw[if_pos e]at hk;cases hk
 ·rw[if_neg e]at hk;exact hk
theorem a8N {H H1:PH} {b:Nat} (h:PH.le H H1) (ob:Obj):PH.le (a1W H b) (H1.put b ob):=fun k o hk=>by
 unfold a1W at hk
 by_cases e:k=b
 ·rw[if_pos e]at hk;cases hk
 ·rw[if_neg e]at hk;rw[PH.put_ne _ _ e];exact h _ _ hk
theorem a0K {H H':PH} {b:Nat} {ob:Obj} (h:PH.le (H.put b ob) H'):PH.le (a1W H b) H'/\H' b=some ob:=⟨(b0b H b ob).trans h,h _ _ (PH.put_self _ _ _)⟩
theorem b6X {H H':PH} {b:Nat} {ob:Obj} (h:PH.le (a1W H b) H') (hb:H' b=some ob):PH.le (H.put b ob) H':=fun k o hk=>by
 by_cases e:k=b
 ·subst e;rw[PH.put_self]at hk;rw[hb];exact hk
 ·rw[PH.put_ne _ _ e]at hk
  exact h k o (by unfold a1W;rw[if_neg e];exact hk)
theorem a4v {H H1 H2:PH} {b:Nat} {o1 o2:Obj} (h1:PH.le (H.put b o1) H1) (h2:PH.le (H1.put b o2) H2):PH.le (H.put b o2) H2:=by
 obtain⟨a1,a2⟩:=a0K h1
 obtain⟨c1,c2⟩:=a0K h2
 refine b6X (fun k o hk=> ?_) c2
 have hk1:=a1 k o hk
 refine c1 k o ?_
 unfold a1W at hk⊢
 by_cases e:k=b
 ·rw[if_pos e]at hk;cases hk
 ·rw[if_neg e];exact hk1
theorem b1W {H H1 H2:PH} {b:Nat} {o1:Obj} (h1:PH.le (H.put b o1) H1) (h2:PH.le H1 H2):PH.le (H.put b o1) H2:=h1.trans h2
theorem SO.kp {α:Type} {e:TypeId} {sz:Nat} {ce:α->List Value} {v:Value} {l:List α} {X H H2:PH} {b:Nat} {o2:Obj} (hX:X b≠none) (h:SO X H e sz ce v l) (h2:PH.le (H.put b o2) H2):SO X H2 e sz ce v l:=
 h.tr fun g ob h3 h4=>⟨h3,(a0K h2).1 g ob (by unfold a1W;rw[if_neg (fun e=>by subst e;exact hX h3)];exact h4)⟩
theorem SO.base {α:Type} {e:TypeId} {sz:Nat} {ce:α->List Value} {v:Value} {l:List α} {X H:PH} {b:Nat} (o2:Obj) (hX:X b≠none) (h:SO X H e sz ce v l):SO (X.put b o2) H e sz ce v l:=
 h.tr fun g ob h3 h4=>⟨by rw[PH.put_ne _ _ (fun e=>by subst e;exact hX h3)];exact h3,h4⟩
theorem SO.unbase {α:Type} {e:TypeId} {sz:Nat} {ce:α->List Value} {v:Value} {l:List α} {X H:PH} {b:Nat} {o2:Obj} (h:SO (X.put b o2) H e sz ce v l):SO X H e sz ce v l:=
 h.tr fun g ob h3 h4=>⟨by
  have e:g≠b:=fun e=>by subst e;rw[PH.put_self]at h3;cases h3
  rwa[PH.put_ne _ _ e]at h3,h4⟩
theorem c7Y:a4w prog 225=true:=by kernel_rfl
def fwb (bw:Nat):Value:= .func (.func 225) #[.pointer (some ⟨bw,0,none⟩)] #[]
section
variable {H:PH} {u w:Value} {n x c set til left bw m:Nat} {es:List (Nat×Nat)} {l:List Nat}
theorem c7Z (hb:H bw=some (WkO c n w set left)) (hc:c<M64) (hm:m<9223372036854775808):Con prog 225 [.pointer (some ⟨bw,0,none⟩),ii (m:Nat)] H fun u H'=>u= .tuple #[ii ((a1m c m).1:Nat),ii ((a1m c m).2.2:Nat)]/\PH.le (H.put bw (WkO (a1m c m).2.1 n w set left)) H':=by
 refine a0j a0n c3e ?_
 have hs':=a2B c m
 refine a1a ?_
 refine a0z d2n ?_
 refine a1D (vs:=[uv c]) a4U rfl rfl hb rfl (show 1<=5 by omega) rfl ?_
 refine a0v ((b5D c m ▸ b1T (s:=c) (z:=(m:Nat)) hc (by omega))) rfl fun H1 l1=> ?_
 refine a0m ?_
 refine a0m ?_
 refine a0m ?_
 refine a0c (a0W _) ?_
 refine a1a ?_
 refine a0z d2n ?_
 refine b3o (vs:=[uv (a1m c m).2.1]) a4U rfl rfl rfl (l1 _ _ hb) (by show 0+1<=5;omega) (by intro c hc;simp at hc;subst hc;rfl) rfl rfl ?_
 exact a0b rfl ⟨rfl,b6X (a8N l1 _) (PH.put_self _ _ _)⟩
theorem c8a (hb:H bw=some (WkO c n w set left)) (hc:c<M64) (hu:SI (a1W H bw) u (l.map fun y:Nat=>(y:Int))) (hl:l.length<=64):Con prog 226 [u,fwb bw] H fun r H'=>r= .tuple #[ii ((if(a1m c l.length).2.2=0 then l.getD (a1m c l.length).1 0 else 0:Nat):Int),ii ((a1m c l.length).2.2:Nat)]/\PH.le (H.put bw (WkO (a1m c l.length).2.1 n w set left)) H':=by
 refine a0j a0n c3c ?_
 have hcut:PH.le (a1W H bw) H:=a5L H bw
 have hlen:(l.map fun y:Nat=>(y:Int)).length=l.length:=List.length_map _
 refine a0p el_int (hu.mono hcut) ?_
 rw[hlen]
 refine a0H (Go.RZ.opn_callw (P:=prog) (ws:=[ii (l.length:Nat)]) (bs:= #[.pointer (some ⟨bw,0,none⟩)]) (caps:= #[]) (vs:=[fwb bw,ii (l.length:Nat)]) rfl rfl rfl c7Y (c7Z (m:=l.length) hb hc (by omega))) rfl ?_
 rintro v H1 ⟨rfl,l1⟩
 refine⟨fun h=>(nomatch h),?_⟩
 have hu1:=hu.mono (a0K l1).1
 refine a0m ?_
 refine a0m ?_
 refine a0a ?_
 refine a0o (p:=((a1m c l.length).2.2≠0)) (bN0 _) (fun h=> ?_) fun h=> ?_
 ·exact a0b rfl ⟨by rw[if_neg h];rfl,l1⟩
 ·have h0:(a1m c l.length).2.2=0:=by omega
  have hk:=a7u h0
  obtain⟨y,hy,_⟩:=a0q hk
  refine a0I el_int rfl rfl rfl rfl (fun _=>rfl) hu1 (show(l.map fun y:Nat=>(y:Int))[(a1m c l.length).1]? =some (y:Int) by rw[List.getElem?_map,hy];rfl) rfl (fun _=>rfl) fun _=> ?_
  exact a0b rfl ⟨by rw[if_pos h0,h0,List.getD_eq_getElem?_getD,hy];rfl,l1⟩
def WkR (H H':PH) (bw n:Nat) (w:Value) (set:Nat) (r:Value):Nat ⊕ (List Nat×Nat×Nat)->Prop
 | .inl e=>PH.le (a1W H bw) H'/\e≠0/\∃v,r= .tuple #[v,ii (e:Nat)]
 | .inr (l,c,left)=>c<M64/\PH.le (H.put bw (WkO c n w set left)) H'/\∃v,r= .tuple #[v,ii 0]/\OI H H' v (l.map fun y:Nat=>(y:Int))
theorem c8b (hb:H bw=some (WkO c n w set left)) (hw:SG (a1W H bw) w es) (hg:GV n es) (h64:n<=64) (hT:Tb (a1W H bw)) (hs:set<M64) (ht:til<M64) (hc:c<M64) (hx:x<n) (hleft:left<=10000):
  Con prog 185 [.pointer (some ⟨bw,0,none⟩),ii (x:Nat),uv til] H fun r H'=>WkR H H' bw n w set r (a2C es set til left [x] x c):=by
 refine a0j a0n c2Y ?_
 have hbn:H bw≠none:=by rw[hb];exact fun h=>nomatch h
 refine a1Z el_int rfl rfl rfl fun v3 H1 l1 o1 _=> ?_
 simp only[cA,nA]
 refine a3p (b1V rfl) rfl ?_
 simp only[cA,nA]
 refine a0i (α:=List Nat×Nat×Nat×Nat×Value) (fun⟨out,y,d,k,v⟩=>[.slice none 0 0,ii 0,ii (y:Nat),v]) (fun⟨out,y,d,k,v⟩=>fun H'=>a2C es set til k out y d=a2C es set til left [x] x c/\y<n/\d<M64/\out.length+k<=10001/\PH.le (H.put bw (WkO d n w set k)) H'/\OI H H' v (out.map fun y:Nat=>(y:Int))) (fun⟨out,y,d,k,v⟩=>k) (([x],x,c,left,v3)) rfl (⟨rfl,hx,hc,by show 1+left<=10001;omega,b6X ((a5L H bw).trans l1) (l1 _ _ hb),o1⟩) fun⟨out,y,d,k,v⟩ H' hQ=> ?_
 simp only[cA,nA]
 obtain⟨hR,hy,hd,hlk,l2,o2⟩:=hQ
 obtain⟨lc,hb2⟩:=a0K l2
 refine a0a ?_
 refine a0c ⟨_,_,rfl⟩ ?_
 refine a0c (by show(0:Int)<=((y:Nat):Int);omega) ?_
 refine a0e (b:=bit til y) (b6h rfl ht rfl (by omega)) (fun h=> ?_) (fun h=> ?_)
 ·skip
  rw[a4W h]at hR
  exact a0b rfl (by rw[<-hR];exact⟨hd,l2,v,rfl,o2⟩)
 ·skip
  refine a1a ?_
  simp only[cA,nA]
  refine a0z d2o ?_
  simp only[cA,nA]
  refine a0D sc_int rfl rfl hb2 rfl rfl ?_
  simp only[cA,nA]
  refine a0a ?_
  refine a0o (p:=(k=0)) (bE0 _) (fun hk=> ?_) fun hk=> ?_
  ·subst hk
   rw[a5t (by simpa using h)]at hR
   exact a0b rfl (by rw[<-hR];exact⟨lc,by decide,_,rfl⟩)
  ·obtain⟨k,rfl⟩:∃j,k=j+1:=⟨k-1,by omega⟩
   refine a1a ?_
   simp only[cA,nA]
   refine a0z d2o ?_
   simp only[cA,nA]
   refine a0D sc_int rfl rfl hb2 rfl rfl ?_
   simp only[cA,nA]
   refine a0a ?_
   refine a1a ?_
   simp only[cA,nA]
   refine a0z d2o ?_
   simp only[cA,nA]
   refine a6J (u:=ii (k:Nat)) sc_int rfl rfl rfl hb2 (by show 4<5;omega) rfl rfl (a0F rfl (a4V rfl (by omega))) (fun h=>(nomatch h)) ?_
   simp only[cA,nA]
   have l3:PH.le (H.put bw (WkO d n w set k)) (H'.put bw (WkO d n w set k)):=a4v l2 (PH.le.refl _)
   have o3:OI H (H'.put bw (WkO d n w set k)) v (out.map fun y:Nat=>(y:Int)):=SO.kp hbn o2 (PH.le.refl _)
   show den prog _ _ _ _ (H'.put bw (WkO d n w set k))
   generalize hH3:H'.put bw (WkO d n w set k)=H3 at l3 o3⊢
   obtain⟨lc3,hb3⟩:=a0K l3
   have hcon:=c7V (H:=H3) (bw:=bw) (x:=y)
   refine a0f (hcon) rfl ?_
   rintro f H4 ⟨b,j,hbj,rfl,hdis,rfl⟩
   refine⟨fun h=>(nomatch h),?_⟩
   simp only[cA,nA]
   refine a0f (c7X (L:=(nbl es set y).map fun y:Nat=>(y:Int)) (b6W hbj hb3 (hw.mono lc3) hg h64 hs (hT.mono lc3)) c4g hdis (PH.le.refl _) (by rw[List.length_map];have:=b3p es set y;omega)) rfl ?_
   rintro v5 H5 ⟨l5,o5⟩
   refine⟨fun h=>(nomatch h),?_⟩
   simp only[cA,nA]
   have hb5:=l5 _ _ hb3
   have h3n:H3 bw≠none:=by rw[hb3];exact fun h=>nomatch h
   have o5':SI (a1W H5 bw) v5 ((nbl es set y).map fun y:Nat=>(y:Int)):=SO.se (H0:=H3) (o5.tr fun g ob h3 h4=>⟨h3,by unfold a1W;rw[if_neg (fun e=>by subst e;exact h3n h3)];exact h4⟩)
   refine a0f (c8a hb5 hd o5' (b3p es set y)) rfl ?_
   rintro r6 H6 ⟨rfl,l6⟩
   refine⟨fun h=>(nomatch h),?_⟩
   simp only[cA,nA]
   have l6':=a4v (l3.trans l5) l6
   have o6:=SO.kp hbn (o3.mono l5) l6
   refine a0m ?_
   refine a0m ?_
   refine a0a ?_
   refine a0o (p:=((a1m d (nbl es set y).length).2.2≠0)) (bN0 _) (fun h5=> ?_) fun h5=> ?_
   ·rw[show a2C es set til (k+1) out y d= .inl (a1m d (nbl es set y).length).2.2 by simp only[a2C,h,if_neg h5];rfl]at hR
    exact a0b rfl (by rw[<-hR];exact⟨(a0K l6').1,h5,_,rfl⟩)
   ·have h0:(a1m d (nbl es set y).length).2.2=0:=by omega
    rw[if_pos h0]
    have hmem:(nbl es set y).getD (a1m d (nbl es set y).length).1 0<n:=by
     rw[List.getD_eq_getElem?_getD,List.getElem?_eq_getElem (a7u h0)];exact c4i hg h64 hs (List.getElem_mem _)
    refine a0B el_int rfl rfl rfl (fun _=>rfl) (fun _=>rfl) l6' (SO.base (WkO (a1m d (nbl es set y).length).2.1 n w set k) hbn o6) (by rw[List.length_map];omega) rfl (fun _=>rfl) rfl fun p7 v7 H7 l7 o7=> ?_
    simp only[cA,nA]
    have ho7:=SO.unbase o7
    exact⟨(out++[(nbl es set y).getD (a1m d (nbl es set y).length).1 0],(nbl es set y).getD (a1m d (nbl es set y).length).1 0,(a1m d (nbl es set y).length).2.1,k,v7),by show k<k+1;omega,(c8z rfl rfl rfl rfl),⟨by rw[<-hR];simp only[a2C,h,if_pos h0];rfl,hmem,a2B _ _,by show(out++[_]).length+k<=10001;rw[List.length_append];simp only[List.length_cons,List.length_nil];omega,l7,by rw[List.map_append];exact ho7⟩⟩
end
end Go.Proofs.YtkcjbfoejpfbbaaGreatDoor

/- MADE BY rxgen.py: the trees of the helpers of the laws of chapter 02. -/
import Derived.Test.YtmannekkmdockaaGreatDoorWdT
import Derived.Test.YtmannekkmdockaaGreatDoorShC
import Derived.Test.YtmannekkmdockaaGreatDoorRfC
import Derived.Lib.Bytealg
import Derived.Laws.StructEq
import Derived.Test.YtmannekkmdockaaGreatDoorRfI
import Derived.Test.YtmannekkmdockaaGreatDoorShA
namespace Go.Proofs.YtmannekkmdockaaGreatDoor
open Go.Proofs.Tryz
open Go.RowKit Go.RX Go.WD
theorem b4d {a b:Nat} (d:Nat) (w:World):(Op.equalIn (d+2) 56 (wd a) (wd b)).run prog w= .ok (decide (a%M=b%M)) w:=by
 obtain⟨i,hi⟩:∃i,prog.info? 54=some i:=by
  have h:=a2m
  unfold a2s at h;rw[Bool.and_eq_true,Option.isSome_iff_exists]at h;exact h.1
 show(Op.equalIn (d+1+1) 56 (.agg (wf (dig a))) (.agg (wf (dig b)))).run prog w=_
 rw[run_equalIn_array (n:=8) (e:=54) w (d+1) _ _ (by kernel_rfl) hi,a6K a2m a3f b9O (by kernel_rfl) d (dig a) (dig b) w _ (fun i hi=>List.mem_range.1 hi)]
 refine congrArg (fun z=>Result.ok z w) ?_
 rw[Bool.eq_iff_iff,decide_eq_true_iff,decide_eq_true_iff];exact a6L a b
theorem a3X {a b:Nat} (w:World):(Op.equalIn 9999 56 (wd a) (wd b)).run prog w= .ok (decide (a%M=b%M)) w:=b4d 9997 w
noncomputable def fN:Field:=((prog.fieldsOf 58)[0]?).getD default
noncomputable def fD:Field:=((prog.fieldsOf 58)[1]?).getD default
theorem c9L:(prog.fieldsOf 58).toList=[fN,fD]:=by kernel_rfl
theorem d7S:fN.type=56:=by kernel_rfl
theorem d7T:fN.offset=0:=by kernel_rfl
theorem d7U:(fN.name≠ "_")=True:=eq_true (by decide+kernel)
theorem d7V:fD.type=56:=by kernel_rfl
theorem d7W:fD.offset=8:=by kernel_rfl
theorem d7X:(fD.name≠ "_")=True:=eq_true (by decide+kernel)
theorem a2v:prog.cellsOf 56=8:=by kernel_rfl
theorem d4d (a b:Nat) (w:World):(part 56 (words a++words b) 0).run prog w= .ok (wd a) w:=by
 rw[a3S (by kernel_rfl) (by rw[a2v,(a0E a b).1];omega) (by rw[a2v];omega) w,a2v,show a0N prog 56=true from by kernel_rfl,if_pos rfl]
 rw[d7x]
theorem c7M (a b:Nat) (w:World):(part 56 (words a++words b) 8).run prog w= .ok (wd b) w:=by
 rw[a3S (by kernel_rfl) (by rw[a2v,(a0E a b).1];omega) (by rw[a2v];omega) w,a2v,show a0N prog 56=true from by kernel_rfl,if_pos rfl]
 rw[d7y]
theorem a6N (a b c d:Nat) (w:World):(Op.equalIn 10000 58 (shv a b) (shv c d)).run prog w= .ok (decide (a%M=c%M)&&decide (b%M=d%M)) w:=by
 show(Op.equalIn (9999+1) 58 (.agg (words a++words b)) (.agg (words c++words d))).run prog w=_
 rw[run_equalIn_struct w 9999 _ _ _ (by kernel_rfl) (by kernel_rfl),c9L]
 simp only[Op.eqFields,d7U,d7X,d7S,d7T,d7V,d7W,if_true,Sem.run_bind,d4d,Result.andThen_ok,a3X]
 by_cases h1:a%M=c%M
 ·by_cases h2:b%M=d%M
  ·simp[h1,h2,c7M,a3X]
  ·simp[h1,h2,c7M,a3X]
 ·simp[h1]
section
variable {o:Oper} {x y:Operand} {H:PH} {a b c d:Nat}
theorem c5k (ho:o.op= .binOp .eql 58 x y 58) (hx:∀u v,a0f [x,y] [u,v] x=u) (hy:∀u v,a0f [x,y] [u,v] y=v):Yld prog o [shv a b,shv c d] (.bool (decide (a%M=c%M)&&decide (b%M=d%M))):=fun w=>by
 have hos:o.op.operands.toList=[x,y]:=by simp[ho,Op.operands]
 rw[hos]
 have h1:=run_eql_struct (P:=prog) w 58 (words a++words b) (words c++words d)
 have h2:=run_eqGuard_agg (P:=prog) w .eql 58 x y (words a++words b) (words c++words d) (by kernel_rfl)
 have h3:=a6N a b c d w
 simp only[shv]at h3
 rw[h3]at h1
 simp only[execOp,ho,hx,hy,shv,Sem.run_bind,h2,h1,Result.andThen_ok]
 rfl
theorem c5l (ho:o.op= .binOp .neq 58 x y 58) (hx:∀u v,a0f [x,y] [u,v] x=u) (hy:∀u v,a0f [x,y] [u,v] y=v):Yld prog o [shv a b,shv c d] (.bool (!(decide (a%M=c%M)&&decide (b%M=d%M)))):=fun w=>by
 have hos:o.op.operands.toList=[x,y]:=by simp[ho,Op.operands]
 rw[hos]
 have h1:=run_neq_struct (P:=prog) w 58 (words a++words b) (words c++words d)
 have h2:=run_eqGuard_agg (P:=prog) w .neq 58 x y (words a++words b) (words c++words d) (by kernel_rfl)
 have h3:=a6N a b c d w
 simp only[shv]at h3
 rw[h3]at h1
 simp only[execOp,ho,hx,hy,shv,Sem.run_bind,h2,h1,Result.andThen_ok]
 rfl
end
def shR (r:Rat):Value:=shv (rs r.num) (rs (r.den:Int))
theorem d4e {r:Rat} (h: -(HM:Int)<=r.num/\r.num<HM) (h2:(r.den:Int)<HM):okB (rs r.num) (rs (r.den:Int))=true/\a2T (rs r.num) (rs (r.den:Int))=r:=by
 have hd:0<(r.den:Int):=by have:=r.den_nz;omega
 have e1:toI (rs r.num)=r.num:=toI_rs h
 have e2:toI (rs (r.den:Int))=(r.den:Int):=toI_rs (show a8Y _ from⟨by have:=a9u;omega,h2⟩)
 constructor
 ·unfold okB
  rw[e1,e2,decide_eq_true hd,Int.natAbs_natCast,decide_eq_true r.reduced];rfl
 ·unfold a2T
  rw[e1,e2,Rat.num_divInt_den]
end Go.Proofs.YtmannekkmdockaaGreatDoor
/- Chapter 02: fractions of good size. -/
namespace Go.Proofs.YtmannekkmdockaaGreatDoor
open Go.Proofs.Tryz
open Go.RowKit Go.RX Go.WD
theorem b0S {r:Rat} {k:Nat} (h:Rb k r) (hk:k<=511):(-(HM:Int)<=r.num/\r.num<HM)/\(r.den:Int)<HM:=by
 have:=b9N hk
 unfold Rb at h
 omega
theorem c9M {r:Rat} {k:Nat} (h:Rb k r) (hk:k<=511):a3x r= .tuple #[shR r,.int .i64 0]:=by
 unfold a3x
 rw[if_pos (b0S h hk)];rfl
theorem d4f {r:Rat} {k:Nat} (h:Rb k r) (hk:k<=511):okB (rs r.num) (rs (r.den:Int))=true/\a2T (rs r.num) (rs (r.den:Int))=r:=d4e (b0S h hk).1 (b0S h hk).2
section
variable {H:PH} {r s t:Rat}
def Rg (r:Rat):Prop:=∃k,k<=511/\Rb k r
theorem c5m (h:Rg r):okB (rs r.num) (rs (r.den:Int))=true:=h.elim fun _ h=>(d4f h.2 h.1).1
theorem b5D (h:Rg r):a2T (rs r.num) (rs (r.den:Int))=r:=h.elim fun _ h=>(d4f h.2 h.1).2
theorem a4W (h:Rg r):a3x r= .tuple #[shR r,.int .i64 0]:=h.elim fun _ h=>c9M h.2 h.1
theorem c7N (hr:Rg r) (hs:Rg s) (ht:r*s=t) (hT:Rg t):Con prog 34 [shR r,shR s] H fun u H'=>PH.le H H'/\u= .tuple #[shR t,.int .i64 0]:=
 (c5j _ _ _ _).mono fun u H' ⟨l,h⟩=>⟨l,by rw[h,c5m hr,c5m hs,b5D hr,b5D hs,ht];exact a4W hT⟩
theorem b5E {x y:Int} (hx:a8Y x) (hy:a8Y y) (h:rs x%M=rs y%M):x=y:=by
 rw[c7z,c7z]at h
 rw[<-toI_rs hx,<-toI_rs hy,h]
theorem a3Y (h:Rg r):a8Y r.num/\a8Y (r.den:Int):=by
 obtain⟨k,hk,h⟩:=h
 have h1:=b0S h hk
 exact⟨h1.1,by have:=a9u;omega,h1.2⟩
theorem c7O {o:Oper} {x y:Operand} (hr:Rg r) (hs:Rg s) (ho:o.op= .binOp .eql 58 x y 58) (hx:∀u v,a0f [x,y] [u,v] x=u) (hy:∀u v,a0f [x,y] [u,v] y=v):Yld prog o [shR r,shR s] (.bool (decide (r=s))):=by
 have h:=c5k (a:=rs r.num) (b:=rs (r.den:Int)) (c:=rs s.num) (d:=rs (s.den:Int)) ho hx hy
 have e:(decide (rs r.num%M=rs s.num%M)&&decide (rs (r.den:Int)%M=rs (s.den:Int)%M))=decide (r=s):=by
  rw[Bool.eq_iff_iff,Bool.and_eq_true,decide_eq_true_iff,decide_eq_true_iff,decide_eq_true_iff]
  constructor
  ·rintro⟨h1,h2⟩
   have e1:=b5E (a3Y hr).1 (a3Y hs).1 h1
   have e2:=b5E (a3Y hr).2 (a3Y hs).2 h2
   exact Rat.ext e1 (by omega)
  ·rintro rfl;exact⟨rfl,rfl⟩
 rw[e]at h
 exact h
theorem c0p {o:Oper} {x y:Operand} (hr:Rg r) (hs:Rg s) (ho:o.op= .binOp .neq 58 x y 58) (hx:∀u v,a0f [x,y] [u,v] x=u) (hy:∀u v,a0f [x,y] [u,v] y=v):Yld prog o [shR r,shR s] (.bool (!decide (r=s))):=by
 have h:=c5l (a:=rs r.num) (b:=rs (r.den:Int)) (c:=rs s.num) (d:=rs (s.den:Int)) ho hx hy
 have e:(decide (rs r.num%M=rs s.num%M)&&decide (rs (r.den:Int)%M=rs (s.den:Int)%M))=decide (r=s):=by
  rw[Bool.eq_iff_iff,Bool.and_eq_true,decide_eq_true_iff,decide_eq_true_iff,decide_eq_true_iff]
  constructor
  ·rintro⟨h1,h2⟩
   have e1:=b5E (a3Y hr).1 (a3Y hs).1 h1
   have e2:=b5E (a3Y hr).2 (a3Y hs).2 h2
   exact Rat.ext e1 (by omega)
  ·rintro rfl;exact⟨rfl,rfl⟩
 rw[e]at h
 exact h
theorem c9N (hr:Rg r):Con prog 23 [shR r] H fun u H'=>PH.le H H'/\u= .tuple #[.int .i64 (sgI r.num 0),.int .i64 0]:=
 (c0n _ _).mono fun u H' ⟨l,h⟩=>⟨l,by rw[h,c5m hr,b5D hr];rfl⟩
theorem c0q {p q:Int} (hp:a8Y p) (hq:a8Y q) (h0:q≠0) (ht:Rat.divInt p q=t) (hT:Rg t):Con prog 30 [iw p,iw q] H fun u H'=>PH.le H H'/\u= .tuple #[shR t,.int .i64 0]:=
 (b2z _ _).mono fun u H' ⟨l,h⟩=>⟨l,by rw[h,toI_rs hp,toI_rs hq];unfold b0R;rw[if_neg h0,ht];exact a4W hT⟩
theorem a9E (z:Int):Rat.divInt z 1=(z:Rat):=by
 apply Rat.ext
 ·rw[b0N z (by omega),Rat.num_intCast];simp
 ·have:=b0O z (show(1:Int)≠0 by omega)
  rw[Rat.den_intCast]
  simp at this
  omega
end
end Go.Proofs.YtmannekkmdockaaGreatDoor
/- The reference of chapter 02: drafts. -/
namespace Go.Proofs.YtmannekkmdockaaGreatDoor
open Go.Proofs.Tryz
open Go.ChangeShapes Go.WideShapes Go.ChangeAt Go.RowKit Go.RX Go.WD
section
variable {Hh:Type} {enc:TypeId×Value->Hh} {W:World} {base:Nat} {spare:Nat->Bool} {held:Bool} {fuel:Nat}
theorem b7V {w:World} {b q j:Nat} {cs:Array Value} {T:TypeId} {fz:Nat×Nat} {v:Value} (hb:w.heap[b]? =some (.cells cs T fz)) (h:w.cell? ((⟨b,q,none⟩:Addr).add j)=some v):cs[q+j]? =some v:=by
 rw[a2Q]at h
 simp only[World.cell?,hb]at h
 exact h
set_option maxRecDepth 100000 in
theorem c0r {P:Program} {t e:TypeId} {sz:Nat} {cs:List Value} {x:DataW Hh×List MemPlace} (ht:P.underlying t=some (.slice e)) (hc:P.cellsOf e=sz) (hsz:0<sz) (h:DataW.trod enc P W base spare held fuel t cs=some x):
  ∃w n xs,cs=[w]/\Sl (fun b=>W.heap[b]?) sz w n xs/\∀i,i<n->∃y m,DataW.trod enc P W base spare held m e ((xs.drop (i*sz)).take sz)=some y:=by
 rcases Go.Deep.open_slice ht h with⟨rfl,_⟩|⟨a,len,cap,m,n,D,Pl,rfl,_,hlc,hcm,hm,_,hV⟩
 ·exact⟨_,0,[],rfl,⟨by simp,none,0,rfl,by omega,by simp[maxLen],.inl rfl⟩,fun i hi=>absurd hi (Nat.not_lt_zero _)⟩
 ·have hlm:len<=m:=by rw[hm];split<;>omega
  rw[hc]at hV
  by_cases h0:len=0
  ·subst h0
   exact⟨_,0,[],rfl,⟨by simp,a,cap,rfl,by omega,hcm,.inl rfl⟩,fun i hi=>absurd hi (Nat.not_lt_zero _)⟩
  ·obtain⟨c0,g1,_⟩:=hV 0 (by omega)
   obtain⟨_,glen,gcell⟩:=World.cells?_some g1
   have hc0:=gcell 0 hsz
   rw[List.getElem?_eq_getElem (by omega)]at hc0
   rw[Nat.zero_mul,Go.Deep.add_add]at hc0
   obtain⟨b,q,bc,T,fz,ha,hb,_⟩:=b0P hc0
   have ha:=c0i ha
   subst ha
   have key:∀i,i<len->∃ci,ci.length=sz/\(∀j,j<sz->bc[q+(i*sz+j)]? =ci[j]?)/\DataW.trod enc P W base spare held n e ci=some (D i,Pl i):=fun i hi=>by
    obtain⟨ci,k1,k2⟩:=hV i (by omega)
    obtain⟨_,klen,kcell⟩:=World.cells?_some k1
    refine⟨ci,klen,fun j hj=> ?_,k2⟩
    have:=kcell j hj
    rw[List.getElem?_eq_getElem (by omega)]at this⊢
    rw[Go.Deep.add_add]at this
    exact b7V hb this
   have hsize:q+len*sz<=bc.size:=by
    obtain⟨ci,klen,kcell,_⟩:=key (len-1) (by omega)
    have:=kcell (sz-1) (by omega)
    rw[List.getElem?_eq_getElem (by omega)]at this
    have:=(Array.getElem?_eq_some_iff.1 this).1
    have e1:(len-1)*sz+sz=len*sz:=by rw[<-Nat.succ_mul];congr 1;omega
    omega
   refine⟨_,len,(bc.toList.drop q).take (len*sz),rfl,⟨?_,_,cap,rfl,hlc,hcm,.inr ⟨b,q,bc,T,fz,rfl,hb,rfl⟩⟩,fun i hi=> ?_⟩
   ·rw[List.length_take,List.length_drop,Array.length_toList];omega
   ·obtain⟨ci,klen,kcell,k2⟩:=key i hi
    refine⟨(D i,Pl i),n,?_⟩
    rw[<-k2]
    congr 1
    have hle:(i+1)*sz<=len*sz:=Nat.mul_le_mul_right _ hi
    rw[Nat.add_mul,Nat.one_mul]at hle
    apply List.ext_getElem?
    intro j
    rw[List.getElem?_take]
    split
    ·rename_i hj
     rw[List.getElem?_drop,List.getElem?_take,if_pos (by omega),List.getElem?_drop,Array.getElem?_toList,kcell j hj]
    ·rename_i hj
     rw[List.getElem?_eq_none (by omega)]
end
end Go.Proofs.YtmannekkmdockaaGreatDoor
/- Sums and powers of shares: the program and the reference. -/
namespace Go.Proofs.YtmannekkmdockaaGreatDoor
open Go.Proofs.Tryz
open Go.RowKit Go.RX Go.WD
def d2Z (p:Nat×Nat):Rat:=a2T p.1 p.2
def b4e (ps:List (Nat×Nat)):Rat:=(ps.map d2Z).foldl (· + ·) 0
theorem c0s (ps:List (Nat×Nat)) (p:Nat×Nat):b4e (ps++[p])=b4e ps+d2Z p:=by
 unfold b4e;rw[List.map_append,List.foldl_append];rfl
def d4g (ps:List (Nat×Nat)):Value:=if 400<ps.length then .tuple #[shv 0 0,.int .i64 3]else if ps.all okP then a3x (b4e ps)else .tuple #[shv 0 0,.int .i64 20]
theorem c9O:Rb 1 (0:Rat):=⟨by decide,by decide⟩
theorem b7W {ps:List (Nat×Nat)} {i:Nat} (h:i<ps.length):ps.take (i+1)=ps.take i++[ps.getD i (0,0)]:=by
 rw[List.take_add_one,List.getElem?_eq_getElem h,List.getD_eq_getElem?_getD,List.getElem?_eq_getElem h];rfl
theorem c5n {ps:List (Nat×Nat)} {i:Nat} (h:i<ps.length):ps.getD i (0,0)∈ps:=by
 rw[List.getD_eq_getElem?_getD,List.getElem?_eq_getElem h];exact List.getElem_mem h
theorem Rp.agg {H:PH} {v:Value} {r:Rat} (h:Rp H v r):Value.agg v.cells=v:=by
 obtain⟨w1,w2,rfl,_⟩:=h;rfl
section
variable {H:PH} {x y v:Value} {r s:Rat} {ps:List (Nat×Nat)}
set_option maxRecDepth 100000 in
theorem c0t (n:Int) (h0: -9223372036854775808<=n) (h1:n<9223372036854775808):Con prog 58 [.int .i64 n] H fun u H'=>PH.le H H'/\Rp H' u (n:Rat):=by
 refine a0b mixed b5B (by kernel_rfl) rfl (a0d (a2c n h0 h1) rfl ?_)
 rintro u1 H1 ⟨l1,hu1⟩
 simp only[cA,nA]
 refine⟨fun h=>(nomatch h),a0d (a6a hu1) rfl ?_⟩
 rintro u2 H2 ⟨l2,hu2⟩
 refine⟨fun h=>(nomatch h),a0a hu2.rq (a0c hu2.agg ⟨l1.trans l2,hu2⟩)⟩
set_option maxRecDepth 100000 in
theorem c5o (h:Shs H v ps):Con prog 31 [v] H fun u H'=>PH.le H H'/\u=d4g ps:=by
 obtain⟨K,hK⟩:∃K,K=512:=⟨_,rfl⟩
 refine a0b mixed c9C (by kernel_rfl) rfl (a8b rfl rfl h rfl (a0a ⟨_,rfl⟩ (a0e (b:=decide ((ps.length:Int)>400)) rfl (fun hb=> ?_) (fun hb=> ?_))))
 ·have hb:400<ps.length:=by have:=of_decide_eq_true hb;omega
  exact a0c (congrArg (fun z=>Value.tuple #[z,.int .i64 3]) a4U) ⟨PH.le.refl _,by unfold d4g;rw[if_pos hb]⟩
 have hb:¬400<ps.length:=by have:=of_decide_eq_false hb;omega
 unfold d4g
 rw[if_neg hb]
 simp only[cA,nA]
 refine a0d (a6c h) rfl ?_
 rintro u1 H1 ⟨l1,rfl⟩
 simp only[cA,nA]
 refine⟨fun h=>(nomatch h),a0a ⟨_,rfl⟩ (a0e (b:= !ps.all okP) rfl (fun ho=> ?_) (fun ho=> ?_))⟩
 ·rw[c9I ho]
  exact a0c (congrArg (fun z=>Value.tuple #[z,.int .i64 20]) a4U) ⟨l1,rfl⟩
 have ho:=c9J ho
 rw[ho,if_pos rfl]
 refine a0d (c0t 0 (by omega) (by omega)) rfl ?_
 rintro u2 H2 ⟨l2,hu2⟩
 simp only[cA,nA]
 refine⟨fun h=>(nomatch h),a0a hu2.rq (a8b rfl rfl (h.mono (l1.trans l2)) rfl ⟨fun vals H'=>∃(i:Nat) (a:Value),vals=[iv i,a]/\i<=ps.length/\PH.le H2 H'/\Rp H' a (b4e (ps.take i))/\Rb (513*i+1) (b4e (ps.take i)),fun vals _=>(ps.length-intOf (vals.getD 0 undef)).toNat,⟨0,u2,?_,by omega,PH.le.refl _,?_,c9O⟩,?_⟩)⟩
 ·rfl
 ·have e0:((0:Int):Rat)=0:=rfl
  rw[e0]at hu2
  exact hu2
 rintro vals H3-⟨i,a,rfl,hi,l3,ha,hrb⟩
 simp only[cA,nA]
 refine a0a ⟨_,rfl⟩ (a0a ⟨_,rfl⟩ (a0e (b:=decide ((i:Int)<ps.length)) rfl (fun hc=> ?_) (fun hc=> ?_)))
 ·have hc:i<ps.length:=by have:=of_decide_eq_true hc;omega
  have e1:IntKind.i64.wrap ((i:Int)+1)=((i+1:Nat):Int):=a8Z (by omega)
  refine b5C (k:= .i64) (j:=i) rfl rfl rfl rfl (fun _=>rfl) (h.mono (l1.trans (l2.trans l3))) hc rfl (fun _=>rfl) fun pp=> ?_
  obtain⟨p,hp⟩:∃p,p=ps.getD i (0,0):=⟨_,rfl⟩
  have hpo:okB p.1 p.2=true:=by
   have hm:=c5n hc
   rw[<-hp]at hm
   exact List.all_eq_true.1 ho p hm
  rw[<-hp]
  simp only[cA,nA]
  refine a0a (a0E p.1 p.2) (a0d (a3h p.1 p.2) rfl ?_)
  rintro u4 H4 ⟨l4,h4⟩
  have h4:Rp H4 u4 (d2Z p):=h4.rp (a3W hpo).1 (a3W hpo).2
  simp only[cA,nA]
  refine⟨fun _=>l4,a0d (a9D (ha.mono l4) h4 hrb (c5f hpo hK) (by omega)) ?_ ?_⟩
  ·show[Value.agg a.cells,u4]=_
   rw[ha.agg]
  rintro u5 H5 ⟨l5,h5⟩
  have e5:b4e (ps.take i)+d2Z p=b4e (ps.take (i+1)):=by rw[b7W hc,c0s,hp]
  have e5':b4e (ps.take i)+a2T p.1 p.2=b4e (ps.take (i+1)):=e5
  have hb5:Rb (513*(i+1)+1) (b4e (ps.take (i+1))):=by rw[<-e5'];exact hrb.add (c5f hpo hK) (by omega)
  rw[e5]at h5
  refine⟨fun _=>l5,a0a h5.rq ⟨⟨i+1,u5,?_,by omega,l3.trans (l4.trans l5),h5,hb5⟩,?_⟩⟩
  ·simp only[rxs,iv,e1]
  ·simp only[rxs,iv,e1]
   omega
 ·have hc:i=ps.length:=by have:=of_decide_eq_false hc;omega
  rw[List.take_of_length_le (by omega)]at ha
  refine a0d (a2u ha) ?_ ?_
  ·show[Value.agg a.cells]=_
   rw[ha.agg]
  rintro u6 H6 ⟨l6,rfl⟩
  obtain⟨a1,b1,c1,ht⟩:=a3i (b4e ps)
  rw[ht]
  exact⟨fun h=>(nomatch h),a0a ⟨_,rfl,Nat.zero_lt_succ _⟩ (a0a ⟨_,rfl,Nat.lt_succ_self _⟩ (a0a (a0E a1 b1) (a0c rfl ⟨l1.trans (l2.trans (l3.trans l6)),rfl⟩)))⟩
end
end Go.Proofs.YtmannekkmdockaaGreatDoor

/- Arguments of laws as values: slices of numbers, and of pairs; a table that is laid. -/
import Derived.Test.YtkcjbfoejpfbbaaGreatDoorRxY
import Derived.WalkKit
import Derived.ProofKit
import Derived.OpenShut
import Derived.ShutString
import Derived.ChangeOld
import Derived.Below
import Derived.MakeChecks
import Derived.Deep.Slices
import Derived.Deep.Strs
namespace Go.OP
open Go.ChangeShapes Go.WideShapes Go.ChangeAt Go.RowKit Go.RX
theorem d1D {P:Program} {f:FuncId} {args:List Value} {H:PH} {W:World} (h:Con P f args H fun v H'=>v= .bool true/\PH.le H H') (hW:H.In W):Calls P f args.toArray W fun e W'=>e= .returned (.bool true)/\Below W.heap.size W W':=
 (h W hW).mono fun _ _ ⟨_,_,he,hs,hv,hl⟩=>⟨by rw[he,hv],hs.toExt hW hl⟩
theorem a9w {w:World} {a:Addr} {v:Value} (h:w.cell? a=some v):∃b q cs T fz,a=⟨b,q,none⟩/\w.heap[b]? =some (.cells cs T fz)/\cs[q]? =some v:=by
 obtain⟨b,q,sp⟩:=a
 unfold World.cell? at h
 split at h
 ·rename_i c T fz hh
  cases sp with
  |some s=>simp at h
  |none=>exact⟨b,q,c,T,fz,rfl,hh,by simpa using h⟩
 ·cases h
theorem c2J {a:Addr} {b q:Nat} (h:a.add 0=⟨b,q,none⟩):a=⟨b,q,none⟩:=by
 obtain⟨b',q',sp⟩:=a
 cases sp with
 |none=>rw[a2h]at h;simpa using h
 |some s=>unfold Addr.add at h;split at h<;>simp_all
theorem d4N {n:Int} (h:(Lit.int .u8 n).wf=true):∃m:Nat,n=(m:Int)/\m<256:=by
 have:=bounds_u8 h
 exact⟨n.toNat,by omega,by omega⟩
theorem d1E {n:Int} (h:(Lit.int .u16 n).wf=true):∃m:Nat,n=(m:Int)/\m<65536:=by
 have:=bounds_u16 h
 exact⟨n.toNat,by omega,by omega⟩
theorem okWide_struct {P:Program} {w:World} {r:Reach} {base:Nat} {t:TypeId} {fs:Array Field} {v:Value} (ht:P.underlying t=some (.struct fs)) (h:Value.okWide P w r base t v):∃cs,v= .agg cs:=by
 simp only[Value.okWide,ht]at h
 obtain⟨cs,h1,_⟩:=h
 exact⟨cs,h1⟩
section
variable {Hh:Type} {enc:TypeId×Value->Hh} {W:World} {base:Nat} {spare:Nat->Bool} {held:Bool} {fuel:Nat} {P:Program}
theorem b6w {w:World} {b q j:Nat} {cs:Array Value} {T:TypeId} {fz:Nat×Nat} {v:Value} (hb:w.heap[b]? =some (.cells cs T fz)) (h:w.cell? ((⟨b,q,none⟩:Addr).add j)=some v):cs[q+j]? =some v:=by
 rw[a2h]at h
 simp only[World.cell?,hb]at h
 exact h
set_option maxRecDepth 100000 in
theorem c2K {t e:TypeId} {sz:Nat} {cs:List Value} {x:DataW Hh×List MemPlace} (ht:P.underlying t=some (.slice e)) (hc:P.cellsOf e=sz) (hsz:0<sz) (h:DataW.trod enc P W base spare held fuel t cs=some x):
  ∃w n xs,cs=[w]/\Sl (fun b=>W.heap[b]?) sz w n xs/\∀i,i<n->∃y m,DataW.trod enc P W base spare held m e ((xs.drop (i*sz)).take sz)=some y:=by
 rcases Go.Deep.open_slice ht h with⟨rfl,_⟩|⟨a,len,cap,m,n,D,Pl,rfl,_,hlc,hcm,hm,_,hV⟩
 ·exact⟨_,0,[],rfl,⟨by simp,none,0,rfl,by omega,by simp[maxLen],.inl rfl⟩,fun i hi=>absurd hi (Nat.not_lt_zero _)⟩
 ·have hlm:len<=m:=by rw[hm];split<;>omega
  rw[hc]at hV
  by_cases h0:len=0
  ·subst h0
   exact⟨_,0,[],rfl,⟨by simp,a,cap,rfl,by omega,hcm,.inl rfl⟩,fun i hi=>absurd hi (Nat.not_lt_zero _)⟩
  ·obtain⟨c0,g1,_⟩:=hV 0 (by omega)
   obtain⟨_,glen,gcell⟩:=World.cells?_some g1
   have hc0:=gcell 0 hsz
   rw[List.getElem?_eq_getElem (by omega)]at hc0
   rw[Nat.zero_mul,Go.Deep.add_add]at hc0
   obtain⟨b,q,bc,T,fz,ha,hb,_⟩:=a9w hc0
   have ha:=c2J ha
   subst ha
   have key:∀i,i<len->∃ci,ci.length=sz/\(∀j,j<sz->bc[q+(i*sz+j)]? =ci[j]?)/\DataW.trod enc P W base spare held n e ci=some (D i,Pl i):=fun i hi=>by
    obtain⟨ci,k1,k2⟩:=hV i (by omega)
    obtain⟨_,klen,kcell⟩:=World.cells?_some k1
    refine⟨ci,klen,fun j hj=> ?_,k2⟩
    have:=kcell j hj
    rw[List.getElem?_eq_getElem (by omega)]at this⊢
    rw[Go.Deep.add_add]at this
    exact b6w hb this
   have hsize:q+len*sz<=bc.size:=by
    obtain⟨ci,klen,kcell,_⟩:=key (len-1) (by omega)
    have:=kcell (sz-1) (by omega)
    rw[List.getElem?_eq_getElem (by omega)]at this
    have:=(Array.getElem?_eq_some_iff.1 this).1
    have e1:(len-1)*sz+sz=len*sz:=by rw[<-Nat.succ_mul];congr 1;omega
    omega
   refine⟨_,len,(bc.toList.drop q).take (len*sz),rfl,⟨?_,_,cap,rfl,hlc,hcm,.inr ⟨b,q,bc,T,fz,rfl,hb,rfl⟩⟩,fun i hi=> ?_⟩
   ·rw[List.length_take,List.length_drop,Array.length_toList];omega
   ·obtain⟨ci,klen,kcell,k2⟩:=key i hi
    refine⟨(D i,Pl i),n,?_⟩
    rw[<-k2]
    congr 1
    have hle:(i+1)*sz<=len*sz:=Nat.mul_le_mul_right _ hi
    rw[Nat.add_mul,Nat.one_mul]at hle
    apply List.ext_getElem?
    intro j
    rw[List.getElem?_take]
    split
    ·rename_i hj
     rw[List.getElem?_drop,List.getElem?_take,if_pos (by omega),List.getElem?_drop,Array.getElem?_toList,kcell j hj]
    ·rename_i hj
     rw[List.getElem?_eq_none (by omega)]
theorem a1h {t:TypeId} {cs:List Value} {x:DataW Hh×List MemPlace} {k T o c:Nat} (i:Nat) (ht:P.underlying t=some (.struct (a1d P t))) (hk:(a1d P t).size=k) (hi:i<k) (hT:(fieldAt P t i).type=T) (ho:(fieldAt P t i).offset=o) (hc:P.cellsOf T=c) (h:DataW.trod enc P W base spare held fuel t cs=some x):
  ∃y n,DataW.trod enc P W base spare held n T ((cs.drop o).take c)=some y:=by
 obtain⟨xs,n,_,rfl,hl,hlen,hf⟩:=DataW.trod_struct ht h
 have hfi:(a1d P t)[i]? =some (fieldAt P t i):=by
  unfold fieldAt
  rw[Array.getElem?_eq_getElem (by omega)];rfl
 have:=hf i _ hfi
 rw[hT,ho,hc]at this
 rw[List.getElem?_eq_getElem (by omega)]at this
 exact⟨_,n,this⟩
theorem b5B {α:Type} {H:PH} {sz:Nat} {ce:α->List Value} {p:α->Prop} {w:Value}:∀{n:Nat} {xs:List Value},Sl H sz w n xs->(∀i,i<n->∃a,(xs.drop (i*sz)).take sz=ce a/\p a)->∃l:List α,SE H sz ce w l/\∀a∈l,p a:=by
 intro n xs h hc
 have key:∀(n:Nat) (xs:List Value),xs.length=n*sz->(∀i,i<n->∃a,(xs.drop (i*sz)).take sz=ce a/\p a)->∃l:List α,l.length=n/\xs=l.flatMap ce/\∀a∈l,p a:=by
  intro n
  induction n with
  |zero=>intro xs hl _;exact⟨[],rfl,List.eq_nil_of_length_eq_zero (by simpa using hl),fun a ha=>by cases ha⟩
  |succ n ih=>
   intro xs hl hc
   rw[Nat.succ_mul]at hl
   obtain⟨a,h1,h2⟩:=hc 0 (by omega)
   rw[Nat.zero_mul,List.drop_zero]at h1
   obtain⟨l,l1,l2,l3⟩:=ih (xs.drop sz) (by rw[List.length_drop];omega) fun i hi=>by
    obtain⟨b,g1,g2⟩:=hc (i+1) (by omega)
    exact⟨b,by rw[List.drop_drop,<-g1];congr 2;rw[Nat.succ_mul];omega,g2⟩
   exact⟨a::l,by simp[l1],by rw[List.flatMap_cons,<-l2,<-h1,List.take_append_drop],fun b hb=>by
    rcases List.mem_cons.1 hb with rfl|hb
    ·exact h2
    ·exact l3 b hb⟩
 obtain⟨l,l1,l2,l3⟩:=key n xs h.1 hc
 subst l1;subst l2
 exact⟨l,h,l3⟩
end
open Go.ChangeShapes Go.WideShapes Go.ChangeAt Go.RowKit Go.RX
theorem b1w {H:Type} {enc:TypeId×Value->H} {P:Program} {W:World} {base:Nat} {sp:Nat->Bool} {held:Bool} {fuel n:Nat} {t e:TypeId} {k:IntKind} {cs:List Value} {vals:List Int} {q:List MemPlace}
  (hu:P.underlying t=some (.array n e)) (he:P.underlying e=some (.int k)) (hc:P.cellsOf e=1) (hct:P.cellsOf t=n) (h:DataW.trod enc P W base sp held fuel t cs=some (.agg (vals.map fun n=> .lit (.int k n)),q)):cs=vals.map fun n=> .int k n:=by
 obtain⟨xs,m,_,hx,hl,hxl,hi⟩:=DataW.trod_array hu h
 rw[hct]at hl
 rw[hc]at hi
 have hx:=congrArg Prod.fst hx
 simp only[DataW.agg.injEq]at hx
 have hvl:vals.length=n:=by have:=congrArg List.length hx;simp only[List.length_map]at this;omega
 apply List.ext_getElem?
 intro i
 by_cases h1:i<n
 ·have h2:=hi i h1
  rw[Nat.mul_one]at h2
  have hxi:i<xs.length:=by omega
  rw[List.getElem?_eq_getElem hxi]at h2
  obtain⟨z,h3,h4,_⟩:=DataW.trod_int he h2
  have h5:=congrArg (fun l:List Value=>l[0]?) h3
  simp only[List.getElem?_take,List.getElem?_drop,Nat.add_zero,List.getElem?_cons_zero]at h5
  have h6:=congrArg (fun l:List (DataW H)=>l[i]?) hx
  simp only[List.getElem?_map,List.getElem?_eq_getElem hxi,Option.map_some,h4]at h6
  have hvi:i<vals.length:=by omega
  rw[List.getElem?_eq_getElem hvi]at h6
  simp only[Option.map_some,Option.some.injEq,DataW.lit.injEq,Lit.int.injEq,true_and]at h6
  rw[List.getElem?_map,List.getElem?_eq_getElem hvi,Option.map_some,h6]
  simpa using h5
 ·rw[List.getElem?_eq_none (by omega),List.getElem?_eq_none (by simp;omega)]
end Go.OP

/- Arguments of laws as values: slices of numbers, and of pairs; a table that is laid. -/
import Derived.Test.YtlmgkkjgdapnpaaGreatDoorGsD
import Derived.WalkKit
import Derived.ProofKit
import Derived.OpenShut
import Derived.ShutString
import Derived.ChangeOld
import Derived.Below
import Derived.MakeChecks
import Derived.Deep.Slices
import Derived.Deep.Strs
import Derived.Test.YtlmgkkjgdapnpaaGreatDoorGiE
import Derived.Test.YtlmgkkjgdapnpaaGreatDoorCards
import Derived.Test.YtlmgkkjgdapnpaaGreatDoorTie
import Derived.Lay
import Derived.LaidOnce
import Derived.SevenTiedAt
import Derived.HandedShaped
namespace Go.OP
open Go.ChangeShapes Go.WideShapes Go.ChangeAt Go.RowKit Go.RX
theorem d3p {P:Program} {f:FuncId} {args:List Value} {H:PH} {W:World} (h:Con P f args H fun v H'=>v= .bool true/\PH.le H H') (hW:H.In W):Calls P f args.toArray W fun e W'=>e= .returned (.bool true)/\Below W.heap.size W W':=
 (h W hW).mono fun _ _ ⟨_,_,he,hs,hv,hl⟩=>⟨by rw[he,hv],(hs.toExt hW hl).os,(hs.toExt hW hl).tape,(hs.toExt hW hl).output,(hs.toExt hW hl).size,(hs.toExt hW hl).blk⟩
theorem b0I {w:World} {a:Addr} {v:Value} (h:w.cell? a=some v):∃b q cs T fz,a=⟨b,q,none⟩/\w.heap[b]? =some (.cells cs T fz)/\cs[q]? =some v:=by
 obtain⟨b,q,sp⟩:=a
 unfold World.cell? at h
 split at h
 ·rename_i c T fz hh
  cases sp with
  |some s=>simp at h
  |none=>exact⟨b,q,c,T,fz,rfl,hh,by simpa using h⟩
 ·cases h
theorem c3j {a:Addr} {b q:Nat} (h:a.add 0=⟨b,q,none⟩):a=⟨b,q,none⟩:=by
 obtain⟨b',q',sp⟩:=a
 cases sp with
 |none=>rw[a3u]at h;simpa using h
 |some s=>unfold Addr.add at h;split at h<;>simp_all
theorem d5Y {n:Int} (h:(Lit.int .u8 n).wf=true):∃m:Nat,n=(m:Int)/\m<256:=by
 have:=bounds_u8 h
 exact⟨n.toNat,by omega,by omega⟩
theorem okWide_struct {P:Program} {w:World} {r:Reach} {base:Nat} {t:TypeId} {fs:Array Field} {v:Value} (ht:P.underlying t=some (.struct fs)) (h:Value.okWide P w r base t v):∃cs,v= .agg cs:=by
 simp only[Value.okWide,ht]at h
 obtain⟨cs,h1,_⟩:=h
 exact⟨cs,h1⟩
section
variable {Hh:Type} {enc:TypeId×Value->Hh} {W:World} {base:Nat} {spare:Nat->Bool} {held:Bool} {fuel:Nat} {P:Program}
theorem b6V {w:World} {b q j:Nat} {cs:Array Value} {T:TypeId} {fz:Nat×Nat} {v:Value} (hb:w.heap[b]? =some (.cells cs T fz)) (h:w.cell? ((⟨b,q,none⟩:Addr).add j)=some v):cs[q+j]? =some v:=by
 rw[a3u]at h
 simp only[World.cell?,hb]at h
 exact h
set_option maxRecDepth 100000 in
theorem c3k {t e:TypeId} {sz:Nat} {cs:List Value} {x:DataW Hh×List MemPlace} (ht:P.underlying t=some (.slice e)) (hc:P.cellsOf e=sz) (hsz:0<sz) (h:DataW.trod enc P W base spare held fuel t cs=some x):
  ∃w n xs,cs=[w]/\Sl (fun b=>W.heap[b]?) sz w n xs/\∀i,i<n->∃y m,DataW.trod enc P W base spare held m e ((xs.drop (i*sz)).take sz)=some y:=by
 rcases Go.Deep.open_slice ht h with⟨rfl,_⟩|⟨a,len,cap,m,n,D,Pl,rfl,_,hlc,hcm,hm,_,hV⟩
 ·exact⟨_,0,[],rfl,⟨by simp,none,0,rfl,by omega,by simp[maxLen],.inl rfl⟩,fun i hi=>absurd hi (Nat.not_lt_zero _)⟩
 ·have hlm:len<=m:=by rw[hm];split<;>omega
  rw[hc]at hV
  by_cases h0:len=0
  ·subst h0
   exact⟨_,0,[],rfl,⟨by simp,a,cap,rfl,by omega,hcm,.inl rfl⟩,fun i hi=>absurd hi (Nat.not_lt_zero _)⟩
  ·obtain⟨c0,g1,_⟩:=hV 0 (by omega)
   obtain⟨_,glen,gcell⟩:=World.cells?_some g1
   have hc0:=gcell 0 hsz
   rw[List.getElem?_eq_getElem (by omega)]at hc0
   rw[Nat.zero_mul,Go.Deep.add_add]at hc0
   obtain⟨b,q,bc,T,fz,ha,hb,_⟩:=b0I hc0
   have ha:=c3j ha
   subst ha
   have key:∀i,i<len->∃ci,ci.length=sz/\(∀j,j<sz->bc[q+(i*sz+j)]? =ci[j]?)/\DataW.trod enc P W base spare held n e ci=some (D i,Pl i):=fun i hi=>by
    obtain⟨ci,k1,k2⟩:=hV i (by omega)
    obtain⟨_,klen,kcell⟩:=World.cells?_some k1
    refine⟨ci,klen,fun j hj=> ?_,k2⟩
    have:=kcell j hj
    rw[List.getElem?_eq_getElem (by omega)]at this⊢
    rw[Go.Deep.add_add]at this
    exact b6V hb this
   have hsize:q+len*sz<=bc.size:=by
    obtain⟨ci,klen,kcell,_⟩:=key (len-1) (by omega)
    have:=kcell (sz-1) (by omega)
    rw[List.getElem?_eq_getElem (by omega)]at this
    have:=(Array.getElem?_eq_some_iff.1 this).1
    have e1:(len-1)*sz+sz=len*sz:=by rw[<-Nat.succ_mul];congr 1;omega
    omega
   refine⟨_,len,(bc.toList.drop q).take (len*sz),rfl,⟨?_,_,cap,rfl,hlc,hcm,.inr ⟨b,q,bc,T,fz,rfl,hb,rfl⟩⟩,fun i hi=> ?_⟩
   ·rw[List.length_take,List.length_drop,Array.length_toList];omega
   ·obtain⟨ci,klen,kcell,k2⟩:=key i hi
    refine⟨(D i,Pl i),n,?_⟩
    rw[<-k2]
    congr 1
    have hle:(i+1)*sz<=len*sz:=Nat.mul_le_mul_right _ hi
    rw[Nat.add_mul,Nat.one_mul]at hle
    apply List.ext_getElem?
    intro j
    rw[List.getElem?_take]
    split
    ·rename_i hj
     rw[List.getElem?_drop,List.getElem?_take,if_pos (by omega),List.getElem?_drop,Array.getElem?_toList,kcell j hj]
    ·rename_i hj
     rw[List.getElem?_eq_none (by omega)]
theorem a0L {t:TypeId} {cs:List Value} {x:DataW Hh×List MemPlace} {k T o c:Nat} (i:Nat) (ht:P.underlying t=some (.struct (fieldsOf P t))) (hk:(fieldsOf P t).size=k) (hi:i<k) (hT:(fieldAt P t i).type=T) (ho:(fieldAt P t i).offset=o) (hc:P.cellsOf T=c) (h:DataW.trod enc P W base spare held fuel t cs=some x):
  ∃y n,DataW.trod enc P W base spare held n T ((cs.drop o).take c)=some y:=by
 obtain⟨xs,n,_,rfl,hl,hlen,hf⟩:=DataW.trod_struct ht h
 have hfi:(fieldsOf P t)[i]? =some (fieldAt P t i):=by
  unfold fieldAt
  rw[Array.getElem?_eq_getElem (by omega)];rfl
 have:=hf i _ hfi
 rw[hT,ho,hc]at this
 rw[List.getElem?_eq_getElem (by omega)]at this
 exact⟨_,n,this⟩
theorem b5G {α:Type} {H:PH} {sz:Nat} {ce:α->List Value} {p:α->Prop} {w:Value}:∀{n:Nat} {xs:List Value},Sl H sz w n xs->(∀i,i<n->∃a,(xs.drop (i*sz)).take sz=ce a/\p a)->∃l:List α,SE H sz ce w l/\∀a∈l,p a:=by
 intro n xs h hc
 have key:∀(n:Nat) (xs:List Value),xs.length=n*sz->(∀i,i<n->∃a,(xs.drop (i*sz)).take sz=ce a/\p a)->∃l:List α,l.length=n/\xs=l.flatMap ce/\∀a∈l,p a:=by
  intro n
  induction n with
  |zero=>intro xs hl _;exact⟨[],rfl,List.eq_nil_of_length_eq_zero (by simpa using hl),fun a ha=>by cases ha⟩
  |succ n ih=>
   intro xs hl hc
   rw[Nat.succ_mul]at hl
   obtain⟨a,h1,h2⟩:=hc 0 (by omega)
   rw[Nat.zero_mul,List.drop_zero]at h1
   obtain⟨l,l1,l2,l3⟩:=ih (xs.drop sz) (by rw[List.length_drop];omega) fun i hi=>by
    obtain⟨b,g1,g2⟩:=hc (i+1) (by omega)
    exact⟨b,by rw[List.drop_drop,<-g1];congr 2;rw[Nat.succ_mul];omega,g2⟩
   exact⟨a::l,by simp[l1],by rw[List.flatMap_cons,<-l2,<-h1,List.take_append_drop],fun b hb=>by
    rcases List.mem_cons.1 hb with rfl|hb
    ·exact h2
    ·exact l3 b hb⟩
 obtain⟨l,l1,l2,l3⟩:=key n xs h.1 hc
 subst l1;subst l2
 exact⟨l,h,l3⟩
end
open Go.ChangeShapes Go.WideShapes Go.ChangeAt Go.RowKit Go.RX
theorem b2H {H:Type} {enc:TypeId×Value->H} {P:Program} {W:World} {base:Nat} {sp:Nat->Bool} {held:Bool} {fuel n:Nat} {t e:TypeId} {k:IntKind} {cs:List Value} {vals:List Int} {q:List MemPlace}
  (hu:P.underlying t=some (.array n e)) (he:P.underlying e=some (.int k)) (hc:P.cellsOf e=1) (hct:P.cellsOf t=n) (h:DataW.trod enc P W base sp held fuel t cs=some (.agg (vals.map fun n=> .lit (.int k n)),q)):cs=vals.map fun n=> .int k n:=by
 obtain⟨xs,m,_,hx,hl,hxl,hi⟩:=DataW.trod_array hu h
 rw[hct]at hl
 rw[hc]at hi
 have hx:=congrArg Prod.fst hx
 simp only[DataW.agg.injEq]at hx
 have hvl:vals.length=n:=by have:=congrArg List.length hx;simp only[List.length_map]at this;omega
 apply List.ext_getElem?
 intro i
 by_cases h1:i<n
 ·have h2:=hi i h1
  rw[Nat.mul_one]at h2
  have hxi:i<xs.length:=by omega
  rw[List.getElem?_eq_getElem hxi]at h2
  obtain⟨z,h3,h4,_⟩:=DataW.trod_int he h2
  have h5:=congrArg (fun l:List Value=>l[0]?) h3
  simp only[List.getElem?_take,List.getElem?_drop,Nat.add_zero,List.getElem?_cons_zero]at h5
  have h6:=congrArg (fun l:List (DataW H)=>l[i]?) hx
  simp only[List.getElem?_map,List.getElem?_eq_getElem hxi,Option.map_some,h4]at h6
  have hvi:i<vals.length:=by omega
  rw[List.getElem?_eq_getElem hvi]at h6
  simp only[Option.map_some,Option.some.injEq,DataW.lit.injEq,Lit.int.injEq,true_and]at h6
  rw[List.getElem?_map,List.getElem?_eq_getElem hvi,Option.map_some,h6]
  simpa using h5
 ·rw[List.getElem?_eq_none (by omega),List.getElem?_eq_none (by simp;omega)]
end Go.OP
/- The law TopExact returns true for every argument, and leaves it as it was: its tied card. -/
namespace Go.Proofs.YtlmgkkjgdapnpaaGreatDoor
open Go.Proofs.Tryz
open Go.ChangeShapes Go.WideShapes Go.ChangeAt Go.RowKit Go.RX Go.GS Go.OP
theorem c3l:ownKnob prog.godebug=none:=by kernel_rfl
theorem c7r:laidOutB prog=true:=by kernel_rfl
theorem b6W {W:World} (h:laidMet prog Rows.topExactRow.laid W):Tb (fun b=>W.heap[b]?):=by
 obtain⟨ps,⟨_,_,_,_,_,_,_,_,_,_,⟨g,t,cs,fuel,p,q,hg,ht,hvar,hd,_,_⟩,_⟩,_⟩:=h
 have hg0:prog.globalNamed "math/bits.deBruijn64tab" =some 0:=by kernel_rfl
 obtain rfl:=Option.some.inj (hg0.symm.trans hg)
 have ht0:(prog.globals[0]?).map (·.type)=some 232:=by kernel_rfl
 obtain rfl:=Option.some.inj (ht0.symm.trans ht)
 have hcs:=b2H (k:= .u8) (e:=5) (n:=64) (vals:=tabL.map fun n:Nat=>(n:Int)) (by kernel_rfl) (by kernel_rfl) (by kernel_rfl) (by kernel_rfl) hd
 unfold World.var? at hvar
 rw[hg0]at hvar
 simp only[Option.bind_some]at hvar
 split at hvar
 ·rename_i c T fz hh
  simp only[Option.some.injEq]at hvar;subst hvar
  refine⟨T,fz,?_⟩
  show W.heap[0]? =_
  rw[hh]
  congr 2
  rw[<-Array.toList_inj,hcs,List.map_map]
  rfl
 ·cases hvar
section
variable {H:Type} {enc:TypeId×Value->H} {W:World} {base:Nat} {spare:Nat->Bool} {held:Bool} {fuel:Nat}
theorem a1E {cs:List Value} {x:DataW H×List MemPlace} (h:DataW.trod enc prog W base spare held fuel 5 cs=some x):∃c,cs=cU8 c/\c<256:=by
 obtain⟨n,e,_,hw⟩:=DataW.trod_int (k:= .u8) (by kernel_rfl) h
 obtain⟨m,rfl,hm⟩:=d5Y hw
 exact⟨m,e,hm⟩
theorem d3q {cs:List Value} {x:DataW H×List MemPlace} (h:DataW.trod enc prog W base spare held fuel 212 cs=some x):∃e:Nat×Nat,cs=cBB e/\e.1<256/\e.2<256:=by
 have hu:prog.underlying 212=some (.array 2 5):=by kernel_rfl
 have hc:prog.cellsOf 5=1:=by kernel_rfl
 have hc2:prog.cellsOf 212=2:=by kernel_rfl
 obtain⟨xs,m,_,_,hl,hx,hi⟩:=DataW.trod_array hu h
 rw[hc2]at hl
 rw[hc]at hi
 match cs,hl with
 |[c0,c1],_=>
  have h0:=hi 0 (by omega)
  have h1:=hi 1 (by omega)
  rw[List.getElem?_eq_getElem (by omega)]at h0 h1
  obtain⟨a,e0,b0⟩:=a1E h0
  obtain⟨b,e1,b1⟩:=a1E h1
  simp only[Nat.zero_mul,Nat.one_mul,List.drop_zero,List.drop_succ_cons,List.take_succ_cons,List.take_zero,cU8,List.singleton_inj]at e0 e1
  subst e0;subst e1
  exact⟨(a,b),rfl,b0,b1⟩
theorem b3V {cs:List Value} {x:DataW H×List MemPlace} (h:DataW.trod enc prog W base spare held fuel 22 cs=some x):∃w l,cs=[w]/\SE (fun b=>W.heap[b]?) 1 cU8 w l/\∀c∈l,c<256:=by
 obtain⟨w,n,xs,rfl,hs,hd⟩:=c3k (e:=5) (sz:=1) (by kernel_rfl) (by kernel_rfl) (by omega) h
 obtain⟨l,hl,hp⟩:=b5G (ce:=cU8) (p:=fun c=>c<256) hs fun i hi=>by
  obtain⟨y,m,hm⟩:=hd i hi
  exact a1E hm
 exact⟨w,l,rfl,hl,hp⟩
theorem d3r {cs:List Value} {x:DataW H×List MemPlace} (h:DataW.trod enc prog W base spare held fuel 23 cs=some x):∃w l,cs=[w]/\SE (fun b=>W.heap[b]?) 2 cBB w l/\∀e∈l,e.1<256/\e.2<256:=by
 obtain⟨w,n,xs,rfl,hs,hd⟩:=c3k (e:=212) (sz:=2) (by kernel_rfl) (by kernel_rfl) (by omega) h
 obtain⟨l,hl,hp⟩:=b5G (ce:=cBB) (p:=fun e=>e.1<256/\e.2<256) hs fun i hi=>by
  obtain⟨y,m,hm⟩:=hd i hi
  exact d3q hm
 exact⟨w,l,rfl,hl,hp⟩
set_option maxRecDepth 100000 in
theorem c7s {r:Reach} {b0:Nat} {v:Value} {d:DataW H} {p:List MemPlace} (hv:Value.okWide prog W r b0 29 v) (h:DataW.Trod enc prog W base spare held 29 v d p):
  ∃nn kk a b c g q l wa s un le mo me lv wh ps ls ms xs,v=b6S nn kk a b c g q l wa s un le mo me lv wh/\D21 (fun b=>W.heap[b]?) a b c ps ls ms/\SE (fun b=>W.heap[b]?) 1 cU8 s xs/\(∀x∈xs,x<256)/\un<256/\le<256/\mo<256:=by
 have ht:prog.underlying 29=some (.struct (fieldsOf prog 29)):=by kernel_rfl
 have hg:prog.underlying 25=some (.struct (fieldsOf prog 25)):=by kernel_rfl
 have hx:prog.underlying 27=some (.struct (fieldsOf prog 27)):=by kernel_rfl
 obtain⟨cs,rfl⟩:=OP.okWide_struct (fs:=fieldsOf prog 29) (by kernel_rfl) hv
 obtain⟨m,hm⟩:=h
 have hlen16:(Value.agg cs).cells.toList.length=16:=by
  obtain⟨xs,n,_,_,hl,hlen,hf⟩:=DataW.trod_struct ht hm
  rw[hl];kernel_rfl
 obtain⟨yD,mD,hD⟩:=a0L (k:=8) (T:=25) (o:=0) (c:=5) 0 ht (by kernel_rfl) (by omega) (by kernel_rfl) (by kernel_rfl) (by kernel_rfl) hm
 obtain⟨yX,mX,hX⟩:=a0L (k:=8) (T:=27) (o:=5) (c:=5) 1 ht (by kernel_rfl) (by omega) (by kernel_rfl) (by kernel_rfl) (by kernel_rfl) hm
 obtain⟨yun,mun,hun⟩:=a0L (k:=8) (T:=5) (o:=10) (c:=1) 2 ht (by kernel_rfl) (by omega) (by kernel_rfl) (by kernel_rfl) (by kernel_rfl) hm
 obtain⟨yle,mle,hle⟩:=a0L (k:=8) (T:=5) (o:=11) (c:=1) 3 ht (by kernel_rfl) (by omega) (by kernel_rfl) (by kernel_rfl) (by kernel_rfl) hm
 obtain⟨ymo,mmo,hmo⟩:=a0L (k:=8) (T:=5) (o:=12) (c:=1) 4 ht (by kernel_rfl) (by omega) (by kernel_rfl) (by kernel_rfl) (by kernel_rfl) hm
 obtain⟨yme,mme,hme⟩:=a0L (k:=8) (T:=5) (o:=13) (c:=1) 5 ht (by kernel_rfl) (by omega) (by kernel_rfl) (by kernel_rfl) (by kernel_rfl) hm
 obtain⟨ylv,mlv,hlv⟩:=a0L (k:=8) (T:=5) (o:=14) (c:=1) 6 ht (by kernel_rfl) (by omega) (by kernel_rfl) (by kernel_rfl) (by kernel_rfl) hm
 obtain⟨ywh,mwh,hwh⟩:=a0L (k:=8) (T:=5) (o:=15) (c:=1) 7 ht (by kernel_rfl) (by omega) (by kernel_rfl) (by kernel_rfl) (by kernel_rfl) hm
 obtain⟨ynn,mnn,hnn⟩:=a0L (k:=5) (T:=5) (o:=0) (c:=1) 0 hg (by kernel_rfl) (by omega) (by kernel_rfl) (by kernel_rfl) (by kernel_rfl) hD
 obtain⟨ya,ma,ha⟩:=a0L (k:=5) (T:=22) (o:=1) (c:=1) 1 hg (by kernel_rfl) (by omega) (by kernel_rfl) (by kernel_rfl) (by kernel_rfl) hD
 obtain⟨yb,mb,hb⟩:=a0L (k:=5) (T:=23) (o:=2) (c:=1) 2 hg (by kernel_rfl) (by omega) (by kernel_rfl) (by kernel_rfl) (by kernel_rfl) hD
 obtain⟨yc,mc,hc⟩:=a0L (k:=5) (T:=22) (o:=3) (c:=1) 3 hg (by kernel_rfl) (by omega) (by kernel_rfl) (by kernel_rfl) (by kernel_rfl) hD
 obtain⟨ykk,mkk,hkk⟩:=a0L (k:=5) (T:=5) (o:=4) (c:=1) 4 hg (by kernel_rfl) (by omega) (by kernel_rfl) (by kernel_rfl) (by kernel_rfl) hD
 obtain⟨yg,mg,hg⟩:=a0L (k:=5) (T:=5) (o:=0) (c:=1) 0 hx (by kernel_rfl) (by omega) (by kernel_rfl) (by kernel_rfl) (by kernel_rfl) hX
 obtain⟨yq,mq,hq⟩:=a0L (k:=5) (T:=5) (o:=1) (c:=1) 1 hx (by kernel_rfl) (by omega) (by kernel_rfl) (by kernel_rfl) (by kernel_rfl) hX
 obtain⟨yl,ml,hl⟩:=a0L (k:=5) (T:=5) (o:=2) (c:=1) 2 hx (by kernel_rfl) (by omega) (by kernel_rfl) (by kernel_rfl) (by kernel_rfl) hX
 obtain⟨ywa,mwa,hwa⟩:=a0L (k:=5) (T:=5) (o:=3) (c:=1) 3 hx (by kernel_rfl) (by omega) (by kernel_rfl) (by kernel_rfl) (by kernel_rfl) hX
 obtain⟨ys,ms,hs⟩:=a0L (k:=5) (T:=22) (o:=4) (c:=1) 4 hx (by kernel_rfl) (by omega) (by kernel_rfl) (by kernel_rfl) (by kernel_rfl) hX
 obtain⟨aun,eun,bun⟩:=a1E hun
 obtain⟨ale,ele,ble⟩:=a1E hle
 obtain⟨amo,emo,bmo⟩:=a1E hmo
 obtain⟨ame,eme,bme⟩:=a1E hme
 obtain⟨alv,elv,blv⟩:=a1E hlv
 obtain⟨awh,ewh,bwh⟩:=a1E hwh
 obtain⟨ann,enn,bnn⟩:=a1E hnn
 obtain⟨akk,ekk,bkk⟩:=a1E hkk
 obtain⟨ag,eg,bg⟩:=a1E hg
 obtain⟨aq,eq,bq⟩:=a1E hq
 obtain⟨al,el,bl⟩:=a1E hl
 obtain⟨awa,ewa,bwa⟩:=a1E hwa
 obtain⟨wa',pa,ea,sa,ba'⟩:=b3V ha
 obtain⟨wb,pb,eb,sb,bb⟩:=d3r hb
 obtain⟨wc,pc,ec,sc,bc'⟩:=b3V hc
 obtain⟨ws,pS,es,ss,bs'⟩:=b3V hs
 obtain⟨cs⟩:=cs
 change cs.length=16 at hlen16
 simp only[Value.cells]at enn ea eb ec ekk eg eq el ewa es eun ele emo eme elv ewh
 match cs,hlen16 with
 |[c0,c1,c2,c3,c4,c5,c6,c7,c8',c9,c10,c11,c12,c13,c14,c15],_=>
  simp only[List.drop_zero,List.drop_succ_cons,List.take_succ_cons,List.take_zero,cU8,List.cons.injEq,and_true]at enn ea eb ec ekk eg eq el ewa es eun ele emo eme elv ewh
  subst enn ea eb ec ekk eg eq el ewa es eun ele emo eme elv ewh
  exact⟨_,_,_,_,_,_,_,_,_,_,aun,ale,amo,_,_,_,pa,pc,pb,pS,rfl,⟨sa,sb,sc,ba',bb,bc'⟩,ss,bs',bun,ble,bmo⟩
end
theorem a2F {H:Type} {enc:TypeId×Value->H} {a:Assume} {C:Checked} {os:Os} {f:FuncId} {fn:Func} {s:ChangeSpec} {conds:List PathCond} {apart fresh handsOn again:Bool} {X:World->Array Value->Prop}
  (hX:∀(w w':World) (args:Array Value),w.heap=w'.heap->X w args->X w' args)
  (own:ownKnob C.prog.godebug=none) (started:os.Started) (noInit:C.prog.inits.idxOf? f=none) (hfn:C.prog.funcs[f]? =some fn)
  (witness:∃(w:World) (tape:Tape) (i:Input),w.os=os/\(w.forCall tape i).Shaped C.prog/\i.vars=[]/\Input.okWide C.prog (w.forCall tape i) .any w.heap.size f i/\
   ((s.pre enc C.prog fn conds apart (w.forCall tape i).memory i.args/\X (w.forCall tape i).memory i.args)/\sizedMet enc C.prog fn (OpenSpec.ofChange s) apart (w.forCall tape i).memory i.args)/\a.holds C.prog (lone (Frame.enter C.prog f i.args .normal) [] (w.forCall tape i)))
  (contract:∀(W:World) (base:Nat) (args:Array Value) (ds gs:List (DataW H)) (before:List MemPlace),
   (∀(j:Nat) t v,fn.params[j]? =some t->args[j]? =some v->Value.okWide C.prog W .any base t v)->
   DataW.Whole enc C.prog fn.params.toList s.vars apart W args.toList ds gs before->
   X W args->W.ShapedOpen C.prog->
   Calls C.prog f args W fun e W'=>∃v,e= .returned v/\s.post enc C.prog fn apart fresh handsOn again W args v W'):
  ReturnsInHanded a C os f .any (fun w args=>(s.pre enc C.prog fn conds apart w args/\X w args)/\sizedMet enc C.prog fn (OpenSpec.ofChange s) apart w args) (s.post enc C.prog fn apart fresh handsOn again):=by
 refine returnsInHanded_of_calls own started noInit witness ?_
 intro w tape i _ hsh _ hok hpre _
 obtain⟨_,_,_,fn',hfn',_,_,_,_,hval⟩:=hok
 have e:fn'=fn:=Option.some.inj (hfn'.symm.trans hfn)
 subst e
 obtain⟨⟨⟨ds,gs,before,hw,_⟩,hx⟩,_⟩:=hpre
 have hw':=DataW.Whole.of_heap (w':=w.forCall tape i) (by rfl) hw
 refine(contract (w.forCall tape i) w.heap.size i.args ds gs before hval hw' (hX _ _ _ (by rfl) hx) hsh).mono fun e W' ⟨v,he,hp⟩=> ?_
 subst he
 exact ChangeSpec.post_blind hp
set_option maxRecDepth 100000 in
theorem a8v (os:Os) (started:os.Started) (H:Type) (enc:TypeId×Value->H):
  ReturnsInHanded {} Tryz.checked os 3 .any (fun w args=>(Rows.topExactSpec.pre enc prog f3 [] false w args/\laidMetH prog Rows.topExactRow.laid w)/\sizedMet enc prog f3 (OpenSpec.ofChange Rows.topExactSpec) false w args)
   (Rows.topExactSpec.post enc prog f3 false true false false):=by
 refine a2F (C:=Tryz.checked) (X:=fun w _=>laidMetH prog Rows.topExactRow.laid w) (fun _ _ _ hh h=>h.of_heap hh) c3l started (by kernel_rfl) Tryz.func3
  (ChangeSpec.witness_shaped (enc:=enc) (C:=Tryz.checked) (os:=os) (X:=fun w _=>laidMetH prog Rows.topExactRow.laid w) false (World.laidAll prog os Rows.topExactRow.laid) #[.agg #[.int .u8 0,.slice none 0 0,.slice none 0 0,.slice none 0 0,.int .u8 0,.int .u8 0,.int .u8 0,.int .u8 0,.int .u8 0,.slice none 0 0,.int .u8 0,.int .u8 0,.int .u8 0,.int .u8 0,.int .u8 0,.int .u8 0]] 8 (World.laidAll_os _ _ _)
   (World.shaped_of_ZipB (by kernel_rfl) (by kernel_rfl)) (by kernel_rfl) (by kernel_rfl) (by kernel_rfl)
   (by rw[MakeChecks.laidMetH_plain _ _ _ (by kernel_rfl)];exact laidMet_laidAll _ (by kernel_rfl) (by kernel_rfl))) ?_
 intro W base args ds gs before hval0 hW hX hSh
 have hval:∀(j:Nat) t v,f3.params[j]? =some t->args[j]? =some v->Value.okWide prog W .any base t v:=hval0
 have hTb:=b6W (W:=W) (by rw[<-MakeChecks.laidMetH_plain _ _ _ (by kernel_rfl)];exact hX)
 have hW':=hW
 obtain⟨p,q,hA0,hV,rfl,hfz,hnd⟩:=hW
 have hA:DataW.TrodAll enc prog W 0 (fun _=>true) true f3.params.toList args.toList ds p:=hA0
 rw[Tryz.params3]at hA hval
 obtain⟨v0,vs0,d0,ds0,p0,q0,hargs,rfl,rfl,h0,r0⟩:=trodAll_cons hA
 obtain⟨rfl,rfl,rfl⟩:=trodAll_nil r0
 obtain rfl:args= #[v0]:=by cases args;simp_all
 obtain⟨rfl,rfl⟩:=trodVars_none hV
 have lt0:∀x∈p0,x.block<W.heap.size:=by obtain⟨m,hm⟩:=h0;exact DataW.trod_lt m _ _ _ hm
 obtain⟨nn,kk,a,b,c,g,q,l,wa,s,un,le,mo,me,lv,wh,ps,ls,ms,xs,rfl,hD,hs,h8,hun,hle,hmo⟩:=c7s (hval 0 _ v0 rfl rfl) h0
 clear hA0 hval0
 have hcon:Con prog 3 [b6S nn kk a b c g q l wa s un le mo me lv wh] (fun b=>W.heap[b]?) fun v H'=>v= .bool true/\PH.le (fun b=>W.heap[b]?) H':=(d3o hTb hD hs h8 hun hle hmo).mono fun u H' ⟨g1,g2⟩=>⟨g2,g1⟩
 refine(d3p hcon (W:=W) (H:=fun b=>W.heap[b]?) (fun b o hb=>hb)).mono fun e W' ⟨he,bel⟩=> ?_
 subst he
 exact⟨_,rfl,_,_,_,[],_,[],hW',trodAll_mk1 (shut_bool (by kernel_rfl) _),(trodAll_cons_mk (Below.trod c7r (by kernel_rfl) (of_decide_eq_true (by kernel_rfl)) h0 bel lt0) trodAll_mk0),rfl,bel.frame _,fun h=>by cases h⟩
end Go.Proofs.YtlmgkkjgdapnpaaGreatDoor
/- The law TopExact returns true for every argument, and leaves it as it was: its tied card. -/
namespace Go.Proofs.YtlmgkkjgdapnpaaGreatDoor
open Go.Proofs.Tryz
set_option maxRecDepth 100000
open Go.ChangeShapes Go.WideShapes Go.ChangeAt Go.RowKit Go.RX Go.GS Go.OP
theorem kf1:Rows.topExactRow.wf (OpenSpec.ofChange Rows.topExactSpec)=true:=by kernel_rfl
theorem kf2:laidOutB prog=true:=by kernel_rfl
theorem kf3:mapsRowed prog=true:=by kernel_rfl
theorem kf4:(f3.params.all (prog.readableRec ·))=true:=by kernel_rfl
theorem kf5:namedTie prog Rows.topExactRow.named Rows.topExactSpec.vars=true:=by kernel_rfl
theorem kf6:(Rows.topExactRow.stops==[])=true:=by kernel_rfl
theorem kf7:(prog.stops==[])=true:=by kernel_rfl
theorem kf8:(Rows.topExactRow.knobs==[])=true:=by kernel_rfl
theorem kf9:(prog.stopKnobs==[])=true:=by kernel_rfl
theorem d8I:(Rows.topExactRow.inPlace==prog.inPlace 3)=true:=by kernel_rfl
theorem d8J:(Rows.topExactRow.unfollowed==prog.unfollowed 3)=true:=by kernel_rfl
theorem d8K:(Rows.topExactRow.recurses==prog.recurses 3)=true:=by kernel_rfl
theorem d8L:(Rows.topExactRow.named==prog.varsNamed 3)=true:=by kernel_rfl
theorem d8M:(Rows.topExactRow.maps==(f3.params.toList++Rows.topExactSpec.plain.varTypes prog).any (prog.mapsRec ·))=true:=by kernel_rfl
theorem d8N:(Rows.topExactRow.ifaces==(f3.params.toList++Rows.topExactSpec.plain.varTypes prog).any (prog.ifacesRec ·))=true:=by kernel_rfl
theorem d8O:(Rows.topExactRow.mapsOut==prog.mapsAmong f3.resultTypes.toList)=true:=by kernel_rfl
theorem d8P:(Rows.topExactRow.loops==(f3.params.toList++Rows.topExactSpec.plain.varTypes prog).any (prog.loopsFrom ·))=true:=by kernel_rfl
theorem d7E:(Rows.topExactRow.wideKeys==(f3.params.toList++Rows.topExactSpec.plain.varTypes prog++f3.resultTypes.toList).any (prog.wideKeysFrom ·))=true:=by kernel_rfl
theorem d8Q:(Rows.topExactSpec.vars.all (prog.varReadable ·))=true:=by kernel_rfl
theorem d8R:f3.resultTypes.all (fun t=>prog.readableRec t&&decide (t<prog.types.size))=true:=by kernel_rfl
theorem d8S:(Rows.topExactRow.ifacesOut==f3.resultTypes.toList.any (prog.ifacesRec ·))=true:=by kernel_rfl
theorem d8T:(Rows.topExactRow.loopsOut==f3.resultTypes.toList.any (prog.loopsFrom ·))=true:=by kernel_rfl
theorem d8U:(Rows.topExactRow.plainKeys==prog.plainKeys)=true:=by kernel_rfl
theorem d8V:Rows.topExactRow.shortTexts.isNone=true:=by kernel_rfl
theorem d7F:prog.stopsHeard=true:=by kernel_rfl
theorem d8W:prog.mayEnter=true:=by kernel_rfl
theorem d7G:(Rows.topExactRow.lifted==prog.liftsFinal)=true:=by kernel_rfl
theorem d7H:(prog.make==some Rows.topExactRow.make)=true:=by kernel_rfl
theorem d8X:(Rows.topExactRow.kinds==(if Rows.topExactRow.domain.isEmpty then[]else f3.params.toList.map fun t=>match prog.underlying t with|some (.int k)=>some k|_=>none))=true:=by kernel_rfl
theorem d8Y:(Rows.topExactRow.pinned==Rows.topExactRow.pinnedBy)=true:=by kernel_rfl
theorem d8Z:(Rows.topExactRow.veiled==(f3.params.toList++Rows.topExactSpec.plain.varTypes prog++f3.resultTypes.toList).any (prog.veiledRec ·))=true:=by kernel_rfl
theorem d9a:Rows.topExactRow.veiledFits prog f3.params.toList (f3.params.toList++Rows.topExactSpec.plain.varTypes prog++f3.resultTypes.toList)=true:=by kernel_rfl
theorem d5Z:joinedFacts prog 3 f3 Rows.topExactSpec Rows.topExactRow=true:=by
 unfold joinedFacts
 simp only[Bool.and_eq_true]
 exact⟨⟨⟨⟨⟨⟨⟨⟨⟨⟨⟨⟨⟨⟨⟨⟨⟨⟨⟨⟨⟨⟨⟨⟨⟨⟨⟨⟨⟨⟨⟨kf1,kf2⟩,kf3⟩,kf4⟩,kf5⟩,kf6⟩,kf7⟩,kf8⟩,kf9⟩,d8I⟩,d8J⟩,d8K⟩,d8L⟩,d8M⟩,d8N⟩,d8O⟩,d8P⟩,d7E⟩,d8Q⟩,d8R⟩,d8S⟩,d8T⟩,d8U⟩,d8V⟩,d7F⟩,d8W⟩,d7G⟩,d7H⟩,d8X⟩,d8Y⟩,d8Z⟩,d9a⟩
theorem b0J:Rows.topExactRow.holds Tryz.pinned (OpenSpec.ofChange Rows.topExactSpec):=
 OpenClaim.holds_of_wide 3 f3 rfl rfl rfl rfl rfl rfl rfl ⟨rfl,rfl,rfl,rfl,rfl⟩ rfl rfl rfl rfl rfl (by kernel_rfl) Tryz.func3 d5Z
  (of_decide_eq_true (by kernel_rfl)) (by unfold Func.isWrapper;first|(rw[if_pos (by decide+kernel)];kernel_rfl)|(rw[if_neg (by decide+kernel)];exact⟨rfl,rfl⟩))
  (fun os started H enc _=>a8v os started H enc)
theorem topExact_card:Rows.TopExactCardSaid:=
 Claim7.holds_tied_plain_at .later [] [.data,.data,.data,.pinned] true (true, "086de4bc754a8b06e980fb6180a4455c3728d7c50e70841d87b84b8a2df87301") true b0J (fun _ h=>by cases h) (by kernel_rfl) (fun _ h=>by cases h) topExact_row_tie rfl ⟨rfl,rfl⟩ (by kernel_rfl) rfl
  (fun f fn hf hfn=>by
   obtain rfl:f=3:=Option.some.inj ((show prog.funcNamed "wardmote/wardmotetop.TopExact" =some 3 by kernel_rfl).symm.trans hf)|>.symm
   obtain rfl:fn=f3:=(Option.some.inj (Tryz.func3.symm.trans hfn)).symm
   exact⟨by kernel_rfl,fun j t ht=>by
    have hm:t∈f3.params.toList:=Array.mem_toList_iff.2 (Array.mem_of_getElem? ht)
    have hall:(f3.params.toList.all fun u=> !prog.wantsStandIn u)=true:=by kernel_rfl
    exact(show prog.wantsStandIn t=false by simpa using List.all_eq_true.1 hall t hm)⟩)
  (by kernel_rfl)
#print axioms topExact_card
end Go.Proofs.YtlmgkkjgdapnpaaGreatDoor

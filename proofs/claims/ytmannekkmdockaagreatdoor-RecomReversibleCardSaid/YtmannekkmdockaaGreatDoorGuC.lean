/- Chapter 32: parts of a step, on both sides. -/
import Derived.Test.YtmannekkmdockaaGreatDoorGdI
import Derived.Test.YtmannekkmdockaaGreatDoorProg
import Derived.Test.YtmannekkmdockaaGreatDoorRxW
import Derived.Test.YtmannekkmdockaaGreatDoorGsF
import Derived.Test.YtmannekkmdockaaGreatDoorRfI
import Derived.Test.YtmannekkmdockaaGreatDoorRfC
import Derived.Test.YtmannekkmdockaaGreatDoorGyC
import Derived.Test.YtmannekkmdockaaGreatDoorGdE
namespace Go.Proofs.YtmannekkmdockaaGreatDoor
open Go.Proofs.Tryz
open Go.RowKit Go.RX Go.GS
section
variable {H H0:PH} {u v w wts:Value} {p q wl t:List Int} {n a b:Nat} {es:List (Nat×Nat)} {lo hi ds k:Int} {set x:Nat}
abbrev OE (H0 H:PH) (v:Value) (l:List (Nat×Nat)):Prop:=SO H0 H 99 2 ec v l
theorem c6F {k:Nat} (hk:k<=8):Con prog 111 [ii (k:Nat)] H fun r H'=>PH.le H H'/\OE H H' r (a0A k):=by
 refine a0b mixed d0L (by kernel_rfl) rfl ?_
 refine a0k (α:=Nat×Value) (fun⟨i,v⟩=>[v,ii (i:Nat)]) (fun⟨i,v⟩=>fun H'=>i<=k/\PH.le H H'/\OE H H' v (prI k i)) (fun⟨i,v⟩=>k-i) ((0,.slice none 0 0)) rfl (⟨Nat.zero_le _,PH.le.refl _,SO.nil _ _ _ _ _⟩) fun⟨i,v⟩ H' hQ=> ?_
 simp only[cA,nA]
 obtain⟨hi,l1,o1⟩:=hQ
 refine a0a ⟨_,rfl⟩ ?_
 refine a0a ⟨_,rfl⟩ ?_
 refine a0e (b:=decide (((i:Nat):Int)<(k:Nat))) rfl (fun h=> ?_) (fun h=> ?_)
 ·replace h:=of_decide_eq_true h
  have hi':i<k:=by omega
  refine a0k (α:=Nat×Value) (fun⟨j,v⟩=>[v,ii (j:Nat)]) (fun⟨j,v⟩=>fun H2=>i+1<=j/\j<=k/\PH.le H H2/\OE H H2 v (prI k i++b4B i j)) (fun⟨j,v⟩=>k-j) ((i+1,v)) (a1s rfl (a0w rfl (by omega))) (⟨Nat.le_refl _,hi',l1,by rw[c6r,List.append_nil];exact o1⟩) fun⟨j,v⟩ H2 hQ2=> ?_
  simp only[cA,nA]
  obtain⟨hj1,hj2,l2,o2⟩:=hQ2
  refine a0a ⟨_,rfl⟩ ?_
  refine a0e (b:=decide (((j:Nat):Int)<(k:Nat))) rfl (fun h2=> ?_) (fun h2=> ?_)
  ·replace h2:=of_decide_eq_true h2
   have hj':j<k:=by omega
   have hpl:=b1x k i
   have hpl2:i*k<=64:=Nat.mul_le_mul (show i<=8 by omega) hk
   refine a0a (el_int.vcells _) ?_
   refine a0a (el_int.vcells _) ?_
   refine a3k el_edge rfl rfl rfl (fun _=>rfl) (fun _=>rfl) l2 o2 (by rw[List.length_append,b6F];omega) (a3K (c6x (a:=i) (b:=j) rfl rfl)) (fun _=>rfl) rfl fun p7 v7 H7 l7 o7=> ?_
   simp only[cA,nA]
   exact⟨(j+1,v7),by show k-(j+1)<k-j;omega,(a1s rfl (a0w rfl (by omega))),⟨by show i+1<=j+1;omega,hj',l7,by rw[c2w hj1,<-List.append_assoc];exact o7⟩⟩
  ·replace h2:=of_decide_eq_false h2
   have hjk:j=k:=by omega
   subst hjk
   exact⟨(i+1,v),by show j-(i+1)<j-i;omega,(a1s rfl (a0w rfl (by omega))),⟨hi',l2,by rw[b6E];exact o2⟩⟩
 ·replace h:=of_decide_eq_false h
  have hik:i=k:=by omega
  subst hik
  exact a0c rfl ⟨l1,o1⟩
theorem b6H {o R:List Int} {m:Nat} {y:Int} (h:∀j,o[j]? =if j<m then R[j]? else p[j]?) (hm:m<o.length) (hy:R[m]? =some y):∀j,(o.set m y)[j]? =if j<m+1 then R[j]? else p[j]?:=fun j=>by
 by_cases e:j=m
 ·subst e;rw[List.getElem?_set_self hm,if_pos (by omega),hy]
 ·rw[List.getElem?_set_ne (fun e2=>e e2.symm),h j]
  by_cases h2:j<m
  ·rw[if_pos h2,if_pos (by omega)]
  ·rw[if_neg h2,if_neg (by omega)]
theorem d1P {o R:List Int} {m:Nat} (h:∀j,o[j]? =if j<m then R[j]? else p[j]?) (hy:R[m]? =p[m]?):∀j,o[j]? =if j<m+1 then R[j]? else p[j]?:=fun j=>by
 rw[h j]
 by_cases e:j=m
 ·subst e;rw[if_neg (by omega),if_pos (by omega),hy]
 ·by_cases h2:j<m
  ·rw[if_pos h2,if_pos (by omega)]
  ·rw[if_neg h2,if_neg (by omega)]
theorem d5n {o R:List Int} (h:∀j,o[j]? =if j<p.length then R[j]? else p[j]?) (hl:R.length=p.length):o=R:=List.ext_getElem? fun j=>by
 rw[h j]
 by_cases h2:j<p.length
 ·rw[if_pos h2]
 ·rw[if_neg h2,List.getElem?_eq_none (by omega),List.getElem?_eq_none (by omega)]
theorem c6G {i k a:Nat} (hu:SI H u p) (hL:LabOk p 8) (hi:i<8) (hk:k<8) (ha:a<M64):Con prog 116 [u,ii (i:Nat),ii (k:Nat),uv a] H fun r H'=>PH.le H H'/\SI H' r (a0x (a2C p (i:Nat) (k:Nat) a)):=by
 refine a0b mixed d0K (by kernel_rfl) rfl ?_
 have hl:=hu.len
 have hp64:=hL.2.2
 have hRl:=a1t p (i:Nat) (k:Nat) a
 refine a0d (c6E hu (by omega)) rfl ?_
 rintro v4 H1 ⟨l1,o1⟩
 refine⟨fun h=>(nomatch h),?_⟩
 simp only[cA,nA]
 refine a0h el_plan rfl rfl (hu.mono l1) rfl ?_
 refine a0k (α:=Nat×List Int) (fun⟨m,o⟩=>[ii (m:Nat)]) (fun⟨m,o⟩=>fun H'=>m<=p.length/\o.length=p.length/\(∀j,o[j]? =if j<m then(a2C p (i:Nat) (k:Nat) a)[j]? else p[j]?)/\PH.le H H'/\OI H H' v4 o) (fun⟨m,o⟩=>p.length-m) ((0,p)) rfl (⟨Nat.zero_le _,rfl,fun j=>by rw[if_neg (Nat.not_lt_zero _)],l1,o1⟩) fun⟨m,o⟩ H' hQ=> ?_
 simp only[cA,nA]
 obtain⟨hm,hol,hoj,l2,o2⟩:=hQ
 refine a0a ⟨_,rfl⟩ ?_
 refine a0a ⟨_,rfl⟩ ?_
 refine a0e (b:=decide (((m:Nat):Int)<(p.length:Nat))) rfl (fun h=> ?_) (fun h=> ?_)
 ·replace h:=of_decide_eq_true h
  have hm':m<p.length:=by omega
  obtain⟨y,hy,_⟩:=a0B hm'
  have hR:=b1v (i:=(i:Int)) (k:=(k:Int)) (a:=a) hy
  refine a0i el_plan rfl rfl rfl rfl (fun _=>rfl) (hu.mono l2) hy rfl (fun _=>rfl) fun _=> ?_
  simp only[cA,nA]
  refine a0a ⟨_,rfl⟩ ?_
  refine a0a ⟨_,rfl⟩ ?_
  refine a0e (b:=decide (y≠(i:Nat))) (bN _ _) (fun h1=> ?_) (fun h1=> ?_)
  ·replace h1:=of_decide_eq_true h1
   refine a0a ⟨_,rfl⟩ ?_
   refine a0e (b:=decide (y≠(k:Nat))) (bN _ _) (fun h2=> ?_) (fun h2=> ?_)
   ·replace h2:=of_decide_eq_true h2
    have hv:rcV (i:Nat) (k:Nat) a m y=y:=if_neg (fun e=>e.elim h1 h2)
    exact⟨(m+1,o),by show p.length-(m+1)<p.length-m;omega,(a3K (a0w rfl (by omega))),⟨hm',hol,d1P hoj (by rw[hR,hv,hy]),l2,o2⟩⟩
   ·replace h2:=of_decide_eq_false h2
    have hik:y=(i:Nat)\/y=(k:Nat):= .inr (Classical.byContradiction h2)
    refine a0R el_plan (a:=((k:Nat):Int)) rfl rfl rfl rfl (fun _=>rfl) (fun _=>rfl) l2 o2 (show m<o.length by omega) rfl (fun _=>rfl) rfl fun q3 u3 H3 l3 o3 _=> ?_
    simp only[cA,nA]
    refine a0a ⟨_,rfl⟩ ?_
    refine a0a ⟨_,_,rfl⟩ ?_
    refine a0a (by show(0:Int)<=((m:Nat):Int);omega) ?_
    refine a0e (b:=bit a m) (b8a rfl ha rfl (by omega)) (fun b1=> ?_) (fun b1=> ?_)
    ·skip
     refine a0R el_plan (a:=((i:Nat):Int)) rfl rfl rfl rfl (fun _=>rfl) (fun _=>rfl) l3 o3 (show m<(o.set m (k:Nat)).length by rw[List.length_set];omega) rfl (fun _=>rfl) rfl fun q5 u5 H5 l5 o5 _=> ?_
     simp only[cA,nA]
     rw[List.set_set]at o5
     exact⟨(m+1,o.set m (i:Nat)),by show p.length-(m+1)<p.length-m;omega,(a3K (a0w rfl (by omega))),⟨hm',by rw[List.length_set];exact hol,b6H hoj (by omega) (by rw[hR];unfold rcV;rw[if_pos hik,if_pos b1]),l5,o5⟩⟩
    ·skip
     exact⟨(m+1,o.set m (k:Nat)),by show p.length-(m+1)<p.length-m;omega,(a3K (a0w rfl (by omega))),⟨hm',by rw[List.length_set];exact hol,b6H hoj (by omega) (by rw[hR];unfold rcV;rw[if_pos hik,if_neg (by rw[b1];simp)]),l3,o3⟩⟩
  ·replace h1:=of_decide_eq_false h1
   have hik:y=(i:Nat)\/y=(k:Nat):= .inl (Classical.byContradiction h1)
   refine a0R el_plan (a:=((k:Nat):Int)) rfl rfl rfl rfl (fun _=>rfl) (fun _=>rfl) l2 o2 (show m<o.length by omega) rfl (fun _=>rfl) rfl fun q3 u3 H3 l3 o3 _=> ?_
   simp only[cA,nA]
   refine a0a ⟨_,rfl⟩ ?_
   refine a0a ⟨_,_,rfl⟩ ?_
   refine a0a (by show(0:Int)<=((m:Nat):Int);omega) ?_
   refine a0e (b:=bit a m) (b8a rfl ha rfl (by omega)) (fun b1=> ?_) (fun b1=> ?_)
   ·skip
    refine a0R el_plan (a:=((i:Nat):Int)) rfl rfl rfl rfl (fun _=>rfl) (fun _=>rfl) l3 o3 (show m<(o.set m (k:Nat)).length by rw[List.length_set];omega) rfl (fun _=>rfl) rfl fun q5 u5 H5 l5 o5 _=> ?_
    simp only[cA,nA]
    rw[List.set_set]at o5
    exact⟨(m+1,o.set m (i:Nat)),by show p.length-(m+1)<p.length-m;omega,(a3K (a0w rfl (by omega))),⟨hm',by rw[List.length_set];exact hol,b6H hoj (by omega) (by rw[hR];unfold rcV;rw[if_pos hik,if_pos b1]),l5,o5⟩⟩
   ·skip
    exact⟨(m+1,o.set m (k:Nat)),by show p.length-(m+1)<p.length-m;omega,(a3K (a0w rfl (by omega))),⟨hm',by rw[List.length_set];exact hol,b6H hoj (by omega) (by rw[hR];unfold rcV;rw[if_pos hik,if_neg (by rw[b1];simp)]),l3,o3⟩⟩
 ·replace h:=of_decide_eq_false h
  have he:m=p.length:=by omega
  subst he
  obtain rfl:=d5n hoj hRl
  refine a0d (a7k o2.se (b1w hL (by omega) (by omega))) rfl ?_
  rintro r H5 ⟨l5,z,rfl,hz⟩
  refine⟨fun h=>(nomatch h),?_⟩
  simp only[cA,nA]
  refine a0a ⟨_,rfl,by simp⟩ ?_
  refine a0a ⟨_,rfl,by simp⟩ ?_
  exact a0c rfl ⟨l2.trans l5,hz.se⟩
end
end Go.Proofs.YtmannekkmdockaaGreatDoor
/- Chapter 32: parts of the reference's step. -/
namespace Go.Proofs.YtmannekkmdockaaGreatDoor
open Go.Proofs.Tryz
open Go.RowKit Go.RX Go.GS
section
variable {H H0:PH} {u v w wts:Value} {p q wl t l m:List Int} {n a b:Nat} {es:List (Nat×Nat)} {lo hi ds k:Int} {set x:Nat}
theorem b8o (hu:SI H u l) (hv:SI H v m):Asks prog 57 [u,v] H (.bool (decide (l=m))):=by
 refine a0b mixed c1A (by kernel_rfl) rfl ?_
 have h1:=hu.len
 have h2:=hv.len
 refine a0h el_plan rfl rfl hu rfl ?_
 refine a0h el_plan rfl rfl hv rfl ?_
 refine a0a ⟨_,rfl⟩ ?_
 refine a0a ⟨_,rfl⟩ ?_
 refine a0e (b:=decide (l.length≠m.length)) (by show Value.bool (((l.length:Nat):Int) !=((m.length:Nat):Int))=_;rw[bN];congr 1;apply decide_eq_decide.2;omega) (fun h=> ?_) (fun h=> ?_)
 ·replace h:=of_decide_eq_true h
  exact a0c rfl ⟨rfl,by rw[decide_eq_false (fun e=>h (by rw[e]))];rfl⟩
 ·replace h:=of_decide_eq_false h
  have hlm:l.length=m.length:=by omega
  refine a0K (α:=Nat×Value) (fun⟨i,z⟩=>[z,ii (i:Nat)]) (fun⟨i,z⟩=>i<=l.length/\∀j,j<i->l[j]? =m[j]?) (fun⟨i,z⟩=>l.length-i) ((0,.bool false)) rfl (⟨Nat.zero_le _,fun j hj=>absurd hj (Nat.not_lt_zero _)⟩) fun⟨i,z⟩ hQ=> ?_
  simp only[cA,nA]
  obtain⟨hi,hq⟩:=hQ
  refine a0h el_plan rfl rfl hu rfl ?_
  refine a0a ⟨_,rfl⟩ ?_
  refine a0a ⟨_,rfl⟩ ?_
  refine a0e (b:=decide (((i:Nat):Int)<(l.length:Nat))) rfl (fun h3=> ?_) (fun h3=> ?_)
  ·replace h3:=of_decide_eq_true h3
   obtain⟨y,hy,_⟩:=a0B (l:=l) (i:=i) (by omega)
   obtain⟨z2,hz,_⟩:=a0B (l:=m) (i:=i) (by omega)
   refine a0i el_plan rfl rfl rfl rfl (fun _=>rfl) hu hy rfl (fun _=>rfl) fun _=> ?_
   simp only[cA,nA]
   refine a0i el_plan rfl rfl rfl rfl (fun _=>rfl) hv hz rfl (fun _=>rfl) fun _=> ?_
   simp only[cA,nA]
   refine a0a ⟨_,rfl⟩ ?_
   refine a0a ⟨_,rfl⟩ ?_
   refine a0e (b:=decide (y≠z2)) (bN _ _) (fun h4=> ?_) (fun h4=> ?_)
   ·replace h4:=of_decide_eq_true h4
    exact a0c rfl ⟨rfl,by rw[decide_eq_false (fun e=>by subst e;rw[hy]at hz;exact h4 (Option.some.inj hz))];rfl⟩
   ·replace h4:=of_decide_eq_false h4
    have h4':y=z2:=Classical.byContradiction h4
    exact⟨(i+1,z),by show l.length-(i+1)<l.length-i;omega,(a1s rfl (a0w rfl (by omega))),⟨⟨by show i+1<=l.length;omega,fun j hj=>by
     by_cases e:j=i
     ·subst e;rw[hy,hz,h4']
     ·exact hq j (by have:j<i+1:=hj;omega)⟩,rfl⟩⟩
  ·replace h3:=of_decide_eq_false h3
   have he:i=l.length:=by omega
   subst he
   have hlm2:l=m:=List.ext_getElem? fun j=>by
    by_cases hj:j<l.length
    ·exact hq j hj
    ·rw[List.getElem?_eq_none (by omega),List.getElem?_eq_none (by omega)]
   exact a0c rfl ⟨rfl,by rw[decide_eq_true hlm2];rfl⟩
end
end Go.Proofs.YtmannekkmdockaaGreatDoor
/- Chapter 32: the reference's random spanning trees. -/
namespace Go.GS
open Go.RowKit Go.RX
theorem d5o {P:Program} {ρ:List Value} {a:SV} {p:Nat} (ha:D P ρ a=ii (p:Nat)) (h0:0<p) (h:p<9223372036854775807):D P ρ (.op2 .sub .i64 a (.k (.int .i64 1)))=ii ((p-1:Nat):Int):=by
 obtain⟨k,rfl⟩:∃k,p=k+1:=⟨p-1,by omega⟩
 exact d4x ha (by omega)
end Go.GS
/- Chapter 32: a step, by the program. -/
namespace Go.Proofs.YtmannekkmdockaaGreatDoor
open Go.Proofs.Tryz
open Go.RowKit Go.RX Go.GS
theorem d7c:FA prog 137 0 0:=⟨by kernel_rfl,of_decide_eq_true (by kernel_rfl),by kernel_rfl,by kernel_rfl,of_decide_eq_true (by kernel_rfl)⟩
section
variable {H H0:PH} {u v w wts:Value} {p q wl t l:List Int} {n c e m bw:Nat} {es:List (Nat×Nat)} {lo hi ds:Int} {set x:Nat}
def rwc (wts:Value) (lo hi ds:Int) (n:Nat) (w:Value) (c e:Nat):Array Value:= #[wts,ii lo,ii hi,ii ds,ii (n:Nat),w,uv c,ii (e:Nat)]
def RwO (wts:Value) (lo hi ds:Int) (n:Nat) (w:Value) (c e:Nat):Obj:= .cells (rwc wts lo hi ds n w c e) 137 (0,0)
end
end Go.Proofs.YtmannekkmdockaaGreatDoor
/- Chapter 30: the number of spanning trees with some edges, and without some. -/
namespace Go.RX
open Go.RowKit
theorem b2Z {P:Program} {T e:TypeId} {sz:Nat} {ag:Bool} {α:Type} {ce:α->List Value} {ve:α->Value} (E:El P T e sz ag ce ve) {G:Value->PH->Prop} {nx:List (List Value->PH->Prop)} {ρ:List Value} {H:PH} {o:Oper} {x y:Operand} {id i:Nat} {args:List SV} {t:Tree} {pf:Bool} {kl kc:IntKind} {m:Nat} {z:α} (hz:a0I P e=ve z) (ho:o.op= .makeSlice T x y) (hx:a0f [x,y] [.int kl (m:Nat),.int kc (m:Nat)] x= .int kl (m:Nat)) (hy:a0f [x,y] [.int kl (m:Nat),.int kc (m:Nat)] y= .int kc (m:Nat)) (hm:m<=68719476736) (ha:args.map (D P ρ)=[.int kl (m:Nat),.int kc (m:Nat)])
  (n:∀g H',H g=none->PH.le H H'->(∀k,k≠g->H' k=H k)->SO H H' e sz ce (.slice (some ⟨g,0,none⟩) m m) (List.replicate m z)->den P G t nx (ρ++[.slice (some ⟨g,0,none⟩) m m]) H'):den P G (.eff pf id i o args t) nx ρ H:=by
 obtain⟨ti,zv,h1,h2,h3,h4,h5⟩:=E.inf
 refine a0l (b3O ho hx hy E.und h1 h2 h3 (by have:=Nat.mul_le_mul h5 hm;omega) (by simp only[maxLen];omega)) ha ?_
 rintro v H' ⟨g,hg,rfl,rfl⟩
 refine⟨fun _=>PH.le_put hg _,n g _ hg (PH.le_put hg _) (fun k hk=>PH.put_ne _ _ hk) (b2A E hg (by simp) (by simp only[maxLen];omega) ?_)⟩
 have hzv:zv=ve z:=by
  rw[<-hz];unfold a0I;rw[h1];simp[h2]
 subst hzv
 have hpos:=E.pos
 have hcz:=E.cells z
 have hlz:=E.len z
 show(madeCells (ve z).cells (m*sz)).toList=_
 have hr:∀m,(List.replicate m z).flatMap ce=(List.range (m*sz)).map fun c=>(ce z)[c%sz]?.getD undef:=by
  intro m
  induction m with
  |zero=>simp
  |succ m ih=>
   rw[List.replicate_succ',List.flatMap_append,ih,Nat.add_mul,Nat.one_mul,List.range_add,List.map_append]
   congr 1
   simp only[List.flatMap_cons,List.flatMap_nil,List.append_nil]
   apply List.ext_getElem?
   intro c
   simp only[List.getElem?_map,List.getElem?_range]
   by_cases hc:c<sz
   ·rw[List.getElem?_range hc]
    simp only[Option.map_some]
    rw[Nat.add_comm,Nat.add_mul_mod_self_right,Nat.mod_eq_of_lt hc,List.getElem?_eq_getElem (by omega)];rfl
   ·rw[List.getElem?_eq_none (by omega),List.getElem?_eq_none (by simp;omega)];rfl
 rw[hr]
 apply List.ext_getElem?
 intro c
 simp only[madeCells,Array.toList_map,List.getElem?_map,Array.toList_range]
 by_cases hc:c<m*sz
 ·rw[List.getElem?_range hc]
  simp only[Option.map_some]
  congr 1
  have hm2:c%sz<sz:=Nat.mod_lt _ hpos
  rw[h4,<-hcz]
  have:c%sz<(ve z).cells.size:=by omega
  simp[this]
 ·rw[List.getElem?_eq_none (by simp;omega)];simp
end Go.RX
namespace Go.Proofs.YtmannekkmdockaaGreatDoor
open Go.Proofs.Tryz
open Go.RowKit Go.RX Go.GS
open Go.WD (BP a1E)
set_option maxRecDepth 100000
def wE (set:Nat) (es:List (Nat×Nat)) (W:List Int) (k:Nat):List (Nat×Nat):=(((a4Y set 0 es).take k).filter fun y=>decide (((y.1:Nat):Int)∈W)).map (·.2)
def oE (set:Nat) (es:List (Nat×Nat)) (O:List Int) (f:Nat->Nat) (k:Nat):List (Nat×Nat):=(((a4Y set 0 es).take k).filter fun y=> !decide (((y.1:Nat):Int)∈O)&& !decide (f y.2.1=f y.2.2)).map (·.2)
section
variable {set k:Nat} {es:List (Nat×Nat)} {W O:List Int} {f:Nat->Nat} {y:Nat×(Nat×Nat)}
theorem c2A (h:(a4Y set 0 es)[k]? =some y) (hw:((y.1:Nat):Int)∈W):wE set es W (k+1)=wE set es W k++[y.2]:=by
 unfold wE;rw[take_snoc h,List.filter_append,List.map_append];simp[hw]
theorem d5p (h:(a4Y set 0 es)[k]? =some y) (hw:((y.1:Nat):Int)∉W):wE set es W (k+1)=wE set es W k:=by
 unfold wE;rw[take_snoc h,List.filter_append,List.map_append];simp[hw]
theorem d5q (h:(a4Y set 0 es)[k]? =some y) (hw:((y.1:Nat):Int)∉O) (hf:f y.2.1≠f y.2.2):oE set es O f (k+1)=oE set es O f k++[y.2]:=by
 unfold oE;rw[take_snoc h,List.filter_append,List.map_append];simp[hw,hf]
theorem d5r (h:(a4Y set 0 es)[k]? =some y) (hw:((y.1:Nat):Int)∈O\/f y.2.1=f y.2.2):oE set es O f (k+1)=oE set es O f k:=by
 unfold oE;rw[take_snoc h,List.filter_append,List.map_append];rcases hw with hw|hw<;>simp[hw]
theorem a8D:∀(es:List (Nat×Nat)) (i:Nat) (y:Nat×(Nat×Nat)),y∈a4Y set i es->i<=y.1/\es[y.1-i]? =some y.2/\bit set y.2.1=true/\bit set y.2.2=true
 |[],_,_,h=>by cases h
 |e::r,i,y,h=>by
  unfold a4Y at h
  split at h
  ·rename_i hb
   rcases List.mem_cons.1 h with rfl|h
   ·simp only[Bool.and_eq_true]at hb
    exact⟨Nat.le_refl _,by simp,hb⟩
   ·obtain⟨h1,h2,h3⟩:=a8D r (i+1) y h
    refine⟨by omega,?_,h3⟩
    rw[show y.1-i=(y.1-(i+1))+1 by omega];exact h2
  ·obtain⟨h1,h2,h3⟩:=a8D r (i+1) y h
   refine⟨by omega,?_,h3⟩
   rw[show y.1-i=(y.1-(i+1))+1 by omega];exact h2
theorem c2B (h:(a4Y set 0 es)[k]? =some y):es[y.1]? =some y.2/\bit set y.2.1=true/\bit set y.2.2=true:=by
 have:=a8D es 0 y (List.mem_of_getElem? h)
 simpa using this.2
theorem c8k:(oE set es O f k).length<=es.length:=by
 have hin:∀(es:List (Nat×Nat)) i,(a4Y set i es).length<=es.length:=fun es=>by
  induction es with
  |nil=>intro i;exact Nat.le_refl _
  |cons e r ih=>
   intro i
   unfold a4Y
   have:=ih (i+1)
   split
   ·simp only[List.length_cons];omega
   ·simp only[List.length_cons];omega
 unfold oE
 rw[List.length_map]
 exact Nat.le_trans (List.length_filter_le _ _) (Nat.le_trans (List.length_take_le' _ _) (hin es 0))
end
def Cyc (L:List (Nat×Nat)):Prop:=∃i e,L[i]? =some e/\lab (L.take i) e.1=lab (L.take i) e.2
theorem Cyc.not {L:List (Nat×Nat)} (h:Cyc L):¬Acy L L.length:=fun ha=>by
 obtain⟨i,e,h1,h2⟩:=h
 exact ha i e (List.getElem?_eq_some_iff.1 h1).1 h1 h2
theorem Cyc.app {L M:List (Nat×Nat)} (h:Cyc L):Cyc (L++M):=by
 obtain⟨i,e,h1,h2⟩:=h
 have hi:=(List.getElem?_eq_some_iff.1 h1).1
 exact⟨i,e,by rw[List.getElem?_append_left hi];exact h1,by rw[List.take_append_of_le_length (by omega)];exact h2⟩
theorem d5s {set:Nat} {es:List (Nat×Nat)} {W:List Int} {j k:Nat} (h:j<=k):∃M,wE set es W k=wE set es W j++M:=by
 unfold wE
 refine⟨((((a4Y set 0 es).take k).drop j).filter fun y=>decide (((y.1:Nat):Int)∈W)).map (·.2),?_⟩
 rw[<-List.map_append,<-List.filter_append]
 congr 2
 conv=>lhs;rw[<-List.take_append_drop j ((a4Y set 0 es).take k)]
 rw[List.take_take,Nat.min_eq_left h]
open Classical in
noncomputable def b8B (set:Nat) (es:List (Nat×Nat)) (W O:List Int):Int:=if Acy (wE set es W es.length) (wE set es W es.length).length then KK (oE set es O (lab (wE set es W es.length)) es.length) set (lab (wE set es W es.length))else 0
theorem a3F (set:Nat):∀(es:List (Nat×Nat)) i,(a4Y set i es).length<=es.length
 |[],_=>Nat.le_refl _
 |e::r,i=>by
  unfold a4Y
  have:=a3F set r (i+1)
  split
  ·simp only[List.length_cons];omega
  ·simp only[List.length_cons];omega
theorem d5t {set k:Nat} {es:List (Nat×Nat)} {W:List Int} (h:k=(a4Y set 0 es).length):wE set es W k=wE set es W es.length:=by
 unfold wE
 rw[List.take_of_length_le (by omega),List.take_of_length_le (a3F set es 0)]
theorem d5u {set k:Nat} {es:List (Nat×Nat)} {O:List Int} {f:Nat->Nat} (h:k=(a4Y set 0 es).length):oE set es O f k=oE set es O f es.length:=by
 unfold oE
 rw[List.take_of_length_le (by omega),List.take_of_length_le (a3F set es 0)]
def b3v (set:Nat) (f:Nat->Nat) (x:Nat):List Nat:=(List.range x).filter fun y=>bit set y&&decide (f y=y)&&decide (y≠f (lst set))
theorem c6H {set x:Nat} {f:Nat->Nat} (h1:bit set x=true) (h2:f x=x) (h3:x≠f (lst set)):b3v set f (x+1)=b3v set f x++[x]:=by
 unfold b3v;rw[List.range_succ,List.filter_append];simp[h1,h2,h3]
theorem b4D {set x:Nat} {f:Nat->Nat} (h:bit set x=false\/f x≠x\/x=f (lst set)):b3v set f (x+1)=b3v set f x:=by
 unfold b3v;rw[List.range_succ,List.filter_append]
 have:(bit set x&&decide (f x=x)&&decide (x≠f (lst set)))=false:=by
  rcases h with h|h|h
  ·simp[h]
  ·simp[h]
  ·rw[<-h];simp
 rw[show List.filter (fun y=>bit set y&&decide (f y=y)&&decide (y≠f (lst set))) [x]=[]from by rw[List.filter_cons_of_neg (by rw[this];simp)];rfl,List.append_nil]
theorem c6I {set x:Nat} {f:Nat->Nat}:x∉b3v set f x:=fun h=>by
 unfold b3v at h
 have:=(List.mem_filter.1 h).1
 rw[List.mem_range]at this;omega
theorem c6J (set x:Nat) (f:Nat->Nat):(b3v set f x).length<=x:=by
 unfold b3v
 exact Nat.le_trans (List.length_filter_le _ _) (by simp)
section
variable {B H H':PH} {go g n i:Nat} {gs:List Nat} {l:List Slc}
structure Mk (B H:PH) (go:Nat) (gs:List Nat) (n:Nat):Prop where
 bh:PH.le B H
 bo:B go=none
 out:SO (a1B H go) H 202 1 (fun s:Slc=>[vs s]) (vs (rsl n go)) (gs.map (rsl n)++List.replicate (n-gs.length) (none,0,0))
 rows:MX B H gs n fun _ _=>(false,(none,0,0))
 off:go∉gs
 le:gs.length<=n
theorem d1Q {α:Type} {e:TypeId} {sz:Nat} {ce:α->List Value} {l:List α} (h:SO (a1B H g) H e sz ce (vs (rsl n g)) l):∃ob,H g=some ob/\∀X:PH,X g=some ob->SE X sz ce (vs (rsl n g)) l:=by
 obtain⟨h1,⟨h2,h3⟩|⟨g',cap,cur,h2,h3,h4,h5,h6,h7,h8⟩⟩:=h
 ·cases h2
 ·simp only[vs,rsl,Value.slice.injEq,Option.some.injEq,Addr.mk.injEq]at h2
  obtain⟨⟨rfl,-,-⟩,h9,h10⟩:=h2
  refine⟨_,h4,fun X hX=>⟨h1,some ⟨g,0,none⟩,cap,by simp only[vs,rsl];rw[<-h9,<-h10],h5,h6,.inr ⟨g,0,cur,e,_,rfl,hX,by rw[List.drop_zero];exact h8⟩⟩⟩
theorem b4E {α:Type} {e:TypeId} {sz:Nat} {ce:α->List Value} {l:List α} {X:PH} (h:SO X H e sz ce (vs (rsl n g)) l):SO (a1B H g) H e sz ce (vs (rsl n g)) l:=by
 obtain⟨h1,⟨h2,h3⟩|⟨g',cap,cur,h2,h3,h4,h5⟩⟩:=h
 ·cases h2
 ·simp only[vs,rsl,Value.slice.injEq,Option.some.injEq,Addr.mk.injEq]at h2
  obtain⟨⟨rfl,-,-⟩,h9,h10⟩:=h2
  exact⟨h1,.inr ⟨g,cap,cur,by simp only[vs,rsl];rw[<-h9,<-h10],a5B _ _,h4,h5⟩⟩
theorem Mk.row (h:Mk B H go gs n) (hg:H g=none) (hl:PH.le H H') (ho:SO H H' 116 2 lc (vs (rsl n g)) (List.replicate n (false,(none,0,0)))):MX B H' (gs++[g]) n (fun _ _=>(false,(none,0,0)))/\SO (a1B H' go) H' 202 1 (fun s:Slc=>[vs s]) (vs (rsl n go)) (gs.map (rsl n)++List.replicate (n-gs.length) (none,0,0))/\go≠g:=by
 have hne:go≠g:=fun e=>by
  obtain⟨ob,h1,_⟩:=d1Q h.out
  rw[e,hg]at h1;cases h1
 have hgs:g∉gs:=fun hm=>by
  obtain⟨i,hi⟩:=List.mem_iff_getElem?.1 hm
  obtain⟨ob,h1⟩:=h.rows.bound hi
  rw[hg]at h1;cases h1
 have hB:B g=none:=by
  cases e:B g with
  |none=>rfl
  |some o=>rw[h.bh _ _ e]at hg;cases hg
 refine⟨⟨?_,h.rows.n64,fun i b hb=> ?_⟩,a6n h.out fun ob ho=>hl _ _ ho,hne⟩
 ·rw[List.nodup_append]
  exact⟨h.rows.nd,by simp,fun a ha b hb=>by simp only[List.mem_singleton]at hb;subst hb;intro e;subst e;exact hgs ha⟩
 ·by_cases hi:i<gs.length
  ·rw[List.getElem?_append_left hi]at hb
   exact⟨(h.rows.row i b hb).1,a6n (h.rows.row i b hb).2 fun ob ho=>hl _ _ ho⟩
  ·rw[List.getElem?_append_right (by omega)]at hb
   have:i-gs.length=0:=by
    have:=(List.getElem?_eq_some_iff.1 hb).1
    simp at this;omega
   rw[this]at hb
   simp only[List.getElem?_cons_zero,Option.some.injEq]at hb
   subst hb
   refine⟨hB,?_⟩
   have e:b1M (fun _ _=>(false,(none,0,0))) n i=List.replicate n (false,(none,0,0)):=by
    unfold b1M
    rw[List.map_const'];simp
   rw[e]
   exact b4E ho
theorem Mk.set (h:Mk B H go gs n) (hM:MX B H' (gs++[g]) n (fun _ _=>(false,(none,0,0)))) (hgo:go≠g) {H2:PH} (hi:gs.length<n) (hb:PH.le B H') (hl:PH.le (a1B H' go) H2) (ho:SO (a1B H' go) H2 202 1 (fun s:Slc=>[vs s]) (vs (rsl n go)) ((gs.map (rsl n)++List.replicate (n-gs.length) (none,0,0)).set gs.length (rsl n g))):Mk B H2 go (gs++[g]) n:=by
 have hoff:go∉gs++[g]:=by simp only[List.mem_append,List.mem_singleton];rintro(e|e);exact h.off e;exact hgo e
 refine⟨fun k ob hk=>hl _ _ (by unfold a1B;rw[if_neg (fun e=>by subst e;rw[h.bo]at hk;cases hk)];exact hb _ _ hk),h.bo,?_,⟨hM.nd,hM.n64,fun i b hb=> ?_⟩,hoff,by simp;omega⟩
 ·have e:(gs.map (rsl n)++List.replicate (n-gs.length) (none,0,0)).set gs.length (rsl n g)=(gs++[g]).map (rsl n)++List.replicate (n-(gs++[g]).length) (none,0,0):=by
   obtain⟨k,hk⟩:∃k,n-gs.length=k+1:=⟨n-gs.length-1,by omega⟩
   rw[hk,List.length_append,List.length_singleton,show n-(gs.length+1)=k by omega,List.replicate_succ]
   simp[List.set_append]
  rw[e]at ho
  exact b4E ho
 ·have hne:b≠go:=fun e=>hoff (e ▸ List.mem_of_getElem? hb)
  exact⟨(hM.row i b hb).1,a6n (hM.row i b hb).2 fun ob ho=>hl _ _ (by unfold a1B;rw[if_neg hne];exact ho)⟩
theorem Mk.done (h:Mk B H go gs n) (hn:gs.length=n):∃X,PH.le B X/\SE X 1 (fun s:Slc=>[vs s]) (vs (rsl n go)) (gs.map (rsl n))/\Mt X X H gs n 0 (fun _ _=>(false,(none,0,0))) (fun _ _=>0):=by
 obtain⟨ob,h1,h2⟩:=d1Q h.out
 rw[hn,Nat.sub_self,List.replicate_zero,List.append_nil]at h2
 refine⟨B.put go ob,PH.le_put h.bo _,h2 _ (PH.put_self _ _ _),PH.le.refl _,fun k o hk=> ?_,⟨h.rows.nd,h.rows.n64,fun i b hb=>⟨?_,(h.rows.row i b hb).2⟩⟩,fun i j _ _ _ _=>d1E _⟩
 ·by_cases e:k=go
  ·subst e;rw[PH.put_self]at hk;rw[h1];exact hk
  ·rw[PH.put_ne _ _ e]at hk;exact h.bh _ _ hk
 ·rw[PH.put_ne _ _ (fun e=>h.off (by rw[<-e];exact List.mem_of_getElem? hb))]
  exact(h.rows.row i b hb).1
end
end Go.Proofs.YtmannekkmdockaaGreatDoor

/- Chapter 32: the reference's random spanning trees. -/
import Derived.Test.YtmannekkmdockaaGreatDoorGyH
import Derived.Test.YtmannekkmdockaaGreatDoorGsF
import Derived.Test.YtmannekkmdockaaGreatDoorRfI
import Derived.Test.YtmannekkmdockaaGreatDoorGdF
import Derived.Test.YtmannekkmdockaaGreatDoorGrT
import Derived.Test.YtmannekkmdockaaGreatDoorGuB
namespace Go.GS
open Go.RowKit Go.RX
theorem d3D {P:Program} {ρ:List Value} {a:SV} {p:Nat} (ha:D P ρ a=ii (p:Nat)) (h0:0<p) (h:p<9223372036854775807):D P ρ (.op2 .sub .i64 a (.k (.int .i64 1)))=ii ((p-1:Nat):Int):=by
 obtain⟨k,rfl⟩:∃k,p=k+1:=⟨p-1,by omega⟩
 exact d2I ha (by omega)
end Go.GS
/- Chapter 32: a step, by the program. -/
namespace Go.Proofs.YtmannekkmdockaaGreatDoor
open Go.Proofs.Tryz
open Go.RowKit Go.RX Go.GS
theorem d5w:FA prog 137 0 0:=⟨by kernel_rfl,of_decide_eq_true (by kernel_rfl),by kernel_rfl,by kernel_rfl,of_decide_eq_true (by kernel_rfl)⟩
section
variable {H H0:PH} {u v w wts:Value} {p q wl t l:List Int} {n c e m bw:Nat} {es:List (Nat×Nat)} {lo hi ds:Int} {set x:Nat}
def rwc (wts:Value) (lo hi ds:Int) (n:Nat) (w:Value) (c e:Nat):Array Value:= #[wts,ii lo,ii hi,ii ds,ii (n:Nat),w,uv c,ii (e:Nat)]
def RwO (wts:Value) (lo hi ds:Int) (n:Nat) (w:Value) (c e:Nat):Obj:= .cells (rwc wts lo hi ds n w c e) 137 (0,0)
theorem c5b {m:List Int} (hu:SI H u l) (hv:SI H v m):Asks prog 20 [u,v] H (.bool (decide (l=m))):=by
 refine a0b mixed c8c (by kernel_rfl) rfl ?_
 have hl:=hu.len
 have hm:=hv.len
 refine a0g el_plan rfl rfl hu rfl ?_
 refine a0g el_plan rfl rfl hv rfl ?_
 refine a0a ⟨_,rfl⟩ ?_
 refine a0a ⟨_,rfl⟩ ?_
 refine a0e (b:=decide (l.length≠m.length)) (by show Value.bool (((l.length:Nat):Int) !=((m.length:Nat):Int))=_;rw[bN];congr 1;apply decide_eq_decide.2;omega) (fun h=> ?_) (fun h=> ?_)
 ·replace h:=of_decide_eq_true h
  exact a0c rfl ⟨rfl,by rw[decide_eq_false (fun e=>h (by rw[e]))];rfl⟩
 ·replace h:=of_decide_eq_false h
  have hlm:l.length=m.length:=by omega
  refine a0g el_plan rfl rfl hu rfl ?_
  refine a0E (α:=Nat×Value) (fun⟨i,p⟩=>[p,ii (i:Nat)]) (fun⟨i,p⟩=>i<=l.length/\l.take i=m.take i) (fun⟨i,p⟩=>l.length-i) ((0,.bool false)) rfl (⟨Nat.zero_le _,rfl⟩) fun⟨i,p⟩ hQ=> ?_
  simp only[cA,nA]
  obtain⟨hi,hq⟩:=hQ
  refine a0a ⟨_,rfl⟩ ?_
  refine a0a ⟨_,rfl⟩ ?_
  refine a0e (b:=decide (((i:Nat):Int)<(l.length:Nat))) rfl (fun h2=> ?_) (fun h2=> ?_)
  ·replace h2:=of_decide_eq_true h2
   have hi':i<l.length:=by omega
   obtain⟨x,hx,hdx⟩:=a0u hi'
   refine a0i el_plan rfl rfl rfl rfl (fun _=>rfl) hu hx rfl (fun _=>rfl) fun _=> ?_
   simp only[cA,nA]
   obtain⟨y,hy,hdy⟩:=a0u (l:=m) (i:=i) (by omega)
   refine a0i el_plan rfl rfl rfl rfl (fun _=>rfl) hv hy rfl (fun _=>rfl) fun _=> ?_
   simp only[cA,nA]
   refine a0a ⟨_,rfl⟩ ?_
   refine a0a ⟨_,rfl⟩ ?_
   refine a0e (b:=decide (x≠y)) (bN x y) (fun hxy=> ?_) (fun hxy=> ?_)
   ·replace hxy:=of_decide_eq_true hxy
    exact a0c rfl ⟨rfl,by rw[decide_eq_false (fun e=>hxy (by subst e;rw[hx]at hy;exact Option.some.inj hy))];rfl⟩
   ·replace hxy:=of_decide_eq_false hxy
    have hxy:x=y:=Classical.byContradiction hxy
    exact⟨(i+1,p),by show l.length-(i+1)<l.length-i;omega,(a1l rfl (a0r rfl (by omega))),⟨⟨hi',by rw[take_snoc hx,take_snoc hy,hq,hxy]⟩,rfl⟩⟩
  ·replace h2:=of_decide_eq_false h2
   rw[List.take_of_length_le (by omega),List.take_of_length_le (by omega)]at hq
   exact a0c rfl ⟨rfl,by rw[decide_eq_true hq];rfl⟩
end
end Go.Proofs.YtmannekkmdockaaGreatDoor
/- Chapter 30: the number of spanning trees with some edges, and without some. -/
namespace Go.RX
open Go.RowKit
theorem b2j {P:Program} {T e:TypeId} {sz:Nat} {ag:Bool} {α:Type} {ce:α->List Value} {ve:α->Value} (E:El P T e sz ag ce ve) {G:Value->PH->Prop} {nx:List (List Value->PH->Prop)} {ρ:List Value} {H:PH} {o:Oper} {x y:Operand} {id i:Nat} {args:List SV} {t:Tree} {pf:Bool} {kl kc:IntKind} {m:Nat} {z:α} (hz:a0L P e=ve z) (ho:o.op= .makeSlice T x y) (hx:a0f [x,y] [.int kl (m:Nat),.int kc (m:Nat)] x= .int kl (m:Nat)) (hy:a0f [x,y] [.int kl (m:Nat),.int kc (m:Nat)] y= .int kc (m:Nat)) (hm:m<=68719476736) (ha:args.map (D P ρ)=[.int kl (m:Nat),.int kc (m:Nat)])
  (n:∀g H',H g=none->PH.le H H'->(∀k,k≠g->H' k=H k)->SO H H' e sz ce (.slice (some ⟨g,0,none⟩) m m) (List.replicate m z)->den P G t nx (ρ++[.slice (some ⟨g,0,none⟩) m m]) H'):den P G (.eff pf id i o args t) nx ρ H:=by
 obtain⟨ti,zv,h1,h2,h3,h4,h5⟩:=E.inf
 refine a0l (b2Y ho hx hy E.und h1 h2 h3 (by have:=Nat.mul_le_mul h5 hm;omega) (by simp only[maxLen];omega)) ha ?_
 rintro v H' ⟨g,hg,rfl,rfl⟩
 refine⟨fun _=>PH.le_put hg _,n g _ hg (PH.le_put hg _) (fun k hk=>PH.put_ne _ _ hk) (b1w E hg (by simp) (by simp only[maxLen];omega) ?_)⟩
 have hzv:zv=ve z:=by
  rw[<-hz];unfold a0L;rw[h1];simp[h2]
 subst hzv
 have hpos:=E.pos
 have hcz:=E.cells z
 have hlz:=E.len z
 show(madeCells (ve z).cells (m*sz)).toList=_
 have hr:∀m,(List.replicate m z).flatMap ce=(List.range (m*sz)).map fun c=>(ce z)[c%sz]?.getD undef:=by
  intro m
  induction m with
  |zero=>simp
  |succ m ih=>
   rw[List.replicate_succ',List.flatMap_append,ih,Nat.add_mul,Nat.one_mul,List.range_add,List.map_append]
   congr 1
   simp only[List.flatMap_cons,List.flatMap_nil,List.append_nil]
   apply List.ext_getElem?
   intro c
   simp only[List.getElem?_map,List.getElem?_range]
   by_cases hc:c<sz
   ·rw[List.getElem?_range hc]
    simp only[Option.map_some]
    rw[Nat.add_comm,Nat.add_mul_mod_self_right,Nat.mod_eq_of_lt hc,List.getElem?_eq_getElem (by omega)];rfl
   ·rw[List.getElem?_eq_none (by omega),List.getElem?_eq_none (by simp;omega)];rfl
 rw[hr]
 apply List.ext_getElem?
 intro c
 simp only[madeCells,Array.toList_map,List.getElem?_map,Array.toList_range]
 by_cases hc:c<m*sz
 ·rw[List.getElem?_range hc]
  simp only[Option.map_some]
  congr 1
  have hm2:c%sz<sz:=Nat.mod_lt _ hpos
  rw[h4,<-hcz]
  have:c%sz<(ve z).cells.size:=by omega
  simp[this]
 ·rw[List.getElem?_eq_none (by simp;omega)];simp
end Go.RX
namespace Go.Proofs.YtmannekkmdockaaGreatDoor
open Go.Proofs.Tryz
open Go.RowKit Go.RX Go.GS
open Go.WD (BP a1L)
set_option maxRecDepth 100000
def wE (set:Nat) (es:List (Nat×Nat)) (W:List Int) (k:Nat):List (Nat×Nat):=(((a4C set 0 es).take k).filter fun y=>decide (((y.1:Nat):Int)∈W)).map (·.2)
def oE (set:Nat) (es:List (Nat×Nat)) (O:List Int) (f:Nat->Nat) (k:Nat):List (Nat×Nat):=(((a4C set 0 es).take k).filter fun y=> !decide (((y.1:Nat):Int)∈O)&& !decide (f y.2.1=f y.2.2)).map (·.2)
section
variable {set k:Nat} {es:List (Nat×Nat)} {W O:List Int} {f:Nat->Nat} {y:Nat×(Nat×Nat)}
theorem c1e (h:(a4C set 0 es)[k]? =some y) (hw:((y.1:Nat):Int)∈W):wE set es W (k+1)=wE set es W k++[y.2]:=by
 unfold wE;rw[take_snoc h,List.filter_append,List.map_append];simp[hw]
theorem d3E (h:(a4C set 0 es)[k]? =some y) (hw:((y.1:Nat):Int)∉W):wE set es W (k+1)=wE set es W k:=by
 unfold wE;rw[take_snoc h,List.filter_append,List.map_append];simp[hw]
theorem d3F (h:(a4C set 0 es)[k]? =some y) (hw:((y.1:Nat):Int)∉O) (hf:f y.2.1≠f y.2.2):oE set es O f (k+1)=oE set es O f k++[y.2]:=by
 unfold oE;rw[take_snoc h,List.filter_append,List.map_append];simp[hw,hf]
theorem d3G (h:(a4C set 0 es)[k]? =some y) (hw:((y.1:Nat):Int)∈O\/f y.2.1=f y.2.2):oE set es O f (k+1)=oE set es O f k:=by
 unfold oE;rw[take_snoc h,List.filter_append,List.map_append];rcases hw with hw|hw<;>simp[hw]
theorem a7U:∀(es:List (Nat×Nat)) (i:Nat) (y:Nat×(Nat×Nat)),y∈a4C set i es->i<=y.1/\es[y.1-i]? =some y.2/\bit set y.2.1=true/\bit set y.2.2=true
 |[],_,_,h=>by cases h
 |e::r,i,y,h=>by
  unfold a4C at h
  split at h
  ·rename_i hb
   rcases List.mem_cons.1 h with rfl|h
   ·simp only[Bool.and_eq_true]at hb
    exact⟨Nat.le_refl _,by simp,hb⟩
   ·obtain⟨h1,h2,h3⟩:=a7U r (i+1) y h
    refine⟨by omega,?_,h3⟩
    rw[show y.1-i=(y.1-(i+1))+1 by omega];exact h2
  ·obtain⟨h1,h2,h3⟩:=a7U r (i+1) y h
   refine⟨by omega,?_,h3⟩
   rw[show y.1-i=(y.1-(i+1))+1 by omega];exact h2
theorem c1f (h:(a4C set 0 es)[k]? =some y):es[y.1]? =some y.2/\bit set y.2.1=true/\bit set y.2.2=true:=by
 have:=a7U es 0 y (List.mem_of_getElem? h)
 simpa using this.2
theorem c6L:(oE set es O f k).length<=es.length:=by
 have hin:∀(es:List (Nat×Nat)) i,(a4C set i es).length<=es.length:=fun es=>by
  induction es with
  |nil=>intro i;exact Nat.le_refl _
  |cons e r ih=>
   intro i
   unfold a4C
   have:=ih (i+1)
   split
   ·simp only[List.length_cons];omega
   ·simp only[List.length_cons];omega
 unfold oE
 rw[List.length_map]
 exact Nat.le_trans (List.length_filter_le _ _) (Nat.le_trans (List.length_take_le' _ _) (hin es 0))
end
def Cyc (L:List (Nat×Nat)):Prop:=∃i e,L[i]? =some e/\lab (L.take i) e.1=lab (L.take i) e.2
theorem Cyc.not {L:List (Nat×Nat)} (h:Cyc L):¬Acy L L.length:=fun ha=>by
 obtain⟨i,e,h1,h2⟩:=h
 exact ha i e (List.getElem?_eq_some_iff.1 h1).1 h1 h2
theorem Cyc.app {L M:List (Nat×Nat)} (h:Cyc L):Cyc (L++M):=by
 obtain⟨i,e,h1,h2⟩:=h
 have hi:=(List.getElem?_eq_some_iff.1 h1).1
 exact⟨i,e,by rw[List.getElem?_append_left hi];exact h1,by rw[List.take_append_of_le_length (by omega)];exact h2⟩
theorem d3H {set:Nat} {es:List (Nat×Nat)} {W:List Int} {j k:Nat} (h:j<=k):∃M,wE set es W k=wE set es W j++M:=by
 unfold wE
 refine⟨((((a4C set 0 es).take k).drop j).filter fun y=>decide (((y.1:Nat):Int)∈W)).map (·.2),?_⟩
 rw[<-List.map_append,<-List.filter_append]
 congr 2
 conv=>lhs;rw[<-List.take_append_drop j ((a4C set 0 es).take k)]
 rw[List.take_take,Nat.min_eq_left h]
open Classical in
noncomputable def b2D (set:Nat) (es:List (Nat×Nat)) (W O:List Int):Int:=if Acy (wE set es W es.length) (wE set es W es.length).length then KK (oE set es O (lab (wE set es W es.length)) es.length) set (lab (wE set es W es.length))else 0
theorem a3r (set:Nat):∀(es:List (Nat×Nat)) i,(a4C set i es).length<=es.length
 |[],_=>Nat.le_refl _
 |e::r,i=>by
  unfold a4C
  have:=a3r set r (i+1)
  split
  ·simp only[List.length_cons];omega
  ·simp only[List.length_cons];omega
theorem d3I {set k:Nat} {es:List (Nat×Nat)} {W:List Int} (h:k=(a4C set 0 es).length):wE set es W k=wE set es W es.length:=by
 unfold wE
 rw[List.take_of_length_le (by omega),List.take_of_length_le (a3r set es 0)]
theorem d3J {set k:Nat} {es:List (Nat×Nat)} {O:List Int} {f:Nat->Nat} (h:k=(a4C set 0 es).length):oE set es O f k=oE set es O f es.length:=by
 unfold oE
 rw[List.take_of_length_le (by omega),List.take_of_length_le (a3r set es 0)]
def b2E (set:Nat) (f:Nat->Nat) (x:Nat):List Nat:=(List.range x).filter fun y=>bit set y&&decide (f y=y)&&decide (y≠f (lst set))
theorem c5c {set x:Nat} {f:Nat->Nat} (h1:bit set x=true) (h2:f x=x) (h3:x≠f (lst set)):b2E set f (x+1)=b2E set f x++[x]:=by
 unfold b2E;rw[List.range_succ,List.filter_append];simp[h1,h2,h3]
theorem b3K {set x:Nat} {f:Nat->Nat} (h:bit set x=false\/f x≠x\/x=f (lst set)):b2E set f (x+1)=b2E set f x:=by
 unfold b2E;rw[List.range_succ,List.filter_append]
 have:(bit set x&&decide (f x=x)&&decide (x≠f (lst set)))=false:=by
  rcases h with h|h|h
  ·simp[h]
  ·simp[h]
  ·rw[<-h];simp
 rw[show List.filter (fun y=>bit set y&&decide (f y=y)&&decide (y≠f (lst set))) [x]=[]from by rw[List.filter_cons_of_neg (by rw[this];simp)];rfl,List.append_nil]
theorem c5d {set x:Nat} {f:Nat->Nat}:x∉b2E set f x:=fun h=>by
 unfold b2E at h
 have:=(List.mem_filter.1 h).1
 rw[List.mem_range]at this;omega
theorem c5e (set x:Nat) (f:Nat->Nat):(b2E set f x).length<=x:=by
 unfold b2E
 exact Nat.le_trans (List.length_filter_le _ _) (by simp)
section
variable {B H H':PH} {go g n i:Nat} {gs:List Nat} {l:List Slc}
structure Mk (B H:PH) (go:Nat) (gs:List Nat) (n:Nat):Prop where
 bh:PH.le B H
 bo:B go=none
 out:SO (a1y H go) H 202 1 (fun s:Slc=>[vs s]) (vs (rsl n go)) (gs.map (rsl n)++List.replicate (n-gs.length) (none,0,0))
 rows:MX B H gs n fun _ _=>(false,(none,0,0))
 off:go∉gs
 le:gs.length<=n
theorem d0g {α:Type} {e:TypeId} {sz:Nat} {ce:α->List Value} {l:List α} (h:SO (a1y H g) H e sz ce (vs (rsl n g)) l):∃ob,H g=some ob/\∀X:PH,X g=some ob->SE X sz ce (vs (rsl n g)) l:=by
 obtain⟨h1,⟨h2,h3⟩|⟨g',cap,cur,h2,h3,h4,h5,h6,h7,h8⟩⟩:=h
 ·cases h2
 ·simp only[vs,rsl,Value.slice.injEq,Option.some.injEq,Addr.mk.injEq]at h2
  obtain⟨⟨rfl,-,-⟩,h9,h10⟩:=h2
  refine⟨_,h4,fun X hX=>⟨h1,some ⟨g,0,none⟩,cap,by simp only[vs,rsl];rw[<-h9,<-h10],h5,h6,.inr ⟨g,0,cur,e,_,rfl,hX,by rw[List.drop_zero];exact h8⟩⟩⟩
theorem b3L {α:Type} {e:TypeId} {sz:Nat} {ce:α->List Value} {l:List α} {X:PH} (h:SO X H e sz ce (vs (rsl n g)) l):SO (a1y H g) H e sz ce (vs (rsl n g)) l:=by
 obtain⟨h1,⟨h2,h3⟩|⟨g',cap,cur,h2,h3,h4,h5⟩⟩:=h
 ·cases h2
 ·simp only[vs,rsl,Value.slice.injEq,Option.some.injEq,Addr.mk.injEq]at h2
  obtain⟨⟨rfl,-,-⟩,h9,h10⟩:=h2
  exact⟨h1,.inr ⟨g,cap,cur,by simp only[vs,rsl];rw[<-h9,<-h10],a5g _ _,h4,h5⟩⟩
theorem Mk.row (h:Mk B H go gs n) (hg:H g=none) (hl:PH.le H H') (ho:SO H H' 116 2 lc (vs (rsl n g)) (List.replicate n (false,(none,0,0)))):MX B H' (gs++[g]) n (fun _ _=>(false,(none,0,0)))/\SO (a1y H' go) H' 202 1 (fun s:Slc=>[vs s]) (vs (rsl n go)) (gs.map (rsl n)++List.replicate (n-gs.length) (none,0,0))/\go≠g:=by
 have hne:go≠g:=fun e=>by
  obtain⟨ob,h1,_⟩:=d0g h.out
  rw[e,hg]at h1;cases h1
 have hgs:g∉gs:=fun hm=>by
  obtain⟨i,hi⟩:=List.mem_iff_getElem?.1 hm
  obtain⟨ob,h1⟩:=h.rows.bound hi
  rw[hg]at h1;cases h1
 have hB:B g=none:=by
  cases e:B g with
  |none=>rfl
  |some o=>rw[h.bh _ _ e]at hg;cases hg
 refine⟨⟨?_,h.rows.n64,fun i b hb=> ?_⟩,a5L h.out fun ob ho=>hl _ _ ho,hne⟩
 ·rw[List.nodup_append]
  exact⟨h.rows.nd,by simp,fun a ha b hb=>by simp only[List.mem_singleton]at hb;subst hb;intro e;subst e;exact hgs ha⟩
 ·by_cases hi:i<gs.length
  ·rw[List.getElem?_append_left hi]at hb
   exact⟨(h.rows.row i b hb).1,a5L (h.rows.row i b hb).2 fun ob ho=>hl _ _ ho⟩
  ·rw[List.getElem?_append_right (by omega)]at hb
   have:i-gs.length=0:=by
    have:=(List.getElem?_eq_some_iff.1 hb).1
    simp at this;omega
   rw[this]at hb
   simp only[List.getElem?_cons_zero,Option.some.injEq]at hb
   subst hb
   refine⟨hB,?_⟩
   have e:b0V (fun _ _=>(false,(none,0,0))) n i=List.replicate n (false,(none,0,0)):=by
    unfold b0V
    rw[List.map_const'];simp
   rw[e]
   exact b3L ho
theorem Mk.set (h:Mk B H go gs n) (hM:MX B H' (gs++[g]) n (fun _ _=>(false,(none,0,0)))) (hgo:go≠g) {H2:PH} (hi:gs.length<n) (hb:PH.le B H') (hl:PH.le (a1y H' go) H2) (ho:SO (a1y H' go) H2 202 1 (fun s:Slc=>[vs s]) (vs (rsl n go)) ((gs.map (rsl n)++List.replicate (n-gs.length) (none,0,0)).set gs.length (rsl n g))):Mk B H2 go (gs++[g]) n:=by
 have hoff:go∉gs++[g]:=by simp only[List.mem_append,List.mem_singleton];rintro(e|e);exact h.off e;exact hgo e
 refine⟨fun k ob hk=>hl _ _ (by unfold a1y;rw[if_neg (fun e=>by subst e;rw[h.bo]at hk;cases hk)];exact hb _ _ hk),h.bo,?_,⟨hM.nd,hM.n64,fun i b hb=> ?_⟩,hoff,by simp;omega⟩
 ·have e:(gs.map (rsl n)++List.replicate (n-gs.length) (none,0,0)).set gs.length (rsl n g)=(gs++[g]).map (rsl n)++List.replicate (n-(gs++[g]).length) (none,0,0):=by
   obtain⟨k,hk⟩:∃k,n-gs.length=k+1:=⟨n-gs.length-1,by omega⟩
   rw[hk,List.length_append,List.length_singleton,show n-(gs.length+1)=k by omega,List.replicate_succ]
   simp[List.set_append]
  rw[e]at ho
  exact b3L ho
 ·have hne:b≠go:=fun e=>hoff (e ▸ List.mem_of_getElem? hb)
  exact⟨(hM.row i b hb).1,a5L (hM.row i b hb).2 fun ob ho=>hl _ _ (by unfold a1y;rw[if_neg hne];exact ho)⟩
theorem Mk.done (h:Mk B H go gs n) (hn:gs.length=n):∃X,PH.le B X/\SE X 1 (fun s:Slc=>[vs s]) (vs (rsl n go)) (gs.map (rsl n))/\Mt X X H gs n 0 (fun _ _=>(false,(none,0,0))) (fun _ _=>0):=by
 obtain⟨ob,h1,h2⟩:=d0g h.out
 rw[hn,Nat.sub_self,List.replicate_zero,List.append_nil]at h2
 refine⟨B.put go ob,PH.le_put h.bo _,h2 _ (PH.put_self _ _ _),PH.le.refl _,fun k o hk=> ?_,⟨h.rows.nd,h.rows.n64,fun i b hb=>⟨?_,(h.rows.row i b hb).2⟩⟩,fun i j _ _ _ _=>c9T _⟩
 ·by_cases e:k=go
  ·subst e;rw[PH.put_self]at hk;rw[h1];exact hk
  ·rw[PH.put_ne _ _ e]at hk;exact h.bh _ _ hk
 ·rw[PH.put_ne _ _ (fun e=>h.off (by rw[<-e];exact List.mem_of_getElem? hb))]
  exact(h.rows.row i b hb).1
end
end Go.Proofs.YtmannekkmdockaaGreatDoor

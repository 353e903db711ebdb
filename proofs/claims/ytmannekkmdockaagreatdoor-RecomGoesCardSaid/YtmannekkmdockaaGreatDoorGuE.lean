/- Lemmas: chapter 32. -/
import Derived.Test.YtmannekkmdockaaGreatDoorGyK
open Classical renaming byContradiction->aP
open List renaming append_nil->dC,drop_zero->dH,ext_getElem?->cU,filter_append->cT,filter_cons_of_neg->fC,getD_eq_getElem?_getD->aB,getElem?_append_left->dB,getElem?_eq_getElem->aA,getElem?_eq_none->aW,getElem?_eq_some_iff->aC,getElem?_map->aO,getElem?_range->eA,length_append->aJ,length_cons->bA,length_filter_le->fM,length_map->aR,length_singleton->cJ,map_append->aX,mem_append->aV,mem_of_getElem?->aI,mem_singleton->aQ,nodup_nil->dO,range->bL,range_succ->gQ,replicate->bC,take_of_length_le->aK
open Nat renaming le_refl->aN,le_trans->aS,min_eq_left->cD,zero_le->bI
open Option renaming map_some->dK
open Option.some renaming injEq->aD
set_option maxRecDepth 100000
namespace Go.RX
open Go.RowKit
theorem PZ {P:Program} {T e:TypeId} {sz:Nat} {ag:Bool} {α:Type} {ce:α->List Value} {ve:α->Value} (E:El P T e sz ag ce ve) {G:Value->PH->Prop} {nx:List (List Value->PH->Prop)} {ρ:List Value} {H:PH} {o:Oper} {x y:Operand} {id i:Nat} {args:List SV} {t:Tree} {pf:Bool} {kl kc:IntKind} {m:Nat} {z:α} (hz:s7 P e=ve z) (ho:o.op= .makeSlice T x y) (hx:g9 [x,y] [.int kl (m:Nat),.int kc (m:Nat)] x= .int kl (m:Nat)) (hy:g9 [x,y] [.int kl (m:Nat),.int kc (m:Nat)] y= .int kc (m:Nat)) (hm:m<=68719476736) (ha:args.map (D P ρ)=[.int kl (m:Nat),.int kc (m:Nat)])
  (n:∀g H',H g=none->PH.le H H'->(∀k,k≠g->H' k=H k)->SO H H' e sz ce (.slice (some ⟨g,0,none⟩) m m) (bC m z)->den P G t nx (ρ++[.slice (some ⟨g,0,none⟩) m m]) H'):den P G (.eff pf id i o args t) nx ρ H:=by
 obtain⟨ti,zv,h1,h2,h3,h4,h5⟩:=E.inf;refine r4 (ry ho hx hy E.und h1 h2 h3 (by have:=Nat.mul_le_mul h5 hm;omega) (by simp only[maxLen];omega)) ha ?_;rintro v H' ⟨g,hg,rfl,rfl⟩;refine⟨fun _=>PH.le_put hg _,n g _ hg (PH.le_put hg _) (fun k hk=>PH.put_ne _ _ hk) (Yq E hg (by simp) (by simp only[maxLen];omega) ?_)⟩;have hzv:zv=ve z:=by
  rw[<-hz];unfold s7;rw[h1];simp[h2]
 subst hzv;have qW:=E.pos;have hcz:=E.cells z;have hlz:=E.len z;show(madeCells (ve z).cells (m*sz)).toList=_;have hr:∀m,(bC m z).flatMap ce=(bL (m*sz)).map fun c=>(ce z)[c%sz]?.getD undef:=by
  intro m;induction m with
  |zero=>simp
  |succ m ih=>
   rw[List.replicate_succ',List.flatMap_append,ih,Nat.add_mul,Nat.one_mul,List.range_add,aX];congr 1;simp only[List.flatMap_cons,List.flatMap_nil,dC];apply cU;intro c;simp only[aO,eA];by_cases hc:c<sz
   ·rw[eA hc];simp only[dK];rw[Nat.add_comm,Nat.add_mul_mod_self_right,Nat.mod_eq_of_lt hc,aA (by omega)];rfl
   ·rw[aW (by omega),aW (by simp;omega)];rfl
 rw[hr];apply cU;intro c;simp only[madeCells,Array.toList_map,aO,Array.toList_range];by_cases hc:c<m*sz
 ·rw[eA hc];simp only[dK];congr 1;have uM:c%sz<sz:=Nat.mod_lt _ qW;rw[h4,<-hcz];have:c%sz<(ve z).cells.size:=by omega
  simp[this]
 ·rw[aW (by simp;omega)];simp
end Go.RX
namespace Go.Proofs.Z
open Go.Proofs.Tryz
open Go.RowKit Go.RX Go.GS
open Go.WD (BP Bf)
def wE (set:Nat) (es:List (Nat×Nat)) (W:List Int) (k:Nat):List (Nat×Nat):=(((Bq set 0 es).take k).filter fun y=>decide (((y.1:Nat):Int)∈W)).map (·.2)
def oE (set:Nat) (es:List (Nat×Nat)) (O:List Int) (f:Nat->Nat) (k:Nat):List (Nat×Nat):=(((Bq set 0 es).take k).filter fun y=> !decide (((y.1:Nat):Int)∈O)&& !decide (f y.2.1=f y.2.2)).map (·.2)
section
variable {set k:Nat} {es:List (Nat×Nat)} {W O:List Int} {f:Nat->Nat} {y:Nat×(Nat×Nat)}
theorem AG (h:(Bq set 0 es)[k]? =some y) (hw:((y.1:Nat):Int)∈W):wE set es W (k+1)=wE set es W k++[y.2]:=by
 unfold wE;rw[take_snoc h,cT,aX];simp[hw]
theorem QA (h:(Bq set 0 es)[k]? =some y) (hw:((y.1:Nat):Int)∉W):wE set es W (k+1)=wE set es W k:=by
 unfold wE;rw[take_snoc h,cT,aX];simp[hw]
theorem d8e (h:(Bq set 0 es)[k]? =some y) (hw:((y.1:Nat):Int)∉O) (hf:f y.2.1≠f y.2.2):oE set es O f (k+1)=oE set es O f k++[y.2]:=by
 unfold oE;rw[take_snoc h,cT,aX];simp[hw,hf]
theorem QB (h:(Bq set 0 es)[k]? =some y) (hw:((y.1:Nat):Int)∈O\/f y.2.1=f y.2.2):oE set es O f (k+1)=oE set es O f k:=by
 unfold oE;rw[take_snoc h,cT,aX];rcases hw with hw|hw<;>simp[hw]
theorem AH:∀(es:List (Nat×Nat)) (i:Nat) (y:Nat×(Nat×Nat)),y∈Bq set i es->i<=y.1/\es[y.1-i]? =some y.2/\bit set y.2.1=true/\bit set y.2.2=true
 |[],_,_,h=>by cases h
 |e::r,i,y,h=>by
  unfold Bq at h;split at h
  ·rename_i hb;rcases List.mem_cons.1 h with rfl|h
   ·simp only[Bool.and_eq_true]at hb;exact⟨aN _,by simp,hb⟩
   ·obtain⟨h1,h2,h3⟩:=AH r (i+1) y h;refine⟨by omega,?_,h3⟩;rw[show y.1-i=(y.1-(i+1))+1 by omega];exact h2
  ·obtain⟨h1,h2,h3⟩:=AH r (i+1) y h;refine⟨by omega,?_,h3⟩;rw[show y.1-i=(y.1-(i+1))+1 by omega];exact h2
theorem QC (h:(Bq set 0 es)[k]? =some y):es[y.1]? =some y.2/\bit set y.2.1=true/\bit set y.2.2=true:=by
 have:=AH es 0 y (aI h);simpa using this.2
theorem QD:(oE set es O f k).length<=es.length:=by
 have pY:∀(es:List (Nat×Nat)) i,(Bq set i es).length<=es.length:=fun es=>by
  induction es with
  |nil=>intro i;exact aN _
  |cons e r ih=>
   intro i;unfold Bq;have:=ih (i+1);split
   ·simp only[bA];omega
   ·simp only[bA];omega
 unfold oE;rw[aR];exact aS (fM _ _) (aS (List.length_take_le' _ _) (pY es 0))
end
def Cyc (L:List (Nat×Nat)):Prop:=∃i e,L[i]? =some e/\lab (L.take i) e.1=lab (L.take i) e.2
theorem Cyc.not {L:List (Nat×Nat)} (h:Cyc L):¬Acy L L.length:=fun ha=>by
 obtain⟨i,e,h1,h2⟩:=h;exact ha i e (aC.1 h1).1 h1 h2
theorem Cyc.app {L M:List (Nat×Nat)} (h:Cyc L):Cyc (L++M):=by
 obtain⟨i,e,h1,h2⟩:=h;have hi:=(aC.1 h1).1;exact⟨i,e,by rw[dB hi];exact h1,by rw[List.take_append_of_le_length (by omega)];exact h2⟩
theorem d8g {set:Nat} {es:List (Nat×Nat)} {W:List Int} {j k:Nat} (h:j<=k):∃M,wE set es W k=wE set es W j++M:=by
 unfold wE;refine⟨((((Bq set 0 es).take k).drop j).filter fun y=>decide (((y.1:Nat):Int)∈W)).map (·.2),?_⟩;rw[<-aX,<-cT];congr 2
 conv=>lhs;rw[<-List.take_append_drop j ((Bq set 0 es).take k)]
 rw[List.take_take,cD h]
open Classical in
noncomputable def Kr (set:Nat) (es:List (Nat×Nat)) (W O:List Int):Int:=if Acy (wE set es W es.length) (wE set es W es.length).length then KK (oE set es O (lab (wE set es W es.length)) es.length) set (lab (wE set es W es.length))else 0
theorem Ti (set:Nat):∀(es:List (Nat×Nat)) i,(Bq set i es).length<=es.length
 |[],_=>aN _
 |e::r,i=>by
  unfold Bq;have:=Ti set r (i+1);split
  ·simp only[bA];omega
  ·simp only[bA];omega
theorem d8h {set k:Nat} {es:List (Nat×Nat)} {W:List Int} (h:k=(Bq set 0 es).length):wE set es W k=wE set es W es.length:=by
 unfold wE;rw[aK (by omega),aK (Ti set es 0)]
theorem d8i {set k:Nat} {es:List (Nat×Nat)} {O:List Int} {f:Nat->Nat} (h:k=(Bq set 0 es).length):oE set es O f k=oE set es O f es.length:=by
 unfold oE;rw[aK (by omega),aK (Ti set es 0)]
def Gi (set:Nat) (f:Nat->Nat) (x:Nat):List Nat:=(bL x).filter fun y=>bit set y&&decide (f y=y)&&decide (y≠f (lst set))
theorem c8H {set x:Nat} {f:Nat->Nat} (h1:bit set x=true) (h2:f x=x) (h3:x≠f (lst set)):Gi set f (x+1)=Gi set f x++[x]:=by
 unfold Gi;rw[gQ,cT];simp[h1,h2,h3]
theorem AI {set x:Nat} {f:Nat->Nat} (h:bit set x=false\/f x≠x\/x=f (lst set)):Gi set f (x+1)=Gi set f x:=by
 unfold Gi;rw[gQ,cT];have:(bit set x&&decide (f x=x)&&decide (x≠f (lst set)))=false:=by
  rcases h with h|h|h
  ·simp[h]
  ·simp[h]
  ·rw[<-h];simp
 rw[show List.filter (fun y=>bit set y&&decide (f y=y)&&decide (y≠f (lst set))) [x]=[]from by rw[fC (by rw[this];simp)];rfl,dC]
theorem c8I {set x:Nat} {f:Nat->Nat}:x∉Gi set f x:=fun h=>by
 unfold Gi at h;have:=(List.mem_filter.1 h).1;rw[List.mem_range]at this;omega
theorem c8J (set x:Nat) (f:Nat->Nat):(Gi set f x).length<=x:=by
 unfold Gi;exact aS (fM _ _) (by simp)
section
variable {B H H':PH} {go g n i:Nat} {gs:List Nat} {l:List Slc}
structure Mk (B H:PH) (go:Nat) (gs:List Nat) (n:Nat):Prop where
 bh:PH.le B H
 bo:B go=none
 out:SO (j1 H go) H 202 1 (fun s:Slc=>[vs s]) (vs (rsl n go)) (gs.map (rsl n)++bC (n-gs.length) (none,0,0))
 rows:MX B H gs n fun _ _=>(false,(none,0,0))
 off:go∉gs
 le:gs.length<=n
theorem AK {α:Type} {e:TypeId} {sz:Nat} {ce:α->List Value} {l:List α} (h:SO (j1 H g) H e sz ce (vs (rsl n g)) l):∃ob,H g=some ob/\∀X:PH,X g=some ob->SE X sz ce (vs (rsl n g)) l:=by
 obtain⟨h1,⟨h2,h3⟩|⟨g',cap,cur,h2,h3,h4,h5,h6,h7,h8⟩⟩:=h
 ·cases h2
 ·simp only[vs,rsl,Value.slice.injEq,aD,Addr.mk.injEq]at h2;obtain⟨⟨rfl,-,-⟩,h9,vL⟩:=h2;refine⟨_,h4,fun X hX=>⟨h1,some ⟨g,0,none⟩,cap,by simp only[vs,rsl];rw[<-h9,<-vL],h5,h6,.inr ⟨g,0,cur,e,_,rfl,hX,by rw[dH];exact h8⟩⟩⟩
theorem AL {α:Type} {e:TypeId} {sz:Nat} {ce:α->List Value} {l:List α} {X:PH} (h:SO X H e sz ce (vs (rsl n g)) l):SO (j1 H g) H e sz ce (vs (rsl n g)) l:=by
 obtain⟨h1,⟨h2,h3⟩|⟨g',cap,cur,h2,h3,h4,h5⟩⟩:=h
 ·cases h2
 ·simp only[vs,rsl,Value.slice.injEq,aD,Addr.mk.injEq]at h2;obtain⟨⟨rfl,-,-⟩,h9,vL⟩:=h2;exact⟨h1,.inr ⟨g,cap,cur,by simp only[vs,rsl];rw[<-h9,<-vL],ku _ _,h4,h5⟩⟩
theorem Mk.row (h:Mk B H go gs n) (hg:H g=none) (hl:PH.le H H') (ho:SO H H' 116 2 lc (vs (rsl n g)) (bC n (false,(none,0,0)))):MX B H' (gs++[g]) n (fun _ _=>(false,(none,0,0)))/\SO (j1 H' go) H' 202 1 (fun s:Slc=>[vs s]) (vs (rsl n go)) (gs.map (rsl n)++bC (n-gs.length) (none,0,0))/\go≠g:=by
 have pT:go≠g:=fun e=>by
  obtain⟨ob,h1,_⟩:=AK h.out;rw[e,hg]at h1;cases h1
 have hgs:g∉gs:=fun hm=>by
  obtain⟨i,hi⟩:=List.mem_iff_getElem?.1 hm;obtain⟨ob,h1⟩:=h.rows.bound hi;rw[hg]at h1;cases h1
 have hB:B g=none:=by
  cases e:B g with
  |none=>rfl
  |some o=>rw[h.bh _ _ e]at hg;cases hg
 refine⟨⟨?_,h.rows.n64,fun i b hb=> ?_⟩,Wa h.out fun ob ho=>hl _ _ ho,pT⟩
 ·rw[List.nodup_append];exact⟨h.rows.nd,by simp,fun a ha b hb=>by simp only[aQ]at hb;subst hb;intro e;subst e;exact hgs ha⟩
 ·by_cases hi:i<gs.length
  ·rw[dB hi]at hb;exact⟨(h.rows.row i b hb).1,Wa (h.rows.row i b hb).2 fun ob ho=>hl _ _ ho⟩
  ·rw[List.getElem?_append_right (by omega)]at hb;have:i-gs.length=0:=by
    have:=(aC.1 hb).1;simp at this;omega
   rw[this]at hb;simp only[List.getElem?_cons_zero,aD]at hb;subst hb;refine⟨hB,?_⟩;have e:Fe (fun _ _=>(false,(none,0,0))) n i=bC n (false,(none,0,0)):=by
    unfold Fe;rw[List.map_const'];simp
   rw[e];exact AL ho
theorem Mk.set (h:Mk B H go gs n) (hM:MX B H' (gs++[g]) n (fun _ _=>(false,(none,0,0)))) (hgo:go≠g) {H2:PH} (hi:gs.length<n) (hb:PH.le B H') (hl:PH.le (j1 H' go) H2) (ho:SO (j1 H' go) H2 202 1 (fun s:Slc=>[vs s]) (vs (rsl n go)) ((gs.map (rsl n)++bC (n-gs.length) (none,0,0)).set gs.length (rsl n g))):Mk B H2 go (gs++[g]) n:=by
 have a3l:go∉gs++[g]:=by simp only[aV,aQ];rintro(e|e);exact h.off e;exact hgo e
 refine⟨fun k ob hk=>hl _ _ (by unfold j1;rw[if_neg (fun e=>by subst e;rw[h.bo]at hk;cases hk)];exact hb _ _ hk),h.bo,?_,⟨hM.nd,hM.n64,fun i b hb=> ?_⟩,a3l,by simp;omega⟩
 ·have e:(gs.map (rsl n)++bC (n-gs.length) (none,0,0)).set gs.length (rsl n g)=(gs++[g]).map (rsl n)++bC (n-(gs++[g]).length) (none,0,0):=by
   obtain⟨k,hk⟩:∃k,n-gs.length=k+1:=⟨n-gs.length-1,by omega⟩;rw[hk,aJ,cJ,show n-(gs.length+1)=k by omega,List.replicate_succ];simp[List.set_append]
  rw[e]at ho;exact AL ho
 ·have pT:b≠go:=fun e=>a3l (e ▸ aI hb);exact⟨(hM.row i b hb).1,Wa (hM.row i b hb).2 fun ob ho=>hl _ _ (by unfold j1;rw[if_neg pT];exact ho)⟩
theorem Mk.done (h:Mk B H go gs n) (hn:gs.length=n):∃X,PH.le B X/\SE X 1 (fun s:Slc=>[vs s]) (vs (rsl n go)) (gs.map (rsl n))/\Mt X X H gs n 0 (fun _ _=>(false,(none,0,0))) (fun _ _=>0):=by
 obtain⟨ob,h1,h2⟩:=AK h.out;rw[hn,Nat.sub_self,List.replicate_zero,dC]at h2;refine⟨B.put go ob,PH.le_put h.bo _,h2 _ (PH.put_self _ _ _),PH.le.refl _,fun k o hk=> ?_,⟨h.rows.nd,h.rows.n64,fun i b hb=>⟨?_,(h.rows.row i b hb).2⟩⟩,fun i j _ _ _ _=>d4t _⟩
 ·by_cases e:k=go
  ·subst e;rw[PH.put_self]at hk;rw[h1];exact hk
  ·rw[PH.put_ne _ _ e]at hk;exact h.bh _ _ hk
 ·rw[PH.put_ne _ _ (fun e=>h.off (by rw[<-e];exact aI hb))];exact(h.rows.row i b hb).1
end
end Go.Proofs.Z
/- Chapter 30: the number of spanning trees with some edges, and without some. -/
namespace Go.Proofs.Z
open Go.Proofs.Tryz
open Go.RowKit Go.RX Go.GS
open Go.WD (BP Bf)
theorem QE:prog.underlying 192=some (.map 3 4):=by kernel_rfl
theorem QF:∀w,(zeroValue 4).run prog w= .ok (.bool false) w:=fun w=>by
 rfl
theorem mf:Au prog 121=true:=by kernel_rfl
theorem d8j:s7 prog 202=vs (none,0,0):=by kernel_rfl
theorem Wl {H:PH} {m:Value} {S:List Int} (h:MB H m S):m.cells= #[m]/\Dx m=true:=by
 obtain⟨_,⟨rfl,_⟩|⟨r,_,_,rfl,_⟩⟩:=h<;>exact⟨rfl,rfl⟩
theorem QG {m:Value} (hc:m.cells= #[m]) (h1:Dx m=true):m.cells.size=1/\s8 m.cells:=by
 rw[hc];exact⟨rfl,fun c hc=>by rw[aQ.1 (by simpa using hc:c∈[m])];exact h1⟩
theorem c3Y {H2:PH} {r pb:Nat} {T:TypeId} (hr:H2 r=none) (hp:(H2.put r (.map #[] 0)) pb=none):∃B H4,((H2.put r (.map #[] 0)).put pb (.cells #[.map none] T (0,0))).put pb (.cells ((#[.map none]:Array Value).setIfInBounds 0 (.map (some r))) T (0,0))=H4/\PH.le H2 B/\B pb=some (.cells #[.map (some r)] T (0,0))/\PH.le B H4/\MO B H4 (.map (some r)) (plL []):=by
 have qT:pb≠r:=fun e=>by subst e;rw[PH.put_self]at hp;cases hp
 have rE:H2 pb=none:=by rwa[PH.put_ne _ _ qT]at hp
 refine⟨H2.put pb (.cells #[.map (some r)] T (0,0)),_,rfl,PH.le_put rE _,PH.put_self _ _ _,fun k ob hk=> ?_,dO,r,[],0,rfl,?_,?_,rfl⟩
 ·by_cases e:k=pb
  ·subst e;rw[PH.put_self]at hk⊢;exact hk
  ·rw[PH.put_ne _ _ e]at hk;rw[PH.put_ne _ _ e,PH.put_ne _ _ e,PH.put_ne _ _ (fun e2=>by subst e2;rw[hr]at hk;cases hk)];exact hk
 ·rw[PH.put_ne _ _ (fun e=>qT e.symm)];exact hr
 ·rw[PH.put_ne _ _ (fun e=>qT e.symm),PH.put_ne _ _ (fun e=>qT e.symm),PH.put_self];rfl
theorem d4I {H5 H7:PH} {go qb n:Nat} {T:TypeId} (hn:n<=64) (hg:H5 go=none) (hl:PH.le H5 H7) (hk:∀k,k≠go->H7 k=H5 k) (ho:SO H5 H7 202 1 (fun s:Slc=>[vs s]) (vs (rsl n go)) (bC n (none,0,0))) (hq:H7 qb=none):
  ∃B1 H8,(H7.put qb (.cells #[.slice none 0 0] T (0,0))).put qb (.cells ((#[.slice none 0 0]:Array Value).setIfInBounds 0 (vs (rsl n go))) T (0,0))=H8/\PH.le H5 B1/\B1 qb=some (.cells #[vs (rsl n go)] T (0,0))/\Mk B1 H8 go [] n:=by
 have h0:=AL ho;have pT:qb≠go:=fun e=>by
  obtain⟨ob,h1,_⟩:=AK h0;rw[<-e,hq]at h1;cases h1
 have hq5:H5 qb=none:=by rw[<-hk qb pT];exact hq
 refine⟨H5.put qb (.cells #[vs (rsl n go)] T (0,0)),_,rfl,PH.le_put hq5 _,PH.put_self _ _ _,fun k ob hb=> ?_,by rw[PH.put_ne _ _ pT.symm];exact hg,Wa h0 fun ob sC=> ?_,⟨dO,hn,fun i g h=>by simp at h⟩,by simp,bI _⟩
 ·by_cases e:k=qb
  ·subst e;rw[PH.put_self]at hb⊢;exact hb
  ·rw[PH.put_ne _ _ e]at hb;rw[PH.put_ne _ _ e,PH.put_ne _ _ e];exact hl _ _ hb
 ·rw[PH.put_ne _ _ pT.symm,PH.put_ne _ _ pT.symm];exact sC
theorem Mk.len {B H:PH} {go n:Nat} {gs:List Nat} (h:Mk B H go gs n):(gs.map (rsl n)++bC (n-gs.length) (none,0,0)).length=n:=by
 have:=h.le;simp;omega
theorem d4J {E:List (Nat×Nat)} {e:Nat×Nat} {f:Nat->Nat} {V:List Nat} {i k:Nat} (hi:i<V.length) (hk:k<V.length) (pT:f e.1≠f e.2):
  addZ V (addZ V (addZ V (addZ V (Ni E f V) (f e.1) (f e.1) 1) (f e.2) (f e.2) 1) (f e.1) (f e.2) (-1)) (f e.2) (f e.1) (-1) i k=Ni (E++[e]) f V i k:=by
 have hF:∀(E:List (Nat×Nat)) (u v:Nat->Int),Fm (E++[e]) u v=Fm E u v+dl e u*dl e v:=fun E=>by
  induction E with
  |nil=>intro u v;simp[Fm]
  |cons x E ih=>intro u v;simp only[List.cons_append,Fm];rw[ih];omega
 unfold Ni;rw[hF,Pv,Pv];have e1:V[i]? =some (V.getD i 0):=by rw[aB,aA hi];rfl
 have e2:V[k]? =some (V.getD k 0):=by rw[aB,aA hk];rfl
 unfold addZ;rw[e1,e2];generalize V.getD i 0=x at*;generalize V.getD k 0=y at*;generalize f e.1=a at*;generalize f e.2=b at*;simp only[aD];by_cases x1:a=x<;>by_cases x2:b=x<;>by_cases y1:a=y<;>by_cases y2:b=y<;>(try (subst_vars;exact absurd rfl pT))<;>simp_all<;>(try split)<;>(try omega)
theorem AM {V:List Nat} {Z:Nat->Nat->Int} {a b:Nat} {z:Int} {m:Nat} (h:∀i k,(Z i k).natAbs<=m) (hz:z.natAbs<=1):∀i k,(addZ V Z a b z i k).natAbs<=m+1:=fun i k=>by
 unfold addZ;have:=h i k;split<;>omega
theorem mh {z:Int} {m:Nat} (h:z.natAbs<=m) (hm:m<=1000):Lm z:=by
 have:BP 1<=BP 10000:=Bf (by decide);rw[Go.WD.BP_succ,Go.WD.BP_zero]at this;unfold Lm;omega
theorem e0i {F:Nat->Nat->Int} (h:∀i j,(F i j).natAbs<=200):∀k i j,k<=64->SmZ (gk F k i j):=fun k i j hk=>by
 have h1:=c8g h k i j;obtain⟨K,hK⟩:∃K,K=65:=⟨_,rfl⟩;have h2:((k+1)*200)^(k+1)<=(2^14)^K:=aS (Nat.pow_le_pow_left (by omega) _) (Nat.pow_le_pow_right (by decide) (by omega));have h3:∀M,100<=M->((2:Nat)^14)^K<BP M:=fun M hM=>by
  unfold BP;rw[<-Nat.pow_mul];exact Nat.pow_lt_pow_right (by decide) (by omega)
 have h3:=h3 100 (aN _);unfold SmZ;omega
theorem d8k {s:Nat} {es:List (Nat×Nat)} {W O:List Int} (h:Cyc (wE s es W es.length)):Kr s es W O=0:=if_neg h.not
theorem d4K {s:Nat} {es:List (Nat×Nat)} {W O:List Int} {f:Nat->Nat} (h:Acy (wE s es W es.length) (wE s es W es.length).length) (hf:lab (wE s es W es.length)=f):Kr s es W O=Dg (oE s es O f es.length) f (Fp s f).reverse:=by
 subst hf;exact if_pos h
def fcn (pb qb:Nat):Value:= .func (.func 123) #[] #[.pointer (some ⟨pb,0,none⟩),.pointer (some ⟨qb,0,none⟩)]
def frt (vp:Value):Value:= .func (.func 121) #[vp] #[]
theorem c8K {H:PH} {n s:Nat} {w mw mo:Value} {es:List (Nat×Nat)} {W O:List Int} (hw:SG H w es) (hg:GV n es) (hs:s<M64) (h0:s≠0) (hT:Tb H) (hW:MB H mw W) (hO:MB H mo O):
  Con prog 71 [gv n w,GS.uv s,mw,mo] H fun u H'=>PH.le H H'/\Lw H' u (Kr s es W O):=by
 refine j3 mixed d3Q ?_;have hwc:=hw.cells;have hw1:=Af hw;have qK:=hg.n64;have pR:=hg.len;have a1t:∀e∈es,e.1<=64/\e.2<=64:=fun e he=>by have:=hg.ed e he;omega
 have hil:(Bq s 0 es).length<=200:=aS (Ti s es 0) pR;have hlx:∀{f:Nat->Nat} {x:Nat},Lb f->x<64->f x<64:=fun hf hx=>Nat.lt_of_le_of_lt (hf.le _) hx;refine d9 (Ap hw) ?_;refine d9 (QG (Wl hW).1 (Wl hW).2) ?_;refine d9 (QG (Wl hO).1 (Wl hO).2) ?_;refine i6 (LM (H:=H)) rfl ?_;rintro _ H1 ⟨l1,vp,rfl,o1⟩;refine nmI ?_;simp only[cA,nA];refine d9 ⟨rfl,fun c hc=>by have hc:c∈[vp]:=hc;rw[aQ]at hc;subst hc;exact Af o1.se⟩ ?_;refine i6 (OU (H:=H1) hwc hw1) rfl ?_;rintro _ _ ⟨bi,ji,tL,rfl,yE,rfl⟩;refine nmI ?_;simp only[cA,nA];refine Uy (X:=H1) (K:=Hi bi ji (ii n) w 37 s) (Ro:=H) (fun pre vals X'=>PH.le H X'/\vals=[s7 prog 116]/\∃q,PO H X' vp q/\Par q (lab (wE s es W pre.length))/\Acy (wE s es W pre.length) (wE s es W pre.length).length) (fun _ vals X'=>PH.le H X'/\∃u,vals=[u]/\Lw X' u 0/\Cyc (wE s es W es.length)) (LW hs tL a1t (by omega) hw hwc) LR yE rfl (fun _ _ _ h=>h.1) ⟨l1,rfl,bL 64,o1,Par.id,fun i e hi=>absurd hi (Nat.not_lt_zero _)⟩ ?_ ?_ ?_
 ·rintro pre xs vals X' ⟨y,hy,rfl⟩ _ ⟨m1,rfl,q,oq,hP,hA⟩;refine⟨rfl,?_⟩;simp only[cA,nA];refine d9 (el_edge.vcells y.2) ?_;have hya:=QC hy;have hyl:=a1t y.2 (aI hya.1);have hyb:=hg.mem hya.1;refine r7 (NB (k:=(y.1:Nat)) (vs:=[mw,ii (y.1:Nat)]) rfl rfl rfl QE Gh QF (hW.mono m1)) (j4 (Ov rfl (Wl hW).1) rfl) ?_;simp only[cA,nA];refine d4 ?_;refine i0 (b:=decide (((y.1:Nat):Int)∈W)) rfl (fun pY=> ?_) (fun pY=> ?_)
  ·skip
   have pY:=oDt pY;refine i6 (LO m1 oq hP (by omega) (by omega)) rfl ?_;rintro _ X2 ⟨rfl,m2,q2,oq2,hP2⟩;refine nmI ?_;simp only[cA,nA];refine d4 ?_;refine r9 (p:=(¬(lab (wE s es W pre.length) y.2.1≠lab (wE s es W pre.length) y.2.2))) (by show Value.bool (!decide _)=_;congr 1;rw[Bool.eq_iff_iff];simp) (fun h5=> ?_) fun h5=> ?_
   ·refine i6 (Rf 0 (by omega) (by omega)) rfl ?_;rintro u3 X3 ⟨m3,w3⟩;refine nmI ?_;simp only[cA,nA];refine d9 w3.rq ?_;have hcy:Cyc (wE s es W es.length):=by
     obtain⟨M,hM⟩:=d8g (set:=s) (es:=es) (W:=W) (j:=pre.length+1) (k:=es.length) (by have:=(aC.1 hy).1;have:=Ti s es 0;omega);rw[hM,AG hy pY];refine Cyc.app ⟨(wE s es W pre.length).length,y.2,by simp,?_⟩;rw[List.take_left];exact aP h5
    exact⟨m2.trans m3,u3,rfl,w3,hcy⟩
   ·have h5:=aP h5;exact⟨m2,rfl,q2,oq2,by rw[aJ,cJ,AG hy pY,Pi];exact hP2,by rw[aJ,cJ,AG hy pY,aJ];exact hA.snoc h5⟩
  ·skip
   have pY:=oDf pY;exact⟨m1,rfl,q,oq,by rw[aJ,cJ,QA hy pY];exact hP,by rw[aJ,cJ,QA hy pY];exact hA⟩
 ·rintro xs vals X' K' tV hd _ ⟨m1,rfl,q,oq,hP,hA⟩;simp only[cA,nA];rw[d8h tV]at hP hA;have hL:wE s es W es.length=wE s es W es.length:=rfl;generalize hf:lab (wE s es W es.length)=f at hP;have yH:=hP.lb;have m2:PH.le H (X'.or K'):=m1.trans (PH.le_or _ _);have oq2:=oq.mono (PH.le_or X' K');generalize X'.or K'=H2 at m2 oq2⊢;refine r4 (fi rfl) rfl ?_;rintro _ _ ⟨r,hr,rfl,rfl⟩;refine nmI ?_;simp only[cA,nA];refine Ee (cs:= #[.map none]) (by kernel_rfl) fun pb hpb=> ?_;simp only[cA,nA];refine Oq (u:= .map (some r)) Sv rfl rfl rfl (PH.put_self _ _ _) (by simp) rfl rfl rfl (fun h=>(nomatch h)) ?_;simp only[cA,nA];obtain⟨B,H4,hH4,hHB,hBp,hBH,hMO⟩:=c3Y (T:=140) hr hpb;rw[hH4];have sO:=oq2.se.mono hHB;have hTB:=hT.mono (m2.trans hHB);refine He (jj rfl) rfl ?_;simp only[cA,nA];refine d9 ⟨rfl,fun c hc=>by simp[D,Value.cells]at hc;subst hc;rfl⟩ ?_;refine Aq (Yu (hTB.mono hBH) hs) rfl ?_;simp only[cA,nA];refine r4 (Go.RZ.opn_callw (P:=prog) (ws:=[ii (lst s:Nat)]) (bs:= #[vp]) (caps:= #[]) (vs:=[frt vp,ii (lst s:Nat)]) rfl rfl rfl mf (Vq (sO.mono hBH) hP (Db hs (Nh hs h0)))) rfl ?_;rintro _ _ ⟨rfl,rfl⟩;refine⟨fun _=>PH.le.refl _,?_⟩;simp only[cA,nA];refine s9 (α:=Nat) (fun x=>[ii (x:Nat)]) (fun x=>fun H'=>x<=64/\PH.le B H'/\MO B H' (.map (some r)) (plL (Gi s f x))) (fun x=>64-x) (0) rfl (⟨bI _,hBH,hMO⟩) fun x H5 ⟨hx,b5,o5⟩=> ?_;simp only[cA,nA];refine d4 ?_;refine i0 (b:=decide (((x:Nat):Int)<64)) rfl (fun h=> ?_) (fun h=> ?_)
  ·replace h:=oDt h;refine d4 ?_;refine d9 ⟨_,_,rfl⟩ ?_;refine d9 (by show(0:Int)<=(x:Nat);omega) ?_;refine i0 (b:=bit s x) (Rm rfl hs rfl (by omega)) (fun hb=> ?_) (fun hb=> ?_)
   ·skip
    refine r4 (Go.RZ.opn_callw (P:=prog) (ws:=[ii (x:Nat)]) (bs:= #[vp]) (caps:= #[]) (vs:=[frt vp,ii (x:Nat)]) rfl rfl rfl mf (Vq (sO.mono b5) hP (by omega))) rfl ?_;rintro _ _ ⟨rfl,rfl⟩;refine nmI ?_;simp only[cA,nA];refine d4 ?_;refine r9 (p:=(f x=x)) (bEn _ _) (fun h6=> ?_) fun h6=> ?_
    ·refine d4 ?_;refine r9 (p:=(x≠f (lst s))) (by show Value.bool (((x:Nat):Int) !=((f (lst s):Nat):Int))=_;rw[bN];congr 1;apply decide_eq_decide.2;omega) (fun h7=> ?_) fun h7=> ?_
     ·refine w9 Sv rfl rfl (b5 _ _ hBp) rfl rfl ?_;simp only[cA,nA];refine w9 Sv rfl rfl (b5 _ _ hBp) rfl rfl ?_;simp only[cA,nA];refine r7 (jx (vs:=[.map (some r)]) rfl rfl Fq o5.mi) rfl ?_;simp only[cA,nA];rw[zp];refine r4 (yu (P:=prog) (k:=((x:Nat):Int)) (v:=(((Gi s f x).length:Nat):Int)) (vs:=[.map (some r),ii (x:Nat),ii ((Gi s f x).length:Nat)]) rfl rfl rfl rfl Fq Gh b5 o5) rfl ?_;rintro _ H6 ⟨rfl,b6,o6,-⟩;refine nmI ?_;simp only[cA,nA];exact⟨x+1,by omega,(z8 (i9 rfl (by omega))),⟨by omega,b6,by rw[c8H hb h6 h7,<-d4x c8I];exact o6⟩⟩
     ·exact⟨x+1,by omega,(z8 (i9 rfl (by omega))),⟨by omega,b5,by rw[AI (.inr (.inr (aP h7)))];exact o5⟩⟩
    ·exact⟨x+1,by omega,(z8 (i9 rfl (by omega))),⟨by omega,b5,by rw[AI (.inr (.inl h6))];exact o5⟩⟩
   ·skip
    exact⟨x+1,by omega,(z8 (i9 rfl (by omega))),⟨by omega,b5,by rw[AI (.inl (by simpa using hb))];exact o5⟩⟩
  ·replace h:=oDf h;obtain rfl:x=64:=by omega
   have hVl:=c8J s 64 f;have hVd:(Gi s f 64).Nodup:=NX s f;have hVe:Gi s f 64=Fp s f:=rfl;have hmi:=o5.mi;generalize hV:Gi s f 64=V at hVl hVd hVe hmi o5;generalize hn:V.length=m at hVl;refine w9 Sv rfl rfl (b5 _ _ hBp) rfl rfl ?_;simp only[cA,nA];refine r7 (jx (vs:=[.map (some r)]) rfl rfl Fq hmi) rfl ?_;simp only[cA,nA];rw[zp,hn];refine PZ Gt (z:=(none,0,0)) d8j rfl rfl rfl (by omega) rfl fun go H7 hg7 l7 k7 o7=> ?_;simp only[cA,nA];refine Ee (cs:= #[.slice none 0 0]) (by kernel_rfl) fun qb hqb=> ?_;simp only[cA,nA];refine Oq (u:=vs (rsl m go)) We rfl rfl rfl (PH.put_self _ _ _) (by simp) rfl rfl rfl (fun h=>(nomatch h)) ?_;simp only[cA,nA];obtain⟨B1,H8,hH8,hB5,hBq,hMk⟩:=d4I (T:=201) hVl hg7 l7 k7 o7 hqb;rw[show Value.slice (some ⟨go,0,none⟩) m m=vs (rsl m go)from rfl,hH8];have uP:=hB5 _ _ (b5 _ _ hBp);have zR:=hmi.mono hB5;refine w9 We rfl rfl (hMk.bh _ _ hBq) rfl rfl ?_;simp only[cA,nA];refine Om Gt rfl rfl hMk.out.se rfl ?_;simp only[cA,nA];rw[hMk.len];refine s9 (α:=Nat×List Nat) (fun⟨i,gs⟩=>[ii (i:Nat)]) (fun⟨i,gs⟩=>fun H'=>gs.length=i/\Mk B1 H' go gs m) (fun⟨i,gs⟩=>m-i) ((0,[])) rfl (⟨rfl,hMk⟩) fun⟨i,gs⟩ H9 ⟨hgi,k9⟩=> ?_;simp only[cA,nA];refine d4 (d4 ?_);refine i0 (b:=decide (((i:Nat):Int)<(m:Nat))) rfl (fun h=> ?_) (fun h=> ?_)
   ·replace h:=oDt h;subst hgi;refine w9 We rfl rfl (k9.bh _ _ hBq) rfl rfl ?_;simp only[cA,nA];refine w9 Sv rfl rfl (k9.bh _ _ uP) rfl rfl ?_;simp only[cA,nA];refine r7 (jx (vs:=[.map (some r)]) rfl rfl Fq (zR.mono k9.bh)) rfl ?_;simp only[cA,nA];rw[zp,hn];refine PZ el_long (z:=(false,(none,0,0))) e0c rfl rfl rfl (by omega) rfl fun g H10 a6e l10 k10 o10=> ?_;simp only[cA,nA];obtain⟨r1,r2,r3⟩:=k9.row a6e l10 o10;refine Dp Gt (a:=(rsl m g)) rfl rfl rfl rfl (fun _=>rfl) (fun _=>rfl) (Jb H10 go) r2 (show gs.length<(gs.map (rsl m)++bC (m-gs.length) (none,0,0)).length by rw[k9.len];omega) rfl (fun _=>rfl) rfl fun p u H11 l11 o11 _=> ?_;simp only[cA,nA];exact⟨(gs.length+1,gs++[g]),by show m-(gs.length+1)<m-gs.length;omega,(z8 (i9 rfl (by omega))),⟨by simp,k9.set r1 r3 (by omega) (k9.bh.trans l10) l11 o11⟩⟩
   ·replace h:=oDf h;have uL:gs.length=m:=by have:=k9.le;omega
    obtain⟨X0,x0,vG,hMt⟩:=k9.done uL;have hX0:PH.le H X0:=(m2.trans hHB).trans (b5.trans (hB5.trans x0));have a6f:=sO.mono (b5.trans (hB5.trans x0));refine He (La (vs:=[.pointer (some ⟨pb,0,none⟩),.pointer (some ⟨qb,0,none⟩)]) rfl rfl) rfl ?_;simp only[cA,nA];refine d9 ⟨rfl,fun c hc=>by simp[D,Value.cells]at hc;subst hc;rfl⟩ ?_;refine i6 (OU (H:=H9) hwc hw1) rfl ?_;rintro _ _ ⟨b2,j2,a6g,rfl,qE,rfl⟩;refine nmI ?_;simp only[cA,nA];refine Uy (X:=H9) (K:=Hi b2 j2 (ii n) w 37 s) (Ro:=H) (fun pre vals X'=>PH.le H X'/\vals=[]/\∃Xw M,Mt X0 Xw X' gs m 0 M (Ni (oE s es O f pre.length) f V)) (fun _ _ _=>False) (LW hs a6g a1t (by omega) hw hwc) LR qE rfl (fun _ _ _ h=>h.1) ⟨hX0.trans hMt.xh,rfl,X0,_,hMt.x0,hMt.xh,hMt.mx,hMt.vl⟩ ?_ ?_ ?_
    ·rintro pre xs vals X2 ⟨y,hy,rfl⟩ _ ⟨m1,rfl,Xw,M,ht⟩;refine⟨rfl,?_⟩;simp only[cA,nA];refine d9 (el_edge.vcells y.2) ?_;have hya:=QC hy;have hyb:=hg.mem hya.1;have wT:=a6f.mono (ht.x0.trans ht.xh);refine r4 (Go.RZ.opn_callw (P:=prog) (ws:=[ii (y.2.1:Nat)]) (bs:= #[vp]) (caps:= #[]) (vs:=[frt vp,ii (y.2.1:Nat)]) rfl rfl rfl mf (Vq wT hP (by omega))) rfl ?_;rintro _ _ ⟨rfl,rfl⟩;refine⟨fun _=>PH.le.refl _,?_⟩;simp only[cA,nA];refine r4 (Go.RZ.opn_callw (P:=prog) (ws:=[ii (y.2.2:Nat)]) (bs:= #[vp]) (caps:= #[]) (vs:=[frt vp,ii (y.2.2:Nat)]) rfl rfl rfl mf (Vq wT hP (by omega))) rfl ?_;rintro _ _ ⟨rfl,rfl⟩;refine⟨fun _=>PH.le.refl _,?_⟩;simp only[cA,nA];refine r7 (NB (k:=(y.1:Nat)) (vs:=[mo,ii (y.1:Nat)]) rfl rfl rfl QE Gh QF (hO.mono m1)) (j4 (Ov rfl (Wl hO).1) rfl) ?_;simp only[cA,nA];refine d4 ?_;refine i0 (b:=decide (((y.1:Nat):Int)∈O)) rfl (fun pY=> ?_) (fun pY=> ?_)
     ·skip
      exact⟨m1,rfl,Xw,M,by rw[aJ,cJ,QB hy (.inl (oDt pY))];exact ht⟩
     ·skip
      have pY:=oDf pY;refine d4 (d4 ?_);refine r9 (p:=(f y.2.1=f y.2.2)) (bEn _ _) (fun h6=> ?_) fun h6=> ?_
      ·exact⟨m1,rfl,Xw,M,by rw[aJ,cJ,QB hy (.inr h6)];exact ht⟩
      ·have uO:∀i k,(Ni (oE s es O f pre.length) f V i k).natAbs<=200:=fun i k=>aS (zk _ _ _ i k) (aS QD pR);have hz1:=AM (V:=V) (a:=f y.2.1) (b:=f y.2.1) (z:=1) uO (by decide);have yI:=AM (V:=V) (a:=f y.2.2) (b:=f y.2.2) (z:=1) hz1 (by decide);have hz3:=AM (V:=V) (a:=f y.2.1) (b:=f y.2.2) (z:= -1) yI (by decide);have hpX:=x0 _ _ uP;have hqX:=x0 _ _ hBq;have hmX:=zR.mono x0;refine r4 (Go.RZ.opn_callw (P:=prog) (ws:=[ii (f y.2.1:Nat),ii (f y.2.1:Nat),ii 1]) (bs:= #[]) (caps:= #[.pointer (some ⟨pb,0,none⟩),.pointer (some ⟨qb,0,none⟩)]) (vs:=[fcn pb qb,ii (f y.2.1:Nat),ii (f y.2.1:Nat),ii 1]) rfl rfl rfl kz (lj ht hpX hqX hmX vG uL hn hVd (by decide) fun i k=>mh (uO i k) (by decide))) rfl ?_;rintro _ Y1 ⟨W1,M1,e1,t1⟩;refine nmI ?_;simp only[cA,nA];refine r4 (Go.RZ.opn_callw (P:=prog) (ws:=[ii (f y.2.2:Nat),ii (f y.2.2:Nat),ii 1]) (bs:= #[]) (caps:= #[.pointer (some ⟨pb,0,none⟩),.pointer (some ⟨qb,0,none⟩)]) (vs:=[fcn pb qb,ii (f y.2.2:Nat),ii (f y.2.2:Nat),ii 1]) rfl rfl rfl kz (lj t1 hpX hqX hmX vG uL hn hVd (by decide) fun i k=>mh (hz1 i k) (by decide))) rfl ?_;rintro _ Y2 ⟨W2,M2,e2,t2⟩;refine nmI ?_;simp only[cA,nA];refine r4 (Go.RZ.opn_callw (P:=prog) (ws:=[ii (f y.2.1:Nat),ii (f y.2.2:Nat),ii (-1)]) (bs:= #[]) (caps:= #[.pointer (some ⟨pb,0,none⟩),.pointer (some ⟨qb,0,none⟩)]) (vs:=[fcn pb qb,ii (f y.2.1:Nat),ii (f y.2.2:Nat),ii (-1)]) rfl rfl rfl kz (lj t2 hpX hqX hmX vG uL hn hVd (by decide) fun i k=>mh (yI i k) (by decide))) rfl ?_;rintro _ Y3 ⟨W3,M3,e3,t3⟩;refine nmI ?_;simp only[cA,nA];refine r4 (Go.RZ.opn_callw (P:=prog) (ws:=[ii (f y.2.2:Nat),ii (f y.2.1:Nat),ii (-1)]) (bs:= #[]) (caps:= #[.pointer (some ⟨pb,0,none⟩),.pointer (some ⟨qb,0,none⟩)]) (vs:=[fcn pb qb,ii (f y.2.2:Nat),ii (f y.2.1:Nat),ii (-1)]) rfl rfl rfl kz (lj t3 hpX hqX hmX vG uL hn hVd (by decide) fun i k=>mh (hz3 i k) (by decide))) rfl ?_;rintro _ Y4 ⟨W4,M4,e4,t4⟩;refine nmI ?_;simp only[cA,nA];exact⟨hX0.trans (t4.x0.trans t4.xh),rfl,W4,M4,t4.x0,t4.xh,t4.mx,fun i k h1 h2 h3 h4=>by rw[aJ,cJ,d8e hy pY h6,<-d4J (by omega) (by omega) h6];exact t4.vl i k h1 h2 h3 h4⟩
    ·rintro xs vals X2 K2 tV hd _ ⟨m1,rfl,Xw,M,ht⟩;simp only[cA,nA];rw[d8i tV]at ht;have pP:=PH.le_or X2 K2;refine w9 We rfl rfl (pP _ _ ((ht.x0.trans ht.xh) _ _ (x0 _ _ hBq))) rfl rfl ?_;simp only[cA,nA];refine i6 (c8l (ht.xh.trans pP) (vG.mono ht.x0) (ht.mx.mono pP fun _ _ h=>h) uL ht.vl (e0i fun i k=>aS (zk _ _ _ i k) (aS QD pR)) (fun k hk h=>by rw[<-hn]at hk⊢;rw[zj];exact c3J _ _ hVd hk h)) rfl ?_;rintro u H12 ⟨X12,x1,x2,w12⟩;refine nmI ?_;simp only[cA,nA];obtain⟨x12,rfl⟩:=Sm w12;refine d9 (w12.mono x2).rq ?_;exact g8 rfl ⟨hX0.trans (ht.x0.trans (x1.trans x2)),by rw[d4K hA hf,<-hVe,<-zj,hn];exact w12.mono x2⟩
    ·exact fun _ _ _ _ _ _ _ h=>h.elim
 ·rintro pre vals X' K' _ hd _ ⟨m1,u,rfl,w0,hcy⟩;simp only[cA,nA];obtain⟨x0,rfl⟩:=Sm w0;exact g8 rfl ⟨m1.trans (PH.le_or _ _),by rw[d8k hcy];exact w0.mono (PH.le_or _ _)⟩
end Go.Proofs.Z
/- Chapter 30: counting and unranking, in plain terms. -/
namespace Go.Proofs.Z
open Go.Proofs.Tryz
open Go.RowKit Go.RX Go.GS
open Go.WD (BP Bf)
section
variable {s:Nat} {es:List (Nat×Nat)} {t S:List Int} {k:Nat} {y:Nat×(Nat×Nat)}
theorem AN (s:Nat):∀(es:List (Nat×Nat)) (i:Nat),(Bq s i es).map (·.2)=es.filter (inB s)
 |[],_=>rfl
 |e::r,i=>by
  unfold Bq;by_cases h:(bit s e.1&&bit s e.2)=true
  ·rw[if_pos h,List.filter_cons_of_pos (by unfold inB;exact h),List.map_cons,AN s r (i+1)]
  ·rw[if_neg h,fC (by unfold inB;exact h),AN s r (i+1)]
def opn (s:Nat) (es:List (Nat×Nat)) (k:Nat):List (Nat×Nat):=((Bq s 0 es).drop k).map (·.2)
theorem lab_mem {L:List (Nat×Nat)}:∀{e:Nat×Nat},e∈L->lab L e.1=lab L e.2:=by
 induction L using Hy with
 |nil=>intro e h;cases h
 |snoc L e0 ih=>
  intro e he;rw[Pi];rcases aV.1 he with he|he
  ·unfold Bc;rw[ih he]
  ·rw[aQ]at he;subst he;unfold Bc;by_cases h:lab L e.1<=lab L e.2
   ·rw[Nat.max_eq_right h,cD h,if_pos rfl];split
    ·rfl
    ·rfl
   ·rw[Nat.max_eq_left (by omega),Nat.min_eq_right (by omega),if_pos rfl];split
    ·rfl
    ·rfl
def ao (s:Nat) (es:List (Nat×Nat)) (t:List Int) (k:Nat):Int:=KK (opn s es k) s (lab (etl es t))
theorem mj (s:Nat) (es:List (Nat×Nat)):Kr s es [] []=ao s es [] 0:=by
 have hw:wE s es [] es.length=[]:=by
  unfold wE;rw[List.filter_eq_nil_iff.2 (fun x _=>by simp)];rfl
 have ha:Acy (wE s es [] es.length) (wE s es [] es.length).length:=by rw[hw];exact fun i e hi=>by cases hi
 unfold Kr ao;rw[if_pos ha,hw];have:oE s es [] (lab []) es.length=(opn s es 0).filter fun e=>lab [] e.1 !=lab [] e.2:=by
  unfold oE opn;rw[aK (Ti s es 0),dH,List.filter_map];congr 1
 rw[this,c3G];rfl
theorem QH (s:Nat) (es:List (Nat×Nat)):ao s es [] 0=trN es s [] 0:=by
 unfold ao trN opn inE;rw[dH,dH,AN]
theorem d4L (k:Nat):(opn s es k).length<=es.length:=by
 have:=Ti s es 0;unfold opn;simp only[aR,List.length_drop];omega
theorem c8L (hs:s<M64) (h0:s≠0) (hC:Cn es s):0<Kr s es [] []:=by
 rw[mj,QH];exact ko hs h0 _ 0 [] rfl (Beg.nil es s) (fun i h=>by cases h) (Spn.start hC)
end
end Go.Proofs.Z

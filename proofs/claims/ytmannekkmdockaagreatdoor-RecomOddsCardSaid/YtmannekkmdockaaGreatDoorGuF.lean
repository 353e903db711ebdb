/- Lemmas: chapter 32. -/
import Derived.Test.YtmannekkmdockaaGreatDoorGyK
open List renaming getElem?_range->fS,length_singleton->eV,range->eP,range_succ->iL,replicate->eK
set_option maxRecDepth 100000
namespace Go.RX
open RowKit
theorem RN {P:Program} {T e:TypeId} {sz:Nat} {ag:Bool} {α:Type} {ce:α->List Value} {ve:α->Value} (E:El P T e sz ag ce ve) {G:Value->PH->Prop} {nx:List (List Value->PH->Prop)} {ρ:List Value} {H:PH} {o:Oper} {x y:Operand} {id i:Nat} {args:List SV} {t:Tree} {pf:Bool} {kl kc:IntKind} {m:Nat} {z:α} (hz:r8 P e=ve z) (ho:o.op= .makeSlice T x y) (hx:g8 [x,y] [.int kl (m:Nat),.int kc (m:Nat)] x= .int kl (m:Nat)) (hy:g8 [x,y] [.int kl (m:Nat),.int kc (m:Nat)] y= .int kc (m:Nat)) (hm:m<=68719476736) (ha:args.map (D P ρ)=[.int kl (m:Nat),.int kc (m:Nat)])
  (n:∀g H',H g=none->Pl H H'->(∀k,k≠g->H' k=H k)->SO H H' e sz ce (.slice (some ⟨g,0,none⟩) m m) (eK m z)->den P G t nx (ρ++[.slice (some ⟨g,0,none⟩) m m]) H'):den P G (.eff pf id i o args t) nx ρ H:=by
 obtain⟨ti,zv,h1,h2,h3,h4,h5⟩:=E.inf;refine t7 (gg ho hx hy E.und h1 h2 h3 (by have:=bU h5 hm;omega) (by simp only[maxLen];omega)) ha ?_;rintro v H' ⟨g,hg,rfl,rfl⟩;refine⟨fun _=>PH.le_put hg _,n g _ hg (PH.le_put hg _) (fun k hk=>PH.put_ne _ _ hk) (Yy E hg aD (by simp only[maxLen];omega) ?_)⟩;have hzv:zv=ve z:=by
  rw[<-hz];unfold r8;rw[h1];simp[h2]
 subst hzv;have rO:=E.pos;have hcz:=E.cells z;have hlz:=E.len z;show(madeCells (ve z).cells (m*sz)).toList=_;have hr:∀m,(eK m z).flatMap ce=(eP (m*sz)).map fun c=>(ce z)[c%sz]?.getD undef:=by
  intro m;induction m with
  |zero=>simp
  |succ m ih=>
   rw[List.replicate_succ',List.flatMap_append,ih,cK,cM,List.range_add,aT];congr 1;simp only[eA,List.flatMap_nil,bQ];apply bG;intro c;simp only[bO,fS];by_cases hc:c<sz
   ·rw[fS hc];simp only[dF];rw[Nat.add_comm,eB,cP hc,aJ aA];rfl
   ·rw[aW aA,aW (by simp;omega)];rfl
 rw[hr];apply bG;intro c;simp only[madeCells,Array.toList_map,bO,Array.toList_range];by_cases hc:c<m*sz
 ·rw[fS hc];simp only[dF];congr 1;have hm2:c%sz<sz:=cO _ rO;rw[h4,<-hcz];have:c%sz<(ve z).cells.size:=aA;simp[this]
 ·rw[aW (by simp;omega)];simp
end Go.RX
namespace Go.Z
open Proofs.Tryz RowKit RX GS
open WD (BP Bt)
def wE (set:Nat) (es:List (Nat×Nat)) (W:List Int) (k:Nat):List (Nat×Nat):=(((Bj set 0 es).take k).filter fun y=>decide (((y.1:Nat):Int)∈W)).map (·.2)
def oE (set:Nat) (es:List (Nat×Nat)) (O:List Int) (f:Nat->Nat) (k:Nat):List (Nat×Nat):=(((Bj set 0 es).take k).filter fun y=> !decide (((y.1:Nat):Int)∈O)&& !decide (f y.2.1=f y.2.2)).map (·.2)
section
variable {set k:Nat} {es:List (Nat×Nat)} {W O:List Int} {f:Nat->Nat} {y:Nat×(Nat×Nat)}
theorem BK (h:(Bj set 0 es)[k]? =some y) (hw:((y.1:Nat):Int)∈W):wE set es W (k+1)=wE set es W k++[y.2]:=by
 unfold wE;rw[take_snoc h,dP,aT];simp[hw]
theorem RO (h:(Bj set 0 es)[k]? =some y) (hw:((y.1:Nat):Int)∉W):wE set es W (k+1)=wE set es W k:=by
 unfold wE;rw[take_snoc h,dP,aT];simp[hw]
theorem d8w (h:(Bj set 0 es)[k]? =some y) (hw:((y.1:Nat):Int)∉O) (hf:f y.2.1≠f y.2.2):oE set es O f (k+1)=oE set es O f k++[y.2]:=by
 unfold oE;rw[take_snoc h,dP,aT];simp[hw,hf]
theorem RP (h:(Bj set 0 es)[k]? =some y) (hw:((y.1:Nat):Int)∈O\/f y.2.1=f y.2.2):oE set es O f (k+1)=oE set es O f k:=by
 unfold oE;rw[take_snoc h,dP,aT];rcases hw with hw|hw<;>simp[hw]
theorem BL:∀(es:List (Nat×Nat)) (i:Nat) (y:Nat×(Nat×Nat)),y∈Bj set i es->i<=y.1/\es[y.1-i]? =some y.2/\bit set y.2.1=true/\bit set y.2.2=true
 |[],_,_,h=>by cases h
 |e::r,i,y,h=>by
  unfold Bj at h;split at h
  ·rename_i hb;rcases aP.1 h with rfl|h
   ·simp only[bA]at hb;exact⟨aS _,aD,hb⟩
   ·obtain⟨h1,h2,h3⟩:=BL r (i+1) y h;refine⟨aA,?_,h3⟩;rw[show y.1-i=(y.1-(i+1))+1 by omega];exact h2
  ·obtain⟨h1,h2,h3⟩:=BL r (i+1) y h;refine⟨aA,?_,h3⟩;rw[show y.1-i=(y.1-(i+1))+1 by omega];exact h2
theorem RQ (h:(Bj set 0 es)[k]? =some y):es[y.1]? =some y.2/\bit set y.2.1=true/\bit set y.2.2=true:=by
 have:=BL es 0 y (aG h);simpa using this.2
theorem RR:(oE set es O f k).length<=es.length:=by
 have qP:∀(es:List (Nat×Nat)) i,(Bj set i es).length<=es.length:=fun es=>by
  induction es with
  |nil=>intro i;exact aS _
  |cons e r ih=>
   intro i;unfold Bj;have:=ih (i+1);split
   ·simp only[aO];omega
   ·simp only[aO];omega
 unfold oE;rw[aX];exact bD (cC _ _) (bD (List.length_take_le' _ _) (qP es 0))
end
def Cyc (L:List (Nat×Nat)):Prop:=∃i e,L[i]? =some e/\lab (L.take i) e.1=lab (L.take i) e.2
theorem Cyc.not {L:List (Nat×Nat)} (h:Cyc L):¬Acy L L.length:=fun ha=>by
 obtain⟨i,e,h1,h2⟩:=h;exact ha i e (aH.1 h1).1 h1 h2
theorem Cyc.app {L M:List (Nat×Nat)} (h:Cyc L):Cyc (L++M):=by
 obtain⟨i,e,h1,h2⟩:=h;have hi:=(aH.1 h1).1;exact⟨i,e,by rw[bS hi];exact h1,by rw[List.take_append_of_le_length aA];exact h2⟩
theorem d8y {set:Nat} {es:List (Nat×Nat)} {W:List Int} {j k:Nat} (h:j<=k):∃M,wE set es W k=wE set es W j++M:=by
 unfold wE;refine⟨((((Bj set 0 es).take k).drop j).filter fun y=>decide (((y.1:Nat):Int)∈W)).map (·.2),?_⟩;rw[<-aT,<-dP];congr 2
 conv=>lhs;rw[<-List.take_append_drop j ((Bj set 0 es).take k)]
 rw[List.take_take,bY h]
open Classical in
noncomputable def La (set:Nat) (es:List (Nat×Nat)) (W O:List Int):Int:=if Acy (wE set es W es.length) (wE set es W es.length).length then KK (oE set es O (lab (wE set es W es.length)) es.length) set (lab (wE set es W es.length))else 0
theorem Td (set:Nat):∀(es:List (Nat×Nat)) i,(Bj set i es).length<=es.length
 |[],_=>aS _
 |e::r,i=>by
  unfold Bj;have:=Td set r (i+1);split
  ·simp only[aO];omega
  ·simp only[aO];omega
theorem d8z {set k:Nat} {es:List (Nat×Nat)} {W:List Int} (h:k=(Bj set 0 es).length):wE set es W k=wE set es W es.length:=by
 unfold wE;rw[aF aA,aF (Td set es 0)]
theorem d8A {set k:Nat} {es:List (Nat×Nat)} {O:List Int} {f:Nat->Nat} (h:k=(Bj set 0 es).length):oE set es O f k=oE set es O f es.length:=by
 unfold oE;rw[aF aA,aF (Td set es 0)]
def Ge (set:Nat) (f:Nat->Nat) (x:Nat):List Nat:=(eP x).filter fun y=>bit set y&&decide (f y=y)&&decide (y≠f (lst set))
theorem c9M {set x:Nat} {f:Nat->Nat} (h1:bit set x=true) (h2:f x=x) (h3:x≠f (lst set)):Ge set f (x+1)=Ge set f x++[x]:=by
 unfold Ge;rw[iL,dP];simp[h1,h2,h3]
theorem BM {set x:Nat} {f:Nat->Nat} (h:bit set x=false\/f x≠x\/x=f (lst set)):Ge set f (x+1)=Ge set f x:=by
 unfold Ge;rw[iL,dP];have:(bit set x&&decide (f x=x)&&decide (x≠f (lst set)))=false:=by
  rcases h with h|h|h
  ·simp[h]
  ·simp[h]
  ·rw[<-h];simp
 rw[show List.filter (fun y=>bit set y&&decide (f y=y)&&decide (y≠f (lst set))) [x]=[]from by rw[dD (by rw[this];simp)];rfl,bQ]
theorem c9N {set x:Nat} {f:Nat->Nat}:x∉Ge set f x:=fun h=>by
 unfold Ge at h;have:=(bT.1 h).1;rw[bR]at this;omega
theorem c9O (set x:Nat) (f:Nat->Nat):(Ge set f x).length<=x:=by
 unfold Ge;exact bD (cC _ _) aD
section
variable {B H H':PH} {go g n i:Nat} {gs:List Nat} {l:List Slc}
structure Mk (B H:PH) (go:Nat) (gs:List Nat) (n:Nat):Prop where
 bh:Pl B H
 bo:B go=none
 out:SO (j9 H go) H 202 1 (fun s:Slc=>[vs s]) (vs (rsl n go)) (gs.map (rsl n)++eK (n-gs.length) (none,0,0))
 rows:MX B H gs n fun _ _=>(false,(none,0,0))
 off:go∉gs
 le:gs.length<=n
theorem BN {α:Type} {e:TypeId} {sz:Nat} {ce:α->List Value} {l:List α} (h:SO (j9 H g) H e sz ce (vs (rsl n g)) l):∃ob,H g=some ob/\∀X:PH,X g=some ob->SE X sz ce (vs (rsl n g)) l:=by
 obtain⟨h1,⟨h2,h3⟩|⟨g',cap,cur,h2,h3,h4,h5,h6,h7,h8⟩⟩:=h
 ·cases h2
 ·simp only[vs,rsl,Value.slice.injEq,dM,Addr.mk.injEq]at h2;obtain⟨⟨rfl,-,-⟩,h9,vT⟩:=h2;refine⟨_,h4,fun X hX=>⟨h1,some ⟨g,0,none⟩,cap,by simp only[vs,rsl];rw[<-h9,<-vT],h5,h6,.inr ⟨g,0,cur,e,_,rfl,hX,by rw[cH];exact h8⟩⟩⟩
theorem BO {α:Type} {e:TypeId} {sz:Nat} {ce:α->List Value} {l:List α} {X:PH} (h:SO X H e sz ce (vs (rsl n g)) l):SO (j9 H g) H e sz ce (vs (rsl n g)) l:=by
 obtain⟨h1,⟨h2,h3⟩|⟨g',cap,cur,h2,h3,h4,h5⟩⟩:=h
 ·cases h2
 ·simp only[vs,rsl,Value.slice.injEq,dM,Addr.mk.injEq]at h2;obtain⟨⟨rfl,-,-⟩,h9,vT⟩:=h2;exact⟨h1,.inr ⟨g,cap,cur,by simp only[vs,rsl];rw[<-h9,<-vT],ns _ _,h4,h5⟩⟩
theorem Mk.row (h:Mk B H go gs n) (hg:H g=none) (hl:Pl H H') (ho:SO H H' 116 2 lc (vs (rsl n g)) (eK n (false,(none,0,0)))):MX B H' (gs++[g]) n (fun _ _=>(false,(none,0,0)))/\SO (j9 H' go) H' 202 1 (fun s:Slc=>[vs s]) (vs (rsl n go)) (gs.map (rsl n)++eK (n-gs.length) (none,0,0))/\go≠g:=by
 have qC:go≠g:=fun e=>by
  obtain⟨ob,h1,_⟩:=BN h.out;rw[e,hg]at h1;cases h1
 have hgs:g∉gs:=fun hm=>by
  obtain⟨i,hi⟩:=cN.1 hm;obtain⟨ob,h1⟩:=h.rows.bound hi;rw[hg]at h1;cases h1
 have hB:B g=none:=by
  cases e:B g with
  |none=>rfl
  |some o=>rw[h.bh _ _ e]at hg;cases hg
 refine⟨⟨?_,h.rows.n64,fun i b hb=> ?_⟩,Vy h.out fun ob ho=>hl _ _ ho,qC⟩
 ·rw[cQ];exact⟨h.rows.nd,aD,fun a ha b hb=>by simp only[aL]at hb;subst hb;intro e;subst e;exact hgs ha⟩
 ·by_cases hi:i<gs.length
  ·rw[bS hi]at hb;exact⟨(h.rows.row i b hb).1,Vy (h.rows.row i b hb).2 fun ob ho=>hl _ _ ho⟩
  ·rw[bV aA]at hb;have:i-gs.length=0:=by
    have:=(aH.1 hb).1;simp at this;omega
   rw[this]at hb;simp only[List.getElem?_cons_zero,dM]at hb;subst hb;refine⟨hB,?_⟩;have e:Et (fun _ _=>(false,(none,0,0))) n i=eK n (false,(none,0,0)):=by
    unfold Et;rw[List.map_const'];simp
   rw[e];exact BO ho
theorem Mk.set (h:Mk B H go gs n) (hM:MX B H' (gs++[g]) n (fun _ _=>(false,(none,0,0)))) (hgo:go≠g) {H2:PH} (hi:gs.length<n) (hb:Pl B H') (hl:Pl (j9 H' go) H2) (ho:SO (j9 H' go) H2 202 1 (fun s:Slc=>[vs s]) (vs (rsl n go)) ((gs.map (rsl n)++eK (n-gs.length) (none,0,0)).set gs.length (rsl n g))):Mk B H2 go (gs++[g]) n:=by
 have a0w:go∉gs++[g]:=by simp only[aQ,aL];rintro(e|e);exact h.off e;exact hgo e
 refine⟨fun k ob hk=>hl _ _ (by unfold j9;rw[if_neg (fun e=>by subst e;rw[h.bo]at hk;cases hk)];exact hb _ _ hk),h.bo,?_,⟨hM.nd,hM.n64,fun i b hb=> ?_⟩,a0w,by simp;omega⟩
 ·have e:(gs.map (rsl n)++eK (n-gs.length) (none,0,0)).set gs.length (rsl n g)=(gs++[g]).map (rsl n)++eK (n-(gs++[g]).length) (none,0,0):=by
   obtain⟨k,hk⟩:∃k,n-gs.length=k+1:=⟨n-gs.length-1,aA⟩;rw[hk,aM,eV,show n-(gs.length+1)=k by omega,List.replicate_succ];simp[List.set_append]
  rw[e]at ho;exact BO ho
 ·have qC:b≠go:=fun e=>a0w (e ▸ aG hb);exact⟨(hM.row i b hb).1,Vy (hM.row i b hb).2 fun ob ho=>hl _ _ (by unfold j9;rw[if_neg qC];exact ho)⟩
theorem Mk.done (h:Mk B H go gs n) (hn:gs.length=n):∃X,Pl B X/\SE X 1 (fun s:Slc=>[vs s]) (vs (rsl n go)) (gs.map (rsl n))/\Mt X X H gs n 0 (fun _ _=>(false,(none,0,0))) (fun _ _=>0):=by
 obtain⟨ob,h1,h2⟩:=BN h.out;rw[hn,Nat.sub_self,List.replicate_zero,bQ]at h2;refine⟨B.put go ob,PH.le_put h.bo _,h2 _ (PH.put_self _ _ _),Pl.refl _,fun k o hk=> ?_,⟨h.rows.nd,h.rows.n64,fun i b hb=>⟨?_,(h.rows.row i b hb).2⟩⟩,fun i j _ _ _ _=>d4Z _⟩
 ·by_cases e:k=go
  ·subst e;rw[PH.put_self]at hk;rw[h1];exact hk
  ·rw[PH.put_ne _ _ e]at hk;exact h.bh _ _ hk
 ·rw[PH.put_ne _ _ (fun e=>h.off (by rw[<-e];exact aG hb))];exact(h.rows.row i b hb).1
end
theorem RS:prog.underlying 192=some (.map 3 4):=aB
theorem RU:∀w,(zeroValue 4).run prog w= .ok (.bool false) w:=fun w=>by
 rfl
theorem oz:Da prog 121=true:=aB
theorem d8B:r8 prog 202=vs (none,0,0):=aB
theorem Wg {H:PH} {m:Value} {S:List Int} (h:MB H m S):m.cells= #[m]/\Dm m=true:=by
 obtain⟨_,⟨rfl,_⟩|⟨r,_,_,rfl,_⟩⟩:=h<;>exact⟨rfl,rfl⟩
theorem RV {m:Value} (hc:m.cells= #[m]) (h1:Dm m=true):m.cells.size=1/\o0 m.cells:=by
 rw[hc];exact⟨rfl,fun c hc=>by rw[aL.1 (by simpa using hc:c∈[m])];exact h1⟩
theorem c5k {H2:PH} {r pb:Nat} {T:TypeId} (hr:H2 r=none) (hp:(H2.put r (.map #[] 0)) pb=none):∃B H4,((H2.put r (.map #[] 0)).put pb (.cells #[.map none] T (0,0))).put pb (.cells ((#[.map none]:Array Value).setIfInBounds 0 (.map (some r))) T (0,0))=H4/\Pl H2 B/\B pb=some (.cells #[.map (some r)] T (0,0))/\Pl B H4/\MO B H4 (.map (some r)) (plL []):=by
 have qF:pb≠r:=fun e=>by subst e;rw[PH.put_self]at hp;cases hp
 have rT:H2 pb=none:=by rwa[PH.put_ne _ _ qF]at hp
 refine⟨H2.put pb (.cells #[.map (some r)] T (0,0)),_,rfl,PH.le_put rT _,PH.put_self _ _ _,fun k ob hk=> ?_,dG,r,[],0,rfl,?_,?_,rfl⟩
 ·by_cases e:k=pb
  ·subst e;rw[PH.put_self]at hk⊢;exact hk
  ·rw[PH.put_ne _ _ e]at hk;rw[PH.put_ne _ _ e,PH.put_ne _ _ e,PH.put_ne _ _ (fun e2=>by subst e2;rw[hr]at hk;cases hk)];exact hk
 ·rw[PH.put_ne _ _ (fun e=>qF e.symm)];exact hr
 ·rw[PH.put_ne _ _ (fun e=>qF e.symm),PH.put_ne _ _ (fun e=>qF e.symm),PH.put_self];rfl
theorem d5n {H5 H7:PH} {go qb n:Nat} {T:TypeId} (hn:n<=64) (hg:H5 go=none) (hl:Pl H5 H7) (hk:∀k,k≠go->H7 k=H5 k) (ho:SO H5 H7 202 1 (fun s:Slc=>[vs s]) (vs (rsl n go)) (eK n (none,0,0))) (hq:H7 qb=none):
  ∃B1 H8,(H7.put qb (.cells #[.slice none 0 0] T (0,0))).put qb (.cells ((#[.slice none 0 0]:Array Value).setIfInBounds 0 (vs (rsl n go))) T (0,0))=H8/\Pl H5 B1/\B1 qb=some (.cells #[vs (rsl n go)] T (0,0))/\Mk B1 H8 go [] n:=by
 have h0:=BO ho;have qC:qb≠go:=fun e=>by
  obtain⟨ob,h1,_⟩:=BN h0;rw[<-e,hq]at h1;cases h1
 have hq5:H5 qb=none:=by rw[<-hk qb qC];exact hq
 refine⟨H5.put qb (.cells #[vs (rsl n go)] T (0,0)),_,rfl,PH.le_put hq5 _,PH.put_self _ _ _,fun k ob hb=> ?_,by rw[PH.put_ne _ _ qC.symm];exact hg,Vy h0 fun ob sV=> ?_,⟨dG,hn,fun i g h=>by simp at h⟩,aD,bI _⟩
 ·by_cases e:k=qb
  ·subst e;rw[PH.put_self]at hb⊢;exact hb
  ·rw[PH.put_ne _ _ e]at hb;rw[PH.put_ne _ _ e,PH.put_ne _ _ e];exact hl _ _ hb
 ·rw[PH.put_ne _ _ qC.symm,PH.put_ne _ _ qC.symm];exact sV
theorem Mk.len {B H:PH} {go n:Nat} {gs:List Nat} (h:Mk B H go gs n):(gs.map (rsl n)++eK (n-gs.length) (none,0,0)).length=n:=by
 have:=h.le;simp;omega
theorem d5o {E:List (Nat×Nat)} {e:Nat×Nat} {f:Nat->Nat} {V:List Nat} {i k:Nat} (hi:i<V.length) (hk:k<V.length) (qC:f e.1≠f e.2):
  addZ V (addZ V (addZ V (addZ V (Nr E f V) (f e.1) (f e.1) 1) (f e.2) (f e.2) 1) (f e.1) (f e.2) (-1)) (f e.2) (f e.1) (-1) i k=Nr (E++[e]) f V i k:=by
 have hF:∀(E:List (Nat×Nat)) (u v:Nat->Int),Fm (E++[e]) u v=Fm E u v+dl e u*dl e v:=fun E=>by
  induction E with
  |nil=>intro u v;simp[Fm]
  |cons x E ih=>intro u v;simp only[cL,Fm];rw[ih];omega
 unfold Nr;rw[hF,Pz,Pz];have e1:V[i]? =some (V.getD i 0):=by rw[aK,aJ hi];rfl
 have e2:V[k]? =some (V.getD k 0):=by rw[aK,aJ hk];rfl
 unfold addZ;rw[e1,e2];generalize V.getD i 0=x at*;generalize V.getD k 0=y at*;generalize f e.1=a at*;generalize f e.2=b at*;simp only[dM];by_cases x1:a=x<;>by_cases x2:b=x<;>by_cases y1:a=y<;>by_cases y2:b=y<;>(try (subst_vars;exact absurd rfl qC))<;>simp_all<;>(try split)<;>(try omega)
theorem BQ {V:List Nat} {Z:Nat->Nat->Int} {a b:Nat} {z:Int} {m:Nat} (h:∀i k,(Z i k).natAbs<=m) (hz:z.natAbs<=1):∀i k,(addZ V Z a b z i k).natAbs<=m+1:=fun i k=>by
 unfold addZ;have:=h i k;split<;>omega
theorem pe {z:Int} {m:Nat} (h:z.natAbs<=m) (hm:m<=1000):Lm z:=by
 have:BP 1<=BP 10000:=Bt aC;rw[Go.WD.BP_succ,Go.WD.BP_zero]at this;unfold Lm;omega
theorem e0v {F:Nat->Nat->Int} (h:∀i j,(F i j).natAbs<=200):∀k i j,k<=64->SmZ (gk F k i j):=fun k i j hk=>by
 have h1:=c9s h k i j;obtain⟨K,hK⟩:∃K,K=65:=⟨_,rfl⟩;have h2:((k+1)*200)^(k+1)<=(2^14)^K:=bD (Nat.pow_le_pow_left aA _) (aR aC aA);have h3:∀M,100<=M->((2:Nat)^14)^K<BP M:=fun M hM=>by
  unfold BP;rw[<-Nat.pow_mul];exact dA aC aA
 have h3:=h3 100 (aS _);unfold SmZ;omega
theorem d8C {s:Nat} {es:List (Nat×Nat)} {W O:List Int} (h:Cyc (wE s es W es.length)):La s es W O=0:=if_neg h.not
theorem d5p {s:Nat} {es:List (Nat×Nat)} {W O:List Int} {f:Nat->Nat} (h:Acy (wE s es W es.length) (wE s es W es.length).length) (hf:lab (wE s es W es.length)=f):La s es W O=Dg (oE s es O f es.length) f (Ff s f).reverse:=by
 subst hf;exact if_pos h
def fcn (pb qb:Nat):Value:= .func (.func 123) #[] #[.pointer (some ⟨pb,0,none⟩),.pointer (some ⟨qb,0,none⟩)]
def frt (vp:Value):Value:= .func (.func 121) #[vp] #[]
theorem c9P {H:PH} {n s:Nat} {w mw mo:Value} {es:List (Nat×Nat)} {W O:List Int} (hw:SG H w es) (hg:GV n es) (hs:s<M64) (h0:s≠0) (hT:Tb H) (hW:MB H mw W) (hO:MB H mo O):
  Con prog 71 [gv n w,GS.uv s,mw,mo] H fun u H'=>Pl H H'/\Lw H' u (La s es W O):=by
 refine i9 mixed d4n ?_;have hwc:=hw.cells;have hw1:=u0 hw;have rM:=hg.n64;have qD:=hg.len;have a1v:∀e∈es,e.1<=64/\e.2<=64:=fun e he=>by have:=hg.ed e he;omega
 have xB:(Bj s 0 es).length<=200:=bD (Td s es 0) qD;have hlx:∀{f:Nat->Nat} {x:Nat},Lb f->x<64->f x<64:=fun hf hx=>aZ (hf.le _) hx;refine d4 (t8 hw) ?_;refine d4 (RV (Wg hW).1 (Wg hW).2) ?_;refine d4 (RV (Wg hO).1 (Wg hO).2) ?_;refine g9 (NE (H:=H)) rfl ?_;rintro _ H1 ⟨l1,vp,rfl,o1⟩;refine nmI ?_;simp only[cA,nA];refine d4 ⟨rfl,fun c hc=>by have hc:c∈[vp]:=hc;rw[aL]at hc;subst hc;exact u0 o1.se⟩ ?_;refine g9 (QN (H:=H1) hwc hw1) rfl ?_;rintro _ _ ⟨bi,ji,hbj,rfl,hd1,rfl⟩;refine nmI ?_;simp only[cA,nA];refine jx (X:=H1) (K:=Hk bi ji (ii n) w 37 s) (Ro:=H) (fun pre vals X'=>Pl H X'/\vals=[r8 prog 116]/\∃q,PO H X' vp q/\Par q (lab (wE s es W pre.length))/\Acy (wE s es W pre.length) (wE s es W pre.length).length) (fun _ vals X'=>Pl H X'/\∃u,vals=[u]/\Lw X' u 0/\Cyc (wE s es W es.length)) (NJ hs hbj a1v aA hw hwc) NI hd1 rfl (fun _ _ _ h=>h.1) ⟨l1,rfl,eP 64,o1,Par.id,fun i e hi=>absurd hi (Nat.not_lt_zero _)⟩ ?_ ?_ ?_
 ·rintro pre xs vals X' ⟨y,hy,rfl⟩ _ ⟨m1,rfl,q,oq,hP,hA⟩;refine⟨rfl,?_⟩;simp only[cA,nA];refine d4 (el_edge.vcells y.2) ?_;have hya:=RQ hy;have hyl:=a1v y.2 (aG hya.1);have hyb:=hg.mem hya.1;refine j7 (QF (k:=(y.1:Nat)) (vs:=[mw,ii (y.1:Nat)]) rfl rfl rfl RS Qf RU (hW.mono m1)) (i7 (Vg rfl (Wg hW).1) rfl) ?_;simp only[cA,nA];refine d9 ?_;refine g7 (b:=decide (((y.1:Nat):Int)∈W)) rfl (fun qP=> ?_) (fun qP=> ?_)
  ·skip
   have qP:=oDt qP;refine g9 (NF m1 oq hP aA aA) rfl ?_;rintro _ X2 ⟨rfl,m2,q2,oq2,hP2⟩;refine nmI ?_;simp only[cA,nA];refine d9 ?_;refine j8 (p:=(¬(lab (wE s es W pre.length) y.2.1≠lab (wE s es W pre.length) y.2.2))) (by show Value.bool (!decide _)=_;congr 1;rw[bC];simp) (fun h5=> ?_) fun h5=> ?_
   ·refine g9 (Us 0 aA aA) rfl ?_;rintro u3 X3 ⟨m3,w3⟩;refine nmI ?_;simp only[cA,nA];refine d4 w3.rq ?_;have hcy:Cyc (wE s es W es.length):=by
     obtain⟨M,hM⟩:=d8y (set:=s) (es:=es) (W:=W) (j:=pre.length+1) (k:=es.length) (by have:=(aH.1 hy).1;have:=Td s es 0;omega);rw[hM,BK hy qP];refine Cyc.app ⟨(wE s es W pre.length).length,y.2,aD,?_⟩;rw[List.take_left];exact bB h5
    exact⟨m2.trans m3,u3,rfl,w3,hcy⟩
   ·have h5:=bB h5;exact⟨m2,rfl,q2,oq2,by rw[aM,eV,BK hy qP,Sm];exact hP2,by rw[aM,eV,BK hy qP,aM];exact hA.snoc h5⟩
  ·skip
   have qP:=oDf qP;exact⟨m1,rfl,q,oq,by rw[aM,eV,RO hy qP];exact hP,by rw[aM,eV,RO hy qP];exact hA⟩
 ·rintro xs vals X' K' uX hd _ ⟨m1,rfl,q,oq,hP,hA⟩;simp only[cA,nA];rw[d8z uX]at hP hA;have hL:wE s es W es.length=wE s es W es.length:=rfl;generalize hf:lab (wE s es W es.length)=f at hP;have yW:=hP.lb;have m2:Pl H (X'.or K'):=m1.trans (PH.le_or _ _);have oq2:=oq.mono (PH.le_or X' K');generalize X'.or K'=H2 at m2 oq2⊢;refine t7 (uu rfl) rfl ?_;rintro _ _ ⟨r,hr,rfl,rfl⟩;refine nmI ?_;simp only[cA,nA];refine Gm (cs:= #[.map none]) aB fun pb hpb=> ?_;simp only[cA,nA];refine Zf (u:= .map (some r)) Tc rfl rfl rfl (PH.put_self _ _ _) aD rfl rfl rfl (fun h=>(nomatch h)) ?_;simp only[cA,nA];obtain⟨B,H4,hH4,hHB,hBp,hBH,hMO⟩:=c5k (T:=140) hr hpb;rw[hH4];have tH:=oq2.se.mono hHB;have hTB:=hT.mono (m2.trans hHB);refine Na (NK rfl) rfl ?_;simp only[cA,nA];refine d4 ⟨rfl,fun c hc=>by simp[D,Value.cells]at hc;subst hc;rfl⟩ ?_;refine s6 (kg (hTB.mono hBH) hs) rfl ?_;simp only[cA,nA];refine t7 (Go.RZ.opn_callw (P:=prog) (ws:=[ii (lst s:Nat)]) (bs:= #[vp]) (caps:= #[]) (vs:=[frt vp,ii (lst s:Nat)]) rfl rfl rfl oz (Vj (tH.mono hBH) hP (Bz hs (Qa hs h0)))) rfl ?_;rintro _ _ ⟨rfl,rfl⟩;refine⟨fun _=>Pl.refl _,?_⟩;simp only[cA,nA];refine s8 (α:=Nat) (fun x=>[ii (x:Nat)]) (fun x=>fun H'=>x<=64/\Pl B H'/\MO B H' (.map (some r)) (plL (Ge s f x))) (fun x=>64-x) (0) rfl (⟨bI _,hBH,hMO⟩) fun x H5 ⟨hx,b5,o5⟩=> ?_;simp only[cA,nA];refine d9 ?_;refine g7 (b:=decide (((x:Nat):Int)<64)) rfl (fun h=> ?_) (fun h=> ?_)
  ·replace h:=oDt h;refine d9 ?_;refine d4 ⟨_,_,rfl⟩ ?_;refine d4 (by show(0:Int)<=(x:Nat);omega) ?_;refine g7 (b:=bit s x) (Va rfl hs rfl aA) (fun hb=> ?_) (fun hb=> ?_)
   ·skip
    refine t7 (Go.RZ.opn_callw (P:=prog) (ws:=[ii (x:Nat)]) (bs:= #[vp]) (caps:= #[]) (vs:=[frt vp,ii (x:Nat)]) rfl rfl rfl oz (Vj (tH.mono b5) hP aA)) rfl ?_;rintro _ _ ⟨rfl,rfl⟩;refine nmI ?_;simp only[cA,nA];refine d9 ?_;refine j8 (p:=(f x=x)) (bEn _ _) (fun h6=> ?_) fun h6=> ?_
    ·refine d9 ?_;refine j8 (p:=(x≠f (lst s))) (by show Value.bool (((x:Nat):Int) !=((f (lst s):Nat):Int))=_;rw[bN];congr 1;apply decide_eq_decide.2;omega) (fun h7=> ?_) fun h7=> ?_
     ·refine Bn Tc rfl rfl (b5 _ _ hBp) rfl rfl ?_;simp only[cA,nA];refine Bn Tc rfl rfl (b5 _ _ hBp) rfl rfl ?_;simp only[cA,nA];refine j7 (nl (vs:=[.map (some r)]) rfl rfl Nv o5.mi) rfl ?_;simp only[cA,nA];rw[BE];refine t7 (QE (P:=prog) (k:=((x:Nat):Int)) (v:=(((Ge s f x).length:Nat):Int)) (vs:=[.map (some r),ii (x:Nat),ii ((Ge s f x).length:Nat)]) rfl rfl rfl rfl Nv Qf b5 o5) rfl ?_;rintro _ H6 ⟨rfl,b6,o6,-⟩;refine nmI ?_;simp only[cA,nA];exact⟨x+1,aA,(z8 (i6 rfl aA)),⟨aA,b6,by rw[c9M hb h6 h7,<-d5d c9N];exact o6⟩⟩
     ·exact⟨x+1,aA,(z8 (i6 rfl aA)),⟨aA,b5,by rw[BM (.inr (.inr (bB h7)))];exact o5⟩⟩
    ·exact⟨x+1,aA,(z8 (i6 rfl aA)),⟨aA,b5,by rw[BM (.inr (.inl h6))];exact o5⟩⟩
   ·skip
    exact⟨x+1,aA,(z8 (i6 rfl aA)),⟨aA,b5,by rw[BM (.inl (by simpa using hb))];exact o5⟩⟩
  ·replace h:=oDf h;obtain rfl:x=64:=aA;have hVl:=c9O s 64 f;have hVd:(Ge s f 64).Nodup:=PD s f;have hVe:Ge s f 64=Ff s f:=rfl;have hmi:=o5.mi;generalize hV:Ge s f 64=V at hVl hVd hVe hmi o5;generalize hn:V.length=m at hVl;refine Bn Tc rfl rfl (b5 _ _ hBp) rfl rfl ?_;simp only[cA,nA];refine j7 (nl (vs:=[.map (some r)]) rfl rfl Nv hmi) rfl ?_;simp only[cA,nA];rw[BE,hn];refine RN Gs (z:=(none,0,0)) d8B rfl rfl rfl aA rfl fun go H7 hg7 l7 k7 o7=> ?_;simp only[cA,nA];refine Gm (cs:= #[.slice none 0 0]) aB fun qb hqb=> ?_;simp only[cA,nA];refine Zf (u:=vs (rsl m go)) Wa rfl rfl rfl (PH.put_self _ _ _) aD rfl rfl rfl (fun h=>(nomatch h)) ?_;simp only[cA,nA];obtain⟨B1,H8,hH8,hB5,hBq,hMk⟩:=d5n (T:=201) hVl hg7 l7 k7 o7 hqb;rw[show Value.slice (some ⟨go,0,none⟩) m m=vs (rsl m go)from rfl,hH8];have vI:=hB5 _ _ (b5 _ _ hBp);have hm1:=hmi.mono hB5;refine Bn Wa rfl rfl (hMk.bh _ _ hBq) rfl rfl ?_;simp only[cA,nA];refine Ji Gs rfl rfl hMk.out.se rfl ?_;simp only[cA,nA];rw[hMk.len];refine s8 (α:=Nat×List Nat) (fun⟨i,gs⟩=>[ii (i:Nat)]) (fun⟨i,gs⟩=>fun H'=>gs.length=i/\Mk B1 H' go gs m) (fun⟨i,gs⟩=>m-i) ((0,[])) rfl (⟨rfl,hMk⟩) fun⟨i,gs⟩ H9 ⟨hgi,k9⟩=> ?_;simp only[cA,nA];refine d9 (d9 ?_);refine g7 (b:=decide (((i:Nat):Int)<(m:Nat))) rfl (fun h=> ?_) (fun h=> ?_)
   ·replace h:=oDt h;subst hgi;refine Bn Wa rfl rfl (k9.bh _ _ hBq) rfl rfl ?_;simp only[cA,nA];refine Bn Tc rfl rfl (k9.bh _ _ vI) rfl rfl ?_;simp only[cA,nA];refine j7 (nl (vs:=[.map (some r)]) rfl rfl Nv (hm1.mono k9.bh)) rfl ?_;simp only[cA,nA];rw[BE,hn];refine RN el_long (z:=(false,(none,0,0))) e0o rfl rfl rfl aA rfl fun g H10 a5t l10 k10 o10=> ?_;simp only[cA,nA];obtain⟨r1,r2,r3⟩:=k9.row a5t l10 o10;refine Dp Gs (a:=(rsl m g)) rfl rfl rfl rfl aE aE (Vk H10 go) r2 (show gs.length<(gs.map (rsl m)++eK (m-gs.length) (none,0,0)).length by rw[k9.len];omega) rfl aE rfl fun p u H11 l11 o11 _=> ?_;simp only[cA,nA];exact⟨(gs.length+1,gs++[g]),by show m-(gs.length+1)<m-gs.length;omega,(z8 (i6 rfl aA)),⟨aD,k9.set r1 r3 aA (k9.bh.trans l10) l11 o11⟩⟩
   ·replace h:=oDf h;have uU:gs.length=m:=by have:=k9.le;omega
    obtain⟨X0,x0,wT,hMt⟩:=k9.done uU;have hX0:Pl H X0:=(m2.trans hHB).trans (b5.trans (hB5.trans x0));have a5u:=tH.mono (b5.trans (hB5.trans x0));refine Na (Rm (vs:=[.pointer (some ⟨pb,0,none⟩),.pointer (some ⟨qb,0,none⟩)]) rfl rfl) rfl ?_;simp only[cA,nA];refine d4 ⟨rfl,fun c hc=>by simp[D,Value.cells]at hc;subst hc;rfl⟩ ?_;refine g9 (QN (H:=H9) hwc hw1) rfl ?_;rintro _ _ ⟨b2,j2,a5v,rfl,qL,rfl⟩;refine nmI ?_;simp only[cA,nA];refine jx (X:=H9) (K:=Hk b2 j2 (ii n) w 37 s) (Ro:=H) (fun pre vals X'=>Pl H X'/\vals=[]/\∃Xw M,Mt X0 Xw X' gs m 0 M (Nr (oE s es O f pre.length) f V)) (fun _ _ _=>False) (NJ hs a5v a1v aA hw hwc) NI qL rfl (fun _ _ _ h=>h.1) ⟨hX0.trans hMt.xh,rfl,X0,_,hMt.x0,hMt.xh,hMt.mx,hMt.vl⟩ ?_ ?_ ?_
    ·rintro pre xs vals X2 ⟨y,hy,rfl⟩ _ ⟨m1,rfl,Xw,M,ht⟩;refine⟨rfl,?_⟩;simp only[cA,nA];refine d4 (el_edge.vcells y.2) ?_;have hya:=RQ hy;have hyb:=hg.mem hya.1;have xC:=a5u.mono (ht.x0.trans ht.xh);refine t7 (Go.RZ.opn_callw (P:=prog) (ws:=[ii (y.2.1:Nat)]) (bs:= #[vp]) (caps:= #[]) (vs:=[frt vp,ii (y.2.1:Nat)]) rfl rfl rfl oz (Vj xC hP aA)) rfl ?_;rintro _ _ ⟨rfl,rfl⟩;refine⟨fun _=>Pl.refl _,?_⟩;simp only[cA,nA];refine t7 (Go.RZ.opn_callw (P:=prog) (ws:=[ii (y.2.2:Nat)]) (bs:= #[vp]) (caps:= #[]) (vs:=[frt vp,ii (y.2.2:Nat)]) rfl rfl rfl oz (Vj xC hP aA)) rfl ?_;rintro _ _ ⟨rfl,rfl⟩;refine⟨fun _=>Pl.refl _,?_⟩;simp only[cA,nA];refine j7 (QF (k:=(y.1:Nat)) (vs:=[mo,ii (y.1:Nat)]) rfl rfl rfl RS Qf RU (hO.mono m1)) (i7 (Vg rfl (Wg hO).1) rfl) ?_;simp only[cA,nA];refine d9 ?_;refine g7 (b:=decide (((y.1:Nat):Int)∈O)) rfl (fun qP=> ?_) (fun qP=> ?_)
     ·skip
      exact⟨m1,rfl,Xw,M,by rw[aM,eV,RP hy (.inl (oDt qP))];exact ht⟩
     ·skip
      have qP:=oDf qP;refine d9 (d9 ?_);refine j8 (p:=(f y.2.1=f y.2.2)) (bEn _ _) (fun h6=> ?_) fun h6=> ?_
      ·exact⟨m1,rfl,Xw,M,by rw[aM,eV,RP hy (.inr h6)];exact ht⟩
      ·have yD:∀i k,(Nr (oE s es O f pre.length) f V i k).natAbs<=200:=fun i k=>bD (BB _ _ _ i k) (bD RR qD);have yG:=BQ (V:=V) (a:=f y.2.1) (b:=f y.2.1) (z:=1) yD aC;have uI:=BQ (V:=V) (a:=f y.2.2) (b:=f y.2.2) (z:=1) yG aC;have hz3:=BQ (V:=V) (a:=f y.2.1) (b:=f y.2.2) (z:= -1) uI aC;have hpX:=x0 _ _ vI;have hqX:=x0 _ _ hBq;have hmX:=hm1.mono x0;refine t7 (Go.RZ.opn_callw (P:=prog) (ws:=[ii (f y.2.1:Nat),ii (f y.2.1:Nat),ii 1]) (bs:= #[]) (caps:= #[.pointer (some ⟨pb,0,none⟩),.pointer (some ⟨qb,0,none⟩)]) (vs:=[fcn pb qb,ii (f y.2.1:Nat),ii (f y.2.1:Nat),ii 1]) rfl rfl rfl nu (nw ht hpX hqX hmX wT uU hn hVd aC fun i k=>pe (yD i k) aC)) rfl ?_;rintro _ Y1 ⟨W1,M1,e1,t1⟩;refine nmI ?_;simp only[cA,nA];refine t7 (Go.RZ.opn_callw (P:=prog) (ws:=[ii (f y.2.2:Nat),ii (f y.2.2:Nat),ii 1]) (bs:= #[]) (caps:= #[.pointer (some ⟨pb,0,none⟩),.pointer (some ⟨qb,0,none⟩)]) (vs:=[fcn pb qb,ii (f y.2.2:Nat),ii (f y.2.2:Nat),ii 1]) rfl rfl rfl nu (nw t1 hpX hqX hmX wT uU hn hVd aC fun i k=>pe (yG i k) aC)) rfl ?_;rintro _ Y2 ⟨W2,M2,e2,t2⟩;refine nmI ?_;simp only[cA,nA];refine t7 (Go.RZ.opn_callw (P:=prog) (ws:=[ii (f y.2.1:Nat),ii (f y.2.2:Nat),ii (-1)]) (bs:= #[]) (caps:= #[.pointer (some ⟨pb,0,none⟩),.pointer (some ⟨qb,0,none⟩)]) (vs:=[fcn pb qb,ii (f y.2.1:Nat),ii (f y.2.2:Nat),ii (-1)]) rfl rfl rfl nu (nw t2 hpX hqX hmX wT uU hn hVd aC fun i k=>pe (uI i k) aC)) rfl ?_;rintro _ Y3 ⟨W3,M3,e3,t3⟩;refine nmI ?_;simp only[cA,nA];refine t7 (Go.RZ.opn_callw (P:=prog) (ws:=[ii (f y.2.2:Nat),ii (f y.2.1:Nat),ii (-1)]) (bs:= #[]) (caps:= #[.pointer (some ⟨pb,0,none⟩),.pointer (some ⟨qb,0,none⟩)]) (vs:=[fcn pb qb,ii (f y.2.2:Nat),ii (f y.2.1:Nat),ii (-1)]) rfl rfl rfl nu (nw t3 hpX hqX hmX wT uU hn hVd aC fun i k=>pe (hz3 i k) aC)) rfl ?_;rintro _ Y4 ⟨W4,M4,e4,t4⟩;refine nmI ?_;simp only[cA,nA];exact⟨hX0.trans (t4.x0.trans t4.xh),rfl,W4,M4,t4.x0,t4.xh,t4.mx,fun i k h1 h2 h3 h4=>by rw[aM,eV,d8w hy qP h6,<-d5o aA aA h6];exact t4.vl i k h1 h2 h3 h4⟩
    ·rintro xs vals X2 K2 uX hd _ ⟨m1,rfl,Xw,M,ht⟩;simp only[cA,nA];rw[d8A uX]at ht;have pY:=PH.le_or X2 K2;refine Bn Wa rfl rfl (pY _ _ ((ht.x0.trans ht.xh) _ _ (x0 _ _ hBq))) rfl rfl ?_;simp only[cA,nA];refine g9 (c9x (ht.xh.trans pY) (wT.mono ht.x0) (ht.mx.mono pY fun _ _ h=>h) uU ht.vl (e0v fun i k=>bD (BB _ _ _ i k) (bD RR qD)) (fun k hk h=>by rw[<-hn]at hk⊢;rw[BA];exact c4U _ _ hVd hk h)) rfl ?_;rintro u H12 ⟨X12,x1,x2,w12⟩;refine nmI ?_;simp only[cA,nA];obtain⟨x12,rfl⟩:=Sz w12;refine d4 (w12.mono x2).rq ?_;exact g6 rfl ⟨hX0.trans (ht.x0.trans (x1.trans x2)),by rw[d5p hA hf,<-hVe,<-BA,hn];exact w12.mono x2⟩
    ·exact fun _ _ _ _ _ _ _ h=>h.elim
 ·rintro pre vals X' K' _ hd _ ⟨m1,u,rfl,w0,hcy⟩;simp only[cA,nA];obtain⟨x0,rfl⟩:=Sz w0;exact g6 rfl ⟨m1.trans (PH.le_or _ _),by rw[d8C hcy];exact w0.mono (PH.le_or _ _)⟩
section
variable {s:Nat} {es:List (Nat×Nat)} {t S:List Int} {k:Nat} {y:Nat×(Nat×Nat)}
theorem BR (s:Nat):∀(es:List (Nat×Nat)) (i:Nat),(Bj s i es).map (·.2)=es.filter (inB s)
 |[],_=>rfl
 |e::r,i=>by
  unfold Bj;by_cases h:(bit s e.1&&bit s e.2)=true
  ·rw[if_pos h,dY (by unfold inB;exact h),aN,BR s r (i+1)]
  ·rw[if_neg h,dD (by unfold inB;exact h),BR s r (i+1)]
def opn (s:Nat) (es:List (Nat×Nat)) (k:Nat):List (Nat×Nat):=((Bj s 0 es).drop k).map (·.2)
def ao (s:Nat) (es:List (Nat×Nat)) (t:List Int) (k:Nat):Int:=KK (opn s es k) s (lab (etl es t))
theorem pg (s:Nat) (es:List (Nat×Nat)):La s es [] []=ao s es [] 0:=by
 have hw:wE s es [] es.length=[]:=by
  unfold wE;rw[List.filter_eq_nil_iff.2 (fun x _=>aD)];rfl
 have ha:Acy (wE s es [] es.length) (wE s es [] es.length).length:=by rw[hw];exact fun i e hi=>by cases hi
 unfold La ao;rw[if_pos ha,hw];have:oE s es [] (lab []) es.length=(opn s es 0).filter fun e=>lab [] e.1 !=lab [] e.2:=by
  unfold oE opn;rw[aF (Td s es 0),cH,List.filter_map];congr 1
 rw[this,c4H];rfl
theorem RY (s:Nat) (es:List (Nat×Nat)):ao s es [] 0=trN es s [] 0:=by
 unfold ao trN opn inE;rw[cH,cH,BR]
theorem d5q (k:Nat):(opn s es k).length<=es.length:=by
 have:=Td s es 0;unfold opn;simp only[aX,List.length_drop];omega
theorem c9Q (hs:s<M64) (h0:s≠0) (hC:Cn es s):0<La s es [] []:=by
 rw[pg,RY];exact ak hs h0 _ 0 [] rfl (Beg.nil es s) (fun i h=>by cases h) (Spn.start hC)
end
open Go.WD (BP Bt wd iw rs toI HM sgI)
section
variable {H K X B H':PH} {e:TypeId} {sz n r:Nat} {v m:Value} {xs:List Value} {E:Array MapEntry} {c:Nat} {ob:Obj} {z:Int} {S:List Int}
theorem SA (hr:H r=some (.map E c)) (h:Sl H sz v n xs):Sl (H.put r ob) sz v n xs:=by
 obtain⟨h1,a,c',h2,h3,h4,h5⟩:=h;refine⟨h1,a,c',h2,h3,h4,h5.imp id ?_⟩;rintro⟨b,o,cs,T,fz,g1,g2,g3⟩;exact⟨b,o,cs,T,fz,g1,by rw[PH.put_ne _ _ (fun e=>by subst e;rw[hr]at g2;cases g2)];exact g2,g3⟩
end
theorem c5m (z:Int):∃m e,told z= .tuple #[wd m,ii e]:=by
 unfold told;split
 ·exact⟨_,_,rfl⟩
 ·exact⟨_,_,rfl⟩
section
variable {H:PH} {n s:Nat} {w:Value} {es:List (Nat×Nat)}
theorem c9R (hw:SG H w es) (hg:GV n es) (h0:s≠0/\s<2^n) (hs:s<M64) (hT:Tb H):Con prog 27 [gv n w,GS.uv s] H fun u H'=>Pl H H'/\u=told (La s es [] []):=by
 refine i9 mixed d4o ?_;refine d4 (t8 hw) ?_;refine y9 (NH hw hg hs) rfl fun H1 l1=> ?_;rw[if_pos h0];refine d9 ?_;refine r9 rfl ?_;refine g9 (c9P (hw.mono l1) hg hs h0.1 (hT.mono l1) (MB.none _) (MB.none _)) rfl ?_;rintro v3 H2 ⟨l2,w3⟩;refine nmI ?_;refine g9 (jm w3) rfl ?_;rintro v4 H3 ⟨l3,hv4⟩;refine nmI ?_;obtain⟨m,e,hme⟩:=c5m (La s es [] []);rw[hme]at hv4;subst hv4;refine i8 (i8 ?_);refine d4 (QS m) ?_;exact g6 rfl ⟨(l1.trans l2).trans l3,hme.symm⟩
end
end Go.Z

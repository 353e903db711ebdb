/- Lemmas: chapter 32. -/
import Derived.Test.YtlmbepjdokomkaaGreatDoorGyK
open Array renaming replicate->eZ
open List renaming filter_append->fZ,length_filter_le->lO,length_singleton->fP,nodup_nil->fQ,range->eT,range_succ->iO,replicate->eS
set_option linter.all false
set_option maxRecDepth 100000
namespace Go.RX
open RowKit
def TW {P:Program} {T e:TypeId} {sz:Nat} {ag:Bool} {α:Type} {ce:α->List Value} {ve:α->Value} (E:El P T e sz ag ce ve) {G Xp:Value->PH->Prop} {nx:List (List Value->PH->Prop)} {ρ:List Value} {H:PH} {o:Oper} {x y:Operand} {id i:Nat} {args:List SV} {t:Tree} {pf:Bool} {kl kc:IntKind} {m:Nat} {z:α} (hz:j3 P e=ve z) (ho:o.op= .makeSlice T x y) (hx:e8 [x,y] [.int kl (m:Nat),.int kc (m:Nat)] x= .int kl (m:Nat)) (hy:e8 [x,y] [.int kl (m:Nat),.int kc (m:Nat)] y= .int kc (m:Nat)) (hm:m<=68719476736) (ha:args.map (D P ρ)=[.int kl (m:Nat),.int kc (m:Nat)])
  (n:∀g H',H g=none->Pl H H'->(∀k,k≠g->H' k=H k)->SO H H' e sz ce (.slice (some ⟨g,0,none⟩) m m) (eS m z)->den P G Xp t nx (ρ++[.slice (some ⟨g,0,none⟩) m m]) H'):den P G Xp (.eff pf id i o args t) nx ρ H:=by
 obtain⟨ti,zv,h1,h2,h3,h4,h5⟩:=E.inf;refine j4 (rk ho hx hy E.und h1 h2 h3 (by have:=eC h5 hm;omega) (by simp only[maxLen];omega)) ha ?_;rintro v H' ⟨g,hg,rfl,rfl⟩;refine⟨fun _=>PH.le_put hg _,n g _ hg (PH.le_put hg _) (fun k hk=>PH.put_ne _ _ hk) (Ye E hg aD (by simp only[maxLen];omega) ?_)⟩;have hzv:zv=ve z:=by
  rw[<-hz];unfold j3;rw[h1];simp[h2]
 subst hzv;have qF:=E.pos;have hcz:=E.cells z;have hlz:=E.len z;show(madeCells (ve z).cells (m*sz)).toList=_;have hr:∀m,(eS m z).flatMap ce=(eT (m*sz)).map fun c=>(ce z)[c%sz]?.getD undef:=by
  intro m;induction m with
  |zero=>simp
  |succ m ih=>
   rw[List.replicate_succ',List.flatMap_append,ih,cM,cL,List.range_add,bI];congr 1;simp only[List.flatMap_cons,List.flatMap_nil,dM];apply bG;intro c;simp only[aY,cC];by_cases hc:c<sz
   ·rw[cC hc];simp only[cJ];rw[Nat.add_comm,eK,eH hc,aG aA];rfl
   ·rw[aP aA,aP (by simp;omega)];rfl
 rw[hr];apply bG;intro c;simp only[madeCells,dO,aY,Array.toList_range];by_cases hc:c<m*sz
 ·rw[cC hc];simp only[cJ];congr 1;have zA:c%sz<sz:=cO _ qF;rw[h4,<-hcz];have:c%sz<(ve z).cells.size:=aA;simp[this]
 ·rw[aP (by simp;omega)];simp
end Go.RX
namespace Go.Z
open Proofs.Tryz RowKit RX GS
open WD (BP Hq)
def wE (set:Nat) (es:List (Nat×Nat)) (W:List Int) (k:Nat):List (Nat×Nat):=(((Ad set 0 es).take k).filter fun y=>decide (((y.1:Nat):Int)∈W)).map (·.2)
def oE (set:Nat) (es:List (Nat×Nat)) (O:List Int) (f:Nat->Nat) (k:Nat):List (Nat×Nat):=(((Ad set 0 es).take k).filter fun y=> !decide (((y.1:Nat):Int)∈O)&& !decide (f y.2.1=f y.2.2)).map (·.2)
section
variable {set k:Nat} {es:List (Nat×Nat)} {W O:List Int} {f:Nat->Nat} {y:Nat×(Nat×Nat)}
def BK (h:(Ad set 0 es)[k]? =some y) (hw:((y.1:Nat):Int)∈W):wE set es W (k+1)=wE set es W k++[y.2]:=by
 unfold wE;rw[take_snoc h,fZ,bI];simp[hw]
def TX (h:(Ad set 0 es)[k]? =some y) (hw:((y.1:Nat):Int)∉W):wE set es W (k+1)=wE set es W k:=by
 unfold wE;rw[take_snoc h,fZ,bI];simp[hw]
def d8V (h:(Ad set 0 es)[k]? =some y) (hw:((y.1:Nat):Int)∉O) (hf:f y.2.1≠f y.2.2):oE set es O f (k+1)=oE set es O f k++[y.2]:=by
 unfold oE;rw[take_snoc h,fZ,bI];simp[hw,hf]
def TY (h:(Ad set 0 es)[k]? =some y) (hw:((y.1:Nat):Int)∈O\/f y.2.1=f y.2.2):oE set es O f (k+1)=oE set es O f k:=by
 unfold oE;rw[take_snoc h,fZ,bI];rcases hw with hw|hw<;>simp[hw]
def BM:∀(es:List (Nat×Nat)) (i:Nat) (y:Nat×(Nat×Nat)),y∈Ad set i es->i<=y.1/\es[y.1-i]? =some y.2/\bit set y.2.1=true/\bit set y.2.2=true
 |[],_,_,h=>by cases h
 |e::r,i,y,h=>by
  unfold Ad at h;split at h
  ·rename_i hb;rcases aX.1 h with rfl|h
   ·simp only[aT]at hb;exact⟨aS _,aD,hb⟩
   ·obtain⟨h1,h2,h3⟩:=BM r (i+1) y h;refine⟨aA,?_,h3⟩;rw[show y.1-i=(y.1-(i+1))+1 by omega];exact h2
  ·obtain⟨h1,h2,h3⟩:=BM r (i+1) y h;refine⟨aA,?_,h3⟩;rw[show y.1-i=(y.1-(i+1))+1 by omega];exact h2
def TZ (h:(Ad set 0 es)[k]? =some y):es[y.1]? =some y.2/\bit set y.2.1=true/\bit set y.2.2=true:=by
 have:=BM es 0 y (aJ h);simpa using this.2
def UA:(oE set es O f k).length<=es.length:=by
 have pT:∀(es:List (Nat×Nat)) i,(Ad set i es).length<=es.length:=fun es=>by
  induction es with
  |nil=>intro i;exact aS _
  |cons e r ih=>
   intro i;unfold Ad;have:=ih (i+1);split
   ·simp only[aO];omega
   ·simp only[aO];omega
 unfold oE;rw[aW];exact bM (lO _ _) (bM (List.length_take_le' _ _) (pT es 0))
end
def Cyc (L:List (Nat×Nat)):Prop:=∃i e,L[i]? =some e/\lab (L.take i) e.1=lab (L.take i) e.2
def Cyc.not {L:List (Nat×Nat)} (h:Cyc L):¬Acy L L.length:=fun ha=>by
 obtain⟨i,e,h1,h2⟩:=h;exact ha i e (aH.1 h1).1 h1 h2
def Cyc.app {L M:List (Nat×Nat)} (h:Cyc L):Cyc (L++M):=by
 obtain⟨i,e,h1,h2⟩:=h;have hi:=(aH.1 h1).1;exact⟨i,e,by rw[aQ hi];exact h1,by rw[cG aA];exact h2⟩
def d8X {set:Nat} {es:List (Nat×Nat)} {W:List Int} {j k:Nat} (h:j<=k):∃M,wE set es W k=wE set es W j++M:=by
 unfold wE;refine⟨((((Ad set 0 es).take k).drop j).filter fun y=>decide (((y.1:Nat):Int)∈W)).map (·.2),?_⟩;rw[<-bI,<-fZ];congr 2
 conv=>lhs;rw[<-dK j ((Ad set 0 es).take k)]
 rw[List.take_take,cH h]
open Classical in
noncomputable def Ls (set:Nat) (es:List (Nat×Nat)) (W O:List Int):Int:=if Acy (wE set es W es.length) (wE set es W es.length).length then KK (oE set es O (lab (wE set es W es.length)) es.length) set (lab (wE set es W es.length))else 0
def Wa (set:Nat):∀(es:List (Nat×Nat)) i,(Ad set i es).length<=es.length
 |[],_=>aS _
 |e::r,i=>by
  unfold Ad;have:=Wa set r (i+1);split
  ·simp only[aO];omega
  ·simp only[aO];omega
def d8Y {set k:Nat} {es:List (Nat×Nat)} {W:List Int} (h:k=(Ad set 0 es).length):wE set es W k=wE set es W es.length:=by
 unfold wE;rw[aI aA,aI (Wa set es 0)]
def d8Z {set k:Nat} {es:List (Nat×Nat)} {O:List Int} {f:Nat->Nat} (h:k=(Ad set 0 es).length):oE set es O f k=oE set es O f es.length:=by
 unfold oE;rw[aI aA,aI (Wa set es 0)]
def Ec (set:Nat) (f:Nat->Nat) (x:Nat):List Nat:=(eT x).filter fun y=>bit set y&&decide (f y=y)&&decide (y≠f (lst set))
def c8X {set x:Nat} {f:Nat->Nat} (h1:bit set x=true) (h2:f x=x) (h3:x≠f (lst set)):Ec set f (x+1)=Ec set f x++[x]:=by
 unfold Ec;rw[iO,fZ];simp[h1,h2,h3]
def BN {set x:Nat} {f:Nat->Nat} (h:bit set x=false\/f x≠x\/x=f (lst set)):Ec set f (x+1)=Ec set f x:=by
 unfold Ec;rw[iO,fZ];have:(bit set x&&decide (f x=x)&&decide (x≠f (lst set)))=false:=by
  rcases h with h|h|h
  ·simp[h]
  ·simp[h]
  ·rw[<-h];simp
 rw[show List.filter (fun y=>bit set y&&decide (f y=y)&&decide (y≠f (lst set))) [x]=[]from by rw[dZ (by rw[this];simp)];rfl,dM]
def c8Y {set x:Nat} {f:Nat->Nat}:x∉Ec set f x:=fun h=>by
 unfold Ec at h;have:=(dJ.1 h).1;rw[bH]at this;omega
def c8Z (set x:Nat) (f:Nat->Nat):(Ec set f x).length<=x:=by
 unfold Ec;exact bM (lO _ _) aD
section
variable {B H H':PH} {go g n i:Nat} {gs:List Nat} {l:List Slc}
structure Mk (B H:PH) (go:Nat) (gs:List Nat) (n:Nat):Prop where
 bh:Pl B H
 bo:B go=none
 out:SO (r7 H go) H 307 1 (fun s:Slc=>[vs s]) (vs (rsl n go)) (gs.map (rsl n)++eS (n-gs.length) (none,0,0))
 rows:MX B H gs n fun _ _=>(false,(none,0,0))
 off:go∉gs
 le:gs.length<=n
def BO {α:Type} {e:TypeId} {sz:Nat} {ce:α->List Value} {l:List α} (h:SO (r7 H g) H e sz ce (vs (rsl n g)) l):∃ob,H g=some ob/\∀X:PH,X g=some ob->SE X sz ce (vs (rsl n g)) l:=by
 obtain⟨h1,⟨h2,h3⟩|⟨g',cap,cur,h2,h3,h4,h5,h6,h7,h8⟩⟩:=h
 ·cases h2
 ·simp only[vs,rsl,Value.slice.injEq,dF,Addr.mk.injEq]at h2;obtain⟨⟨rfl,-,-⟩,h9,tP⟩:=h2;refine⟨_,h4,fun X hX=>⟨h1,some ⟨g,0,none⟩,cap,by simp only[vs,rsl];rw[<-h9,<-tP],h5,h6,.inr ⟨g,0,cur,e,_,rfl,hX,by rw[dS];exact h8⟩⟩⟩
def BQ {α:Type} {e:TypeId} {sz:Nat} {ce:α->List Value} {l:List α} {X:PH} (h:SO X H e sz ce (vs (rsl n g)) l):SO (r7 H g) H e sz ce (vs (rsl n g)) l:=by
 obtain⟨h1,⟨h2,h3⟩|⟨g',cap,cur,h2,h3,h4,h5⟩⟩:=h
 ·cases h2
 ·simp only[vs,rsl,Value.slice.injEq,dF,Addr.mk.injEq]at h2;obtain⟨⟨rfl,-,-⟩,h9,tP⟩:=h2;exact⟨h1,.inr ⟨g,cap,cur,by simp only[vs,rsl];rw[<-h9,<-tP],BC _ _,h4,h5⟩⟩
def Mk.row (h:Mk B H go gs n) (hg:H g=none) (hl:Pl H H') (ho:SO H H' 142 2 lc (vs (rsl n g)) (eS n (false,(none,0,0)))):MX B H' (gs++[g]) n (fun _ _=>(false,(none,0,0)))/\SO (r7 H' go) H' 307 1 (fun s:Slc=>[vs s]) (vs (rsl n go)) (gs.map (rsl n)++eS (n-gs.length) (none,0,0))/\go≠g:=by
 have pI:go≠g:=fun e=>by
  obtain⟨ob,h1,_⟩:=BO h.out;rw[e,hg]at h1;cases h1
 have hgs:g∉gs:=fun hm=>by
  obtain⟨i,hi⟩:=eJ.1 hm;obtain⟨ob,h1⟩:=h.rows.bound hi;rw[hg]at h1;cases h1
 have hB:B g=none:=by
  cases e:B g with
  |none=>rfl
  |some o=>rw[h.bh _ _ e]at hg;cases hg
 refine⟨⟨?_,h.rows.n64,fun i b hb=> ?_⟩,Vx h.out fun ob ho=>hl _ _ ho,pI⟩
 ·rw[eI];exact⟨h.rows.nd,aD,fun a ha b hb=>by simp only[bA]at hb;subst hb;intro e;subst e;exact hgs ha⟩
 ·by_cases hi:i<gs.length
  ·rw[aQ hi]at hb;exact⟨(h.rows.row i b hb).1,Vx (h.rows.row i b hb).2 fun ob ho=>hl _ _ ho⟩
  ·rw[aN aA]at hb;have:i-gs.length=0:=by
    have:=(aH.1 hb).1;simp at this;omega
   rw[this]at hb;simp only[dY,dF]at hb;subst hb;refine⟨hB,?_⟩;have e:Dk (fun _ _=>(false,(none,0,0))) n i=eS n (false,(none,0,0)):=by
    unfold Dk;rw[List.map_const'];simp
   rw[e];exact BQ ho
def Mk.set (h:Mk B H go gs n) (hM:MX B H' (gs++[g]) n (fun _ _=>(false,(none,0,0)))) (hgo:go≠g) {H2:PH} (hi:gs.length<n) (hb:Pl B H') (hl:Pl (r7 H' go) H2) (ho:SO (r7 H' go) H2 307 1 (fun s:Slc=>[vs s]) (vs (rsl n go)) ((gs.map (rsl n)++eS (n-gs.length) (none,0,0)).set gs.length (rsl n g))):Mk B H2 go (gs++[g]) n:=by
 have zL:go∉gs++[g]:=by simp only[bC,bA];rintro(e|e);exact h.off e;exact hgo e
 refine⟨fun k ob hk=>hl _ _ (by unfold r7;rw[if_neg (fun e=>by subst e;rw[h.bo]at hk;cases hk)];exact hb _ _ hk),h.bo,?_,⟨hM.nd,hM.n64,fun i b hb=> ?_⟩,zL,by simp;omega⟩
 ·have e:(gs.map (rsl n)++eS (n-gs.length) (none,0,0)).set gs.length (rsl n g)=(gs++[g]).map (rsl n)++eS (n-(gs++[g]).length) (none,0,0):=by
   obtain⟨k,hk⟩:∃k,n-gs.length=k+1:=⟨n-gs.length-1,aA⟩;rw[hk,aL,fP,show n-(gs.length+1)=k by omega,List.replicate_succ];simp[List.set_append]
  rw[e]at ho;exact BQ ho
 ·have pI:b≠go:=fun e=>zL (e ▸ aJ hb);exact⟨(hM.row i b hb).1,Vx (hM.row i b hb).2 fun ob ho=>hl _ _ (by unfold r7;rw[if_neg pI];exact ho)⟩
def Mk.done (h:Mk B H go gs n) (hn:gs.length=n):∃X,Pl B X/\SE X 1 (fun s:Slc=>[vs s]) (vs (rsl n go)) (gs.map (rsl n))/\Mt X X H gs n 0 (fun _ _=>(false,(none,0,0))) (fun _ _=>0):=by
 obtain⟨ob,h1,h2⟩:=BO h.out;rw[hn,eA,List.replicate_zero,dM]at h2;refine⟨B.put go ob,PH.le_put h.bo _,h2 _ (PH.put_self _ _ _),Pl.refl _,fun k o hk=> ?_,⟨h.rows.nd,h.rows.n64,fun i b hb=>⟨?_,(h.rows.row i b hb).2⟩⟩,fun i j _ _ _ _=>d5r _⟩
 ·by_cases e:k=go
  ·subst e;rw[PH.put_self]at hk;rw[h1];exact hk
  ·rw[PH.put_ne _ _ e]at hk;exact h.bh _ _ hk
 ·rw[PH.put_ne _ _ (fun e=>h.off (by rw[<-e];exact aJ hb))];exact(h.rows.row i b hb).1
end
def UB:prog.underlying 297=some (.map 3 4):=aB
def UD:∀w,(zeroValue 4).run prog w= .ok (.bool false) w:=fun w=>by
 rfl
def mj:q8 prog 197=true:=aB
def d9a:j3 prog 307=vs (none,0,0):=aB
def Wb {H:PH} {m:Value} {S:List Int} (h:MB H m S):m.cells= #[m]/\n8 m=true:=by
 obtain⟨_,⟨rfl,_⟩|⟨r,_,_,rfl,_⟩⟩:=h<;>exact⟨rfl,rfl⟩
def one_of {m:Value} (hc:m.cells= #[m]) (h1:n8 m=true):m.cells.size=1/\i8 m.cells:=by
 rw[hc];exact⟨rfl,fun c hc=>by rw[bA.1 (by simpa using hc:c∈[m])];exact h1⟩
def c4l {H2:PH} {r pb:Nat} {T:TypeId} (hr:H2 r=none) (hp:(H2.put r (.map #[] 0)) pb=none):∃B H4,((H2.put r (.map #[] 0)).put pb (.cells #[.map none] T (0,0))).put pb (.cells ((#[.map none]:Array Value).setIfInBounds 0 (.map (some r))) T (0,0))=H4/\Pl H2 B/\B pb=some (.cells #[.map (some r)] T (0,0))/\Pl B H4/\MO B H4 (.map (some r)) (plL []):=by
 have vA:pb≠r:=fun e=>by subst e;rw[PH.put_self]at hp;cases hp
 have qG:H2 pb=none:=by rwa[PH.put_ne _ _ vA]at hp
 refine⟨H2.put pb (.cells #[.map (some r)] T (0,0)),_,rfl,PH.le_put qG _,PH.put_self _ _ _,fun k ob hk=> ?_,fQ,r,[],0,rfl,?_,?_,rfl⟩
 ·by_cases e:k=pb
  ·subst e;rw[PH.put_self]at hk⊢;exact hk
  ·rw[PH.put_ne _ _ e]at hk;rw[PH.put_ne _ _ e,PH.put_ne _ _ e,PH.put_ne _ _ (fun e2=>by subst e2;rw[hr]at hk;cases hk)];exact hk
 ·rw[PH.put_ne _ _ (fun e=>vA e.symm)];exact hr
 ·rw[PH.put_ne _ _ (fun e=>vA e.symm),PH.put_ne _ _ (fun e=>vA e.symm),PH.put_self];rfl
def d5A {H5 H7:PH} {go qb n:Nat} {T:TypeId} (hn:n<=64) (hg:H5 go=none) (hl:Pl H5 H7) (hk:∀k,k≠go->H7 k=H5 k) (ho:SO H5 H7 307 1 (fun s:Slc=>[vs s]) (vs (rsl n go)) (eS n (none,0,0))) (hq:H7 qb=none):
  ∃B1 H8,(H7.put qb (.cells #[.slice none 0 0] T (0,0))).put qb (.cells ((#[.slice none 0 0]:Array Value).setIfInBounds 0 (vs (rsl n go))) T (0,0))=H8/\Pl H5 B1/\B1 qb=some (.cells #[vs (rsl n go)] T (0,0))/\Mk B1 H8 go [] n:=by
 have h0:=BQ ho;have pI:qb≠go:=fun e=>by
  obtain⟨ob,h1,_⟩:=BO h0;rw[<-e,hq]at h1;cases h1
 have hq5:H5 qb=none:=by rw[<-hk qb pI];exact hq
 refine⟨H5.put qb (.cells #[vs (rsl n go)] T (0,0)),_,rfl,PH.le_put hq5 _,PH.put_self _ _ _,fun k ob hb=> ?_,by rw[PH.put_ne _ _ pI.symm];exact hg,Vx h0 fun ob qT=> ?_,⟨fQ,hn,fun i g h=>by simp at h⟩,aD,bJ _⟩
 ·by_cases e:k=qb
  ·subst e;rw[PH.put_self]at hb⊢;exact hb
  ·rw[PH.put_ne _ _ e]at hb;rw[PH.put_ne _ _ e,PH.put_ne _ _ e];exact hl _ _ hb
 ·rw[PH.put_ne _ _ pI.symm,PH.put_ne _ _ pI.symm];exact qT
def Mk.len {B H:PH} {go n:Nat} {gs:List Nat} (h:Mk B H go gs n):(gs.map (rsl n)++eS (n-gs.length) (none,0,0)).length=n:=by
 have:=h.le;simp;omega
def d5B {E:List (Nat×Nat)} {e:Nat×Nat} {f:Nat->Nat} {V:List Nat} {i k:Nat} (hi:i<V.length) (hk:k<V.length) (pI:f e.1≠f e.2):
  addZ V (addZ V (addZ V (addZ V (Lo E f V) (f e.1) (f e.1) 1) (f e.2) (f e.2) 1) (f e.1) (f e.2) (-1)) (f e.2) (f e.1) (-1) i k=Lo (E++[e]) f V i k:=by
 have hF:∀(E:List (Nat×Nat)) (u v:Nat->Int),Fm (E++[e]) u v=Fm E u v+dl e u*dl e v:=fun E=>by
  induction E with
  |nil=>intro u v;simp[Fm]
  |cons x E ih=>intro u v;simp only[dE,Fm];rw[ih];omega
 unfold Lo;rw[hF,Ov,Ov];have e1:V[i]? =some (V.getD i 0):=by rw[aK,aG hi];rfl
 have e2:V[k]? =some (V.getD k 0):=by rw[aK,aG hk];rfl
 unfold addZ;rw[e1,e2];generalize V.getD i 0=x at*;generalize V.getD k 0=y at*;generalize f e.1=a at*;generalize f e.2=b at*;simp only[dF];by_cases x1:a=x<;>by_cases x2:b=x<;>by_cases y1:a=y<;>by_cases y2:b=y<;>(try (subst_vars;exact absurd rfl pI))<;>simp_all<;>(try split)<;>(try omega)
def BR {V:List Nat} {Z:Nat->Nat->Int} {a b:Nat} {z:Int} {m:Nat} (h:∀i k,(Z i k).natAbs<=m) (hz:z.natAbs<=1):∀i k,(addZ V Z a b z i k).natAbs<=m+1:=fun i k=>by
 unfold addZ;have:=h i k;split<;>omega
def ml {z:Int} {m:Nat} (h:z.natAbs<=m) (hm:m<=1000):Lm z:=by
 have:BP 1<=BP 10000:=Hq aC;rw[Go.WD.BP_succ,Go.WD.BP_zero]at this;unfold Lm;omega
def e1f {F:Nat->Nat->Int} (h:∀i j,(F i j).natAbs<=200):∀k i j,k<=64->SmZ (gk F k i j):=fun k i j hk=>by
 have h1:=c8L h k i j;obtain⟨K,hK⟩:∃K,K=65:=⟨_,rfl⟩;have h2:((k+1)*200)^(k+1)<=(2^14)^K:=bM (Nat.pow_le_pow_left aA _) (bB aC aA);have h3:∀M,100<=M->((2:Nat)^14)^K<BP M:=fun M hM=>by
  unfold BP;rw[<-Nat.pow_mul];exact cR aC aA
 have h3:=h3 100 (aS _);unfold SmZ;omega
def d9b {s:Nat} {es:List (Nat×Nat)} {W O:List Int} (h:Cyc (wE s es W es.length)):Ls s es W O=0:=if_neg h.not
def d5C {s:Nat} {es:List (Nat×Nat)} {W O:List Int} {f:Nat->Nat} (h:Acy (wE s es W es.length) (wE s es W es.length).length) (hf:lab (wE s es W es.length)=f):Ls s es W O=Dg (oE s es O f es.length) f (kk s f).reverse:=by
 subst hf;exact if_pos h
def fcn (pb qb:Nat):Value:= .func (.func 198) #[] #[.pointer (some ⟨pb,0,none⟩),.pointer (some ⟨qb,0,none⟩)]
def frt (vp:Value):Value:= .func (.func 197) #[vp] #[]
def c9a {H:PH} {n s:Nat} {w mw mo:Value} {es:List (Nat×Nat)} {W O:List Int} (hw:SG H w es) (hg:GV n es) (hs:s<M64) (h0:s≠0) (hT:Tb H) (hW:MB H mw W) (hO:MB H mo O):
  Con prog 132 [gv n w,GS.uv s,mw,mo] H fun u H'=>Pl H H'/\Lw H' u (Ls s es W O):=by
 refine g9 mixed d4T ?_;have hwc:=hw.cells;have hw1:=t7 hw;have sA:=hg.n64;have pB:=hg.len;have a1f:∀e∈es,e.1<=64/\e.2<=64:=fun e he=>by have:=hg.ed e he;omega
 have yJ:(Ad s 0 es).length<=200:=bM (Wa s es 0) pB;have hlx:∀{f:Nat->Nat} {x:Nat},Lb f->x<64->f x<64:=fun hf hx=>aR (hf.le _) hx;refine b4 (Be hw) ?_;refine b4 (one_of (Wb hW).1 (Wb hW).2) ?_;refine b4 (one_of (Wb hO).1 (Wb hO).2) ?_;refine g5 (c8A (H:=H)) rfl ?_;rintro _ H1 ⟨l1,vp,rfl,o1⟩;refine nmI ?_;simp only[cA,nA];refine b4 ⟨rfl,fun c hc=>by have hc:c∈[vp]:=hc;rw[bA]at hc;subst hc;exact t7 o1.se⟩ ?_;refine g5 (TR (H:=H1) hwc hw1) rfl ?_;rintro _ _ ⟨bi,ji,hbj,rfl,tD,rfl⟩;refine nmI ?_;simp only[cA,nA];refine Hz (X:=H1) (K:=Fh bi ji (ii n) w 25 s) (Ro:=H) (fun pre vals X'=>Pl H X'/\vals=[j3 prog 142]/\∃q,PO H X' vp q/\Par q (lab (wE s es W pre.length))/\Acy (wE s es W pre.length) (wE s es W pre.length).length) (fun _ vals X'=>Pl H X'/\∃u,vals=[u]/\Lw X' u 0/\Cyc (wE s es W es.length)) (SS hs hbj a1f aA hw hwc) SR tD rfl (fun _ _ _ h=>h.1) ⟨l1,rfl,eT 64,o1,Par.id,fun i e hi=>absurd hi (Nat.not_lt_zero _)⟩ ?_ ?_ ?_
 ·rintro pre xs vals X' ⟨y,hy,rfl⟩ _ ⟨m1,rfl,q,oq,hP,hA⟩;refine⟨rfl,?_⟩;simp only[cA,nA];refine b4 (el_edge.vcells y.2) ?_;have hya:=TZ hy;have hyl:=a1f y.2 (aJ hya.1);have hyb:=hg.mem hya.1;refine j6 (TF (k:=(y.1:Nat)) (vs:=[mw,ii (y.1:Nat)]) rfl rfl rfl UB Pe UD (hW.mono m1)) (j0 (Bz rfl (Wb hW).1) rfl) ?_;simp only[cA,nA];refine b9 ?_;refine g8 (b:=decide (((y.1:Nat):Int)∈W)) rfl (fun pT=> ?_) (fun pT=> ?_)
  ·skip
   have pT:=oDt pT;refine g5 (c8D m1 oq hP aA aA) rfl ?_;rintro _ X2 ⟨rfl,m2,q2,oq2,hP2⟩;refine nmI ?_;simp only[cA,nA];refine b9 ?_;refine y7 (p:=(¬(lab (wE s es W pre.length) y.2.1≠lab (wE s es W pre.length) y.2.2))) (by show Value.bool (!decide _)=_;congr 1;rw[bS];simp) (fun h5=> ?_) fun h5=> ?_
   ·refine g5 (Nx 0 aA aA) rfl ?_;rintro u3 X3 ⟨m3,w3⟩;refine nmI ?_;simp only[cA,nA];refine b4 w3.rq ?_;have hcy:Cyc (wE s es W es.length):=by
     obtain⟨M,hM⟩:=d8X (set:=s) (es:=es) (W:=W) (j:=pre.length+1) (k:=es.length) (by have:=(aH.1 hy).1;have:=Wa s es 0;omega);rw[hM,BK hy pT];refine Cyc.app ⟨(wE s es W pre.length).length,y.2,aD,?_⟩;rw[List.take_left];exact bW h5
    exact⟨m2.trans m3,u3,rfl,w3,hcy⟩
   ·have h5:=bW h5;exact⟨m2,rfl,q2,oq2,by rw[aL,fP,BK hy pT,c8d];exact hP2,by rw[aL,fP,BK hy pT,aL];exact hA.snoc h5⟩
  ·skip
   have pT:=oDf pT;exact⟨m1,rfl,q,oq,by rw[aL,fP,TX hy pT];exact hP,by rw[aL,fP,TX hy pT];exact hA⟩
 ·rintro xs vals X' K' rK hd _ ⟨m1,rfl,q,oq,hP,hA⟩;simp only[cA,nA];rw[d8Y rK]at hP hA;have hL:wE s es W es.length=wE s es W es.length:=rfl;generalize hf:lab (wE s es W es.length)=f at hP;have xA:=hP.lb;have m2:Pl H (X'.or K'):=m1.trans (PH.le_or _ _);have oq2:=oq.mono (PH.le_or X' K');generalize X'.or K'=H2 at m2 oq2⊢;refine j4 (dh rfl) rfl ?_;rintro _ _ ⟨r,hr,rfl,rfl⟩;refine nmI ?_;simp only[cA,nA];refine o0 (cs:= #[.map none]) aB fun pb hpb=> ?_;simp only[cA,nA];refine Ek (u:= .map (some r)) Rt rfl rfl rfl (PH.put_self _ _ _) aD rfl rfl rfl (fun h=>(nomatch h)) ?_;simp only[cA,nA];obtain⟨B,H4,hH4,hHB,hBp,hBH,hMO⟩:=c4l (T:=210) hr hpb;rw[hH4];have tJ:=oq2.se.mono hHB;have hTB:=hT.mono (m2.trans hHB);refine x5 (SX rfl) rfl ?_;simp only[cA,nA];refine b4 ⟨rfl,fun c hc=>by simp[D,Value.cells]at hc;subst hc;rfl⟩ ?_;refine s7 (Yg (hTB.mono hBH) hs) rfl ?_;simp only[cA,nA];refine j4 (Go.RZ.opn_callw (P:=prog) (ws:=[ii (lst s:Nat)]) (bs:= #[vp]) (caps:= #[]) (vs:=[frt vp,ii (lst s:Nat)]) rfl rfl rfl mj (Vv (tJ.mono hBH) hP (Ug hs (QR hs h0)))) rfl ?_;rintro _ _ ⟨rfl,rfl⟩;refine⟨fun _=>Pl.refl _,?_⟩;simp only[cA,nA];refine t6 (α:=Nat) (fun x=>[ii (x:Nat)]) (fun x=>fun H'=>x<=64/\Pl B H'/\MO B H' (.map (some r)) (plL (Ec s f x))) (fun x=>64-x) (0) rfl (⟨bJ _,hBH,hMO⟩) fun x H5 ⟨hx,b5,o5⟩=> ?_;simp only[cA,nA];refine b9 ?_;refine g8 (b:=decide (((x:Nat):Int)<64)) rfl (fun h=> ?_) (fun h=> ?_)
  ·replace h:=oDt h;refine b9 ?_;refine b4 ⟨_,_,rfl⟩ ?_;refine b4 (by show(0:Int)<=(x:Nat);omega) ?_;refine g8 (b:=bit s x) (vu rfl hs rfl aA) (fun hb=> ?_) (fun hb=> ?_)
   ·skip
    refine j4 (Go.RZ.opn_callw (P:=prog) (ws:=[ii (x:Nat)]) (bs:= #[vp]) (caps:= #[]) (vs:=[frt vp,ii (x:Nat)]) rfl rfl rfl mj (Vv (tJ.mono b5) hP aA)) rfl ?_;rintro _ _ ⟨rfl,rfl⟩;refine nmI ?_;simp only[cA,nA];refine b9 ?_;refine y7 (p:=(f x=x)) (bEn _ _) (fun h6=> ?_) fun h6=> ?_
    ·refine b9 ?_;refine y7 (p:=(x≠f (lst s))) (by show Value.bool (((x:Nat):Int) !=((f (lst s):Nat):Int))=_;rw[bN];congr 1;apply decide_eq_decide.2;omega) (fun h7=> ?_) fun h7=> ?_
     ·refine i7 Rt rfl rfl (b5 _ _ hBp) rfl rfl ?_;simp only[cA,nA];refine i7 Rt rfl rfl (b5 _ _ hBp) rfl rfl ?_;simp only[cA,nA];refine j6 (mc (vs:=[.map (some r)]) rfl rfl Lr o5.mi) rfl ?_;simp only[cA,nA];rw[BF];refine j4 (TE (P:=prog) (k:=((x:Nat):Int)) (v:=(((Ec s f x).length:Nat):Int)) (vs:=[.map (some r),ii (x:Nat),ii ((Ec s f x).length:Nat)]) rfl rfl rfl rfl Lr Pe b5 o5) rfl ?_;rintro _ H6 ⟨rfl,b6,o6,-⟩;refine nmI ?_;simp only[cA,nA];exact⟨x+1,aA,(j7 (p6 rfl aA)),⟨aA,b6,by rw[c8X hb h6 h7,<-d5v c8Y];exact o6⟩⟩
     ·exact⟨x+1,aA,(j7 (p6 rfl aA)),⟨aA,b5,by rw[BN (.inr (.inr (bW h7)))];exact o5⟩⟩
    ·exact⟨x+1,aA,(j7 (p6 rfl aA)),⟨aA,b5,by rw[BN (.inr (.inl h6))];exact o5⟩⟩
   ·skip
    exact⟨x+1,aA,(j7 (p6 rfl aA)),⟨aA,b5,by rw[BN (.inl (by simpa using hb))];exact o5⟩⟩
  ·replace h:=oDf h;obtain rfl:x=64:=aA;have hVl:=c8Z s 64 f;have hVd:(Ec s f 64).Nodup:=d8s s f;have hVe:Ec s f 64=kk s f:=rfl;have hmi:=o5.mi;generalize hV:Ec s f 64=V at hVl hVd hVe hmi o5;generalize hn:V.length=m at hVl;refine i7 Rt rfl rfl (b5 _ _ hBp) rfl rfl ?_;simp only[cA,nA];refine j6 (mc (vs:=[.map (some r)]) rfl rfl Lr hmi) rfl ?_;simp only[cA,nA];rw[BF,hn];refine TW Ew (z:=(none,0,0)) d9a rfl rfl rfl aA rfl fun go H7 hg7 l7 k7 o7=> ?_;simp only[cA,nA];refine o0 (cs:= #[.slice none 0 0]) aB fun qb hqb=> ?_;simp only[cA,nA];refine Ek (u:=vs (rsl m go)) Vz rfl rfl rfl (PH.put_self _ _ _) aD rfl rfl rfl (fun h=>(nomatch h)) ?_;simp only[cA,nA];obtain⟨B1,H8,hH8,hB5,hBq,hMk⟩:=d5A (T:=306) hVl hg7 l7 k7 o7 hqb;rw[show Value.slice (some ⟨go,0,none⟩) m m=vs (rsl m go)from rfl,hH8];have sL:=hB5 _ _ (b5 _ _ hBp);have vC:=hmi.mono hB5;refine i7 Vz rfl rfl (hMk.bh _ _ hBq) rfl rfl ?_;simp only[cA,nA];refine Gt Ew rfl rfl hMk.out.se rfl ?_;simp only[cA,nA];rw[hMk.len];refine t6 (α:=Nat×List Nat) (fun⟨i,gs⟩=>[ii (i:Nat)]) (fun⟨i,gs⟩=>fun H'=>gs.length=i/\Mk B1 H' go gs m) (fun⟨i,gs⟩=>m-i) ((0,[])) rfl (⟨rfl,hMk⟩) fun⟨i,gs⟩ H9 ⟨hgi,k9⟩=> ?_;simp only[cA,nA];refine b9 (b9 ?_);refine g8 (b:=decide (((i:Nat):Int)<(m:Nat))) rfl (fun h=> ?_) (fun h=> ?_)
   ·replace h:=oDt h;subst hgi;refine i7 Vz rfl rfl (k9.bh _ _ hBq) rfl rfl ?_;simp only[cA,nA];refine i7 Rt rfl rfl (k9.bh _ _ sL) rfl rfl ?_;simp only[cA,nA];refine j6 (mc (vs:=[.map (some r)]) rfl rfl Lr (vC.mono k9.bh)) rfl ?_;simp only[cA,nA];rw[BF,hn];refine TW el_long (z:=(false,(none,0,0))) e1d rfl rfl rfl aA rfl fun g H10 a4t l10 k10 o10=> ?_;simp only[cA,nA];obtain⟨r1,r2,r3⟩:=k9.row a4t l10 o10;refine Dl Ew (a:=(rsl m g)) rfl rfl rfl rfl aF aF (cut_le H10 go) r2 (show gs.length<(gs.map (rsl m)++eS (m-gs.length) (none,0,0)).length by rw[k9.len];omega) rfl aF rfl fun p u H11 l11 o11 _=> ?_;simp only[cA,nA];exact⟨(gs.length+1,gs++[g]),by show m-(gs.length+1)<m-gs.length;omega,(j7 (p6 rfl aA)),⟨aD,k9.set r1 r3 aA (k9.bh.trans l10) l11 o11⟩⟩
   ·replace h:=oDf h;have uN:gs.length=m:=by have:=k9.le;omega
    obtain⟨X0,x0,tO,hMt⟩:=k9.done uN;have hX0:Pl H X0:=(m2.trans hHB).trans (b5.trans (hB5.trans x0));have a4u:=tJ.mono (b5.trans (hB5.trans x0));refine x5 (Ai (vs:=[.pointer (some ⟨pb,0,none⟩),.pointer (some ⟨qb,0,none⟩)]) rfl rfl) rfl ?_;simp only[cA,nA];refine b4 ⟨rfl,fun c hc=>by simp[D,Value.cells]at hc;subst hc;rfl⟩ ?_;refine g5 (TR (H:=H9) hwc hw1) rfl ?_;rintro _ _ ⟨b2,j2,a4v,rfl,pE,rfl⟩;refine nmI ?_;simp only[cA,nA];refine Hz (X:=H9) (K:=Fh b2 j2 (ii n) w 25 s) (Ro:=H) (fun pre vals X'=>Pl H X'/\vals=[]/\∃Xw M,Mt X0 Xw X' gs m 0 M (Lo (oE s es O f pre.length) f V)) (fun _ _ _=>False) (SS hs a4v a1f aA hw hwc) SR pE rfl (fun _ _ _ h=>h.1) ⟨hX0.trans hMt.xh,rfl,X0,_,hMt.x0,hMt.xh,hMt.mx,hMt.vl⟩ ?_ ?_ ?_
    ·rintro pre xs vals X2 ⟨y,hy,rfl⟩ _ ⟨m1,rfl,Xw,M,ht⟩;refine⟨rfl,?_⟩;simp only[cA,nA];refine b4 (el_edge.vcells y.2) ?_;have hya:=TZ hy;have hyb:=hg.mem hya.1;have hpw:=a4u.mono (ht.x0.trans ht.xh);refine j4 (Go.RZ.opn_callw (P:=prog) (ws:=[ii (y.2.1:Nat)]) (bs:= #[vp]) (caps:= #[]) (vs:=[frt vp,ii (y.2.1:Nat)]) rfl rfl rfl mj (Vv hpw hP aA)) rfl ?_;rintro _ _ ⟨rfl,rfl⟩;refine⟨fun _=>Pl.refl _,?_⟩;simp only[cA,nA];refine j4 (Go.RZ.opn_callw (P:=prog) (ws:=[ii (y.2.2:Nat)]) (bs:= #[vp]) (caps:= #[]) (vs:=[frt vp,ii (y.2.2:Nat)]) rfl rfl rfl mj (Vv hpw hP aA)) rfl ?_;rintro _ _ ⟨rfl,rfl⟩;refine⟨fun _=>Pl.refl _,?_⟩;simp only[cA,nA];refine j6 (TF (k:=(y.1:Nat)) (vs:=[mo,ii (y.1:Nat)]) rfl rfl rfl UB Pe UD (hO.mono m1)) (j0 (Bz rfl (Wb hO).1) rfl) ?_;simp only[cA,nA];refine b9 ?_;refine g8 (b:=decide (((y.1:Nat):Int)∈O)) rfl (fun pT=> ?_) (fun pT=> ?_)
     ·skip
      exact⟨m1,rfl,Xw,M,by rw[aL,fP,TY hy (.inl (oDt pT))];exact ht⟩
     ·skip
      have pT:=oDf pT;refine b9 (b9 ?_);refine y7 (p:=(f y.2.1=f y.2.2)) (bEn _ _) (fun h6=> ?_) fun h6=> ?_
      ·exact⟨m1,rfl,Xw,M,by rw[aL,fP,TY hy (.inr h6)];exact ht⟩
      ·have hz0:∀i k,(Lo (oE s es O f pre.length) f V i k).natAbs<=200:=fun i k=>bM (TO _ _ _ i k) (bM UA pB);have hz1:=BR (V:=V) (a:=f y.2.1) (b:=f y.2.1) (z:=1) hz0 aC;have yF:=BR (V:=V) (a:=f y.2.2) (b:=f y.2.2) (z:=1) hz1 aC;have hz3:=BR (V:=V) (a:=f y.2.1) (b:=f y.2.2) (z:= -1) yF aC;have hpX:=x0 _ _ sL;have hqX:=x0 _ _ hBq;have hmX:=vC.mono x0;refine j4 (Go.RZ.opn_callw (P:=prog) (ws:=[ii (f y.2.1:Nat),ii (f y.2.1:Nat),ii 1]) (bs:= #[]) (caps:= #[.pointer (some ⟨pb,0,none⟩),.pointer (some ⟨qb,0,none⟩)]) (vs:=[fcn pb qb,ii (f y.2.1:Nat),ii (f y.2.1:Nat),ii 1]) rfl rfl rfl me (mf ht hpX hqX hmX tO uN hn hVd aC fun i k=>ml (hz0 i k) aC)) rfl ?_;rintro _ Y1 ⟨W1,M1,e1,t1⟩;refine nmI ?_;simp only[cA,nA];refine j4 (Go.RZ.opn_callw (P:=prog) (ws:=[ii (f y.2.2:Nat),ii (f y.2.2:Nat),ii 1]) (bs:= #[]) (caps:= #[.pointer (some ⟨pb,0,none⟩),.pointer (some ⟨qb,0,none⟩)]) (vs:=[fcn pb qb,ii (f y.2.2:Nat),ii (f y.2.2:Nat),ii 1]) rfl rfl rfl me (mf t1 hpX hqX hmX tO uN hn hVd aC fun i k=>ml (hz1 i k) aC)) rfl ?_;rintro _ Y2 ⟨W2,M2,e2,t2⟩;refine nmI ?_;simp only[cA,nA];refine j4 (Go.RZ.opn_callw (P:=prog) (ws:=[ii (f y.2.1:Nat),ii (f y.2.2:Nat),ii (-1)]) (bs:= #[]) (caps:= #[.pointer (some ⟨pb,0,none⟩),.pointer (some ⟨qb,0,none⟩)]) (vs:=[fcn pb qb,ii (f y.2.1:Nat),ii (f y.2.2:Nat),ii (-1)]) rfl rfl rfl me (mf t2 hpX hqX hmX tO uN hn hVd aC fun i k=>ml (yF i k) aC)) rfl ?_;rintro _ Y3 ⟨W3,M3,e3,t3⟩;refine nmI ?_;simp only[cA,nA];refine j4 (Go.RZ.opn_callw (P:=prog) (ws:=[ii (f y.2.2:Nat),ii (f y.2.1:Nat),ii (-1)]) (bs:= #[]) (caps:= #[.pointer (some ⟨pb,0,none⟩),.pointer (some ⟨qb,0,none⟩)]) (vs:=[fcn pb qb,ii (f y.2.2:Nat),ii (f y.2.1:Nat),ii (-1)]) rfl rfl rfl me (mf t3 hpX hqX hmX tO uN hn hVd aC fun i k=>ml (hz3 i k) aC)) rfl ?_;rintro _ Y4 ⟨W4,M4,e4,t4⟩;refine nmI ?_;simp only[cA,nA];exact⟨hX0.trans (t4.x0.trans t4.xh),rfl,W4,M4,t4.x0,t4.xh,t4.mx,fun i k h1 h2 h3 h4=>by rw[aL,fP,d8V hy pT h6,<-d5B aA aA h6];exact t4.vl i k h1 h2 h3 h4⟩
    ·rintro xs vals X2 K2 rK hd _ ⟨m1,rfl,Xw,M,ht⟩;simp only[cA,nA];rw[d8Z rK]at ht;have oW:=PH.le_or X2 K2;refine i7 Vz rfl rfl (oW _ _ ((ht.x0.trans ht.xh) _ _ (x0 _ _ hBq))) rfl rfl ?_;simp only[cA,nA];refine g5 (c8Q (ht.xh.trans oW) (tO.mono ht.x0) (ht.mx.mono oW fun _ _ h=>h) uN ht.vl (e1f fun i k=>bM (TO _ _ _ i k) (bM UA pB)) (fun k hk h=>by rw[<-hn]at hk⊢;rw[TN];exact c4b _ _ hVd hk h)) rfl ?_;rintro u H12 ⟨X12,x1,x2,w12⟩;refine nmI ?_;simp only[cA,nA];obtain⟨x12,rfl⟩:=Oz w12;refine b4 (w12.mono x2).rq ?_;exact c9 rfl ⟨hX0.trans (ht.x0.trans (x1.trans x2)),by rw[d5C hA hf,<-hVe,<-TN,hn];exact w12.mono x2⟩
    ·exact fun _ _ _ _ _ _ _ h=>h.elim
 ·rintro pre vals X' K' _ hd _ ⟨m1,u,rfl,w0,hcy⟩;simp only[cA,nA];obtain⟨x0,rfl⟩:=Oz w0;exact c9 rfl ⟨m1.trans (PH.le_or _ _),by rw[d9b hcy];exact w0.mono (PH.le_or _ _)⟩
section
variable {s:Nat} {es:List (Nat×Nat)} {t S:List Int} {k:Nat} {y:Nat×(Nat×Nat)}
def BS (s:Nat):∀(es:List (Nat×Nat)) (i:Nat),(Ad s i es).map (·.2)=es.filter (inB s)
 |[],_=>rfl
 |e::r,i=>by
  unfold Ad;by_cases h:(bit s e.1&&bit s e.2)=true
  ·rw[if_pos h,List.filter_cons_of_pos (by unfold inB;exact h),aU,BS s r (i+1)]
  ·rw[if_neg h,dZ (by unfold inB;exact h),BS s r (i+1)]
def opn (s:Nat) (es:List (Nat×Nat)) (k:Nat):List (Nat×Nat):=((Ad s 0 es).drop k).map (·.2)
def mn (s:Nat) (es:List (Nat×Nat)) (t:List Int) (k:Nat):Int:=KK (opn s es k) s (lab (etl es t))
def c4m (s:Nat) (es:List (Nat×Nat)):Ls s es [] []=mn s es [] 0:=by
 have hw:wE s es [] es.length=[]:=by
  unfold wE;rw[List.filter_eq_nil_iff.2 (fun x _=>aD)];rfl
 have ha:Acy (wE s es [] es.length) (wE s es [] es.length).length:=by rw[hw];exact fun i e hi=>by cases hi
 unfold Ls mn;rw[if_pos ha,hw];have:oE s es [] (lab []) es.length=(opn s es 0).filter fun e=>lab [] e.1 !=lab [] e.2:=by
  unfold oE opn;rw[aI (Wa s es 0),dS,List.filter_map];congr 1
 rw[this,c3z];rfl
def c9b (s:Nat) (es:List (Nat×Nat)):mn s es [] 0=trN es s [] 0:=by
 unfold mn trN opn inE;rw[dS,dS,BS]
end
open Go.WD (BP Hq wd iw rs toI HM sgI)
def c4n (z:Int):∃m e,Bo z= .tuple #[wd m,ii e]:=by
 unfold Bo;split
 ·exact⟨_,_,rfl⟩
 ·exact⟨_,_,rfl⟩
section
variable {H:PH} {n s:Nat} {w:Value} {es:List (Nat×Nat)}
def c9c (hw:SG H w es) (hg:GV n es) (h0:s≠0/\s<2^n) (hs:s<M64) (hT:Tb H):Con prog 82 [gv n w,GS.uv s] H fun u H'=>Pl H H'/\u=Bo (Ls s es [] []):=by
 refine g9 mixed d4U ?_;refine b4 (Be hw) ?_;refine i9 (c8F hw hg hs) rfl fun H1 l1=> ?_;simp only[cA,nA];rw[if_pos h0];refine b9 ?_;refine j1 rfl ?_;refine g5 (c9a (hw.mono l1) hg hs h0.1 (hT.mono l1) (MB.none _) (MB.none _)) rfl ?_;rintro v3 H2 ⟨l2,w3⟩;refine nmI ?_;simp only[cA,nA];refine g5 (Ya w3) rfl ?_;rintro v4 H3 ⟨l3,hv4⟩;refine nmI ?_;simp only[cA,nA];obtain⟨m,e,hme⟩:=c4n (Ls s es [] []);rw[hme]at hv4;subst hv4;refine g7 (g7 ?_);refine b4 (BG m) ?_;exact c9 rfl ⟨(l1.trans l2).trans l3,hme.symm⟩
end
open Go.RZ Go.WD
def e2J:∀s∈[7,8,3,12,1,14],Ls s es4 [] []=1:=by
 have h:∀s∈[7,8,3,12,1,14],trN es4 s [] 0=1:=by decide+kernel
 intro s hs;rw[c4m,c9b];exact h s hs
section
variable {H:PH} {n k:Nat} {es:List (Nat×Nat)} {w u:Value} {p:List Int}
def UE:Bo 1= .tuple #[iw 1,ii 0]:=by unfold Bo;rw[if_pos (by decide+kernel)];rfl
set_option maxHeartbeats 1000000 in
def c9d (hT:Tb H) (hw:SG H w es) (hg:GV n es) (hu:SI H u p) (hP:plE n p (k:Nat)=0) (hL:LabOk p (k:Nat)) (hU:Cb p k) (hk:1<=k/\k<=8) (h1:∀s∈Em p k,(s≠0/\s<2^n)/\s<M64/\Ls s es [] []=1):Con prog 41 [gv n w,u,ii (k:Nat)] H fun r H'=>Pl H H'/\r= .tuple #[iw 1,ii 0]:=by
 refine g9 mixed d4F ?_;have vC:Lm 1:=(fun e h=>by unfold BP;exact Nat.one_lt_two_pow aA:∀e:Nat,e≠0->(1:Int).natAbs<BP e) 10000 aC;refine b4 (Be hw) ?_;refine i9 (xz hw hg hu (k:Nat)) rfl fun H1 l1=> ?_;simp only[cA,nA];rw[hP];refine b9 ?_;refine j1 rfl ?_;refine g5 (ya (hu.mono l1) k hk.1 hk.2 hL hU) rfl ?_;rintro _ H2 ⟨l2,z,rfl,hz⟩;refine nmI ?_;simp only[cA,nA];refine g7 (g7 ?_);refine g5 (Nx 1 aC aC) rfl ?_;rintro v5 H3 ⟨l3,w5⟩;refine nmI ?_;simp only[cA,nA];refine b4 w5.rq ?_;have l13:=(l1.trans l2).trans l3;refine r8 el_u64 (hz.mono l3) ?_;simp only[cA,nA];have hzl:=hz.len;refine t6 (α:=Nat×Value) (fun⟨i,x⟩=>[ii 0,ii (i:Nat),x]) (fun⟨i,x⟩=>fun K=>i<=(Em p k).length/\Pl H3 K/\Lw K x 1) (fun⟨i,x⟩=>(Em p k).length-i) ((0,v5)) rfl (⟨bJ _,Pl.refl _,w5⟩) fun⟨i,x⟩ K hQ=> ?_;simp only[cA,nA];obtain⟨hi1,lK,wx⟩:=hQ;obtain⟨x9,rfl⟩:=Oz wx;refine b9 (b9 ?_);refine g8 (b:=decide (((i:Nat):Int)<((Em p k).length:Nat))) rfl (fun pT=> ?_) (fun pT=> ?_)
 ·replace pT:=oDt pT;obtain⟨s,hs,_⟩:=u6 (show i<(Em p k).length by omega);obtain⟨tW,uS,hs3⟩:=h1 s (aJ hs);refine r6 el_u64 (hz.mono (l3.trans lK)) hs fun _=> ?_;simp only[cA,nA];refine g5 (c9c (hw.mono (l13.trans lK)) hg tW uS (hT.mono (l13.trans lK))) rfl ?_;rintro _ K2 ⟨l4,rfl⟩;refine nmI ?_;simp only[cA,nA];rw[hs3,UE];refine g7 (g7 ?_);refine b4 (BG _) ?_;refine b9 ?_;refine j1 rfl ?_;refine g5 (Uc (rs 1)) rfl ?_;rintro v13 K3 ⟨l5,w13⟩;refine⟨(fun _=>l5),?_⟩;simp only[cA,nA];rw[show toI (rs 1)=1 by decide+kernel]at w13;refine g5 (Nw (wx.mono (l4.trans l5)) w13 vC vC) rfl ?_;rintro v14 K4 ⟨l6,w14⟩;refine⟨(fun _=>l6),?_⟩;simp only[cA,nA];refine b4 w14.rq ?_;exact⟨(i+1,v14),by show(Em p k).length-(i+1)<(Em p k).length-i;omega,(Dp rfl (p6 rfl aA) rfl),⟨by show i+1<=(Em p k).length;omega,lK.trans (l4.trans (l5.trans l6)),by rw[Int.one_mul]at w14;exact w14⟩⟩
 ·replace pT:=oDf pT;refine g5 (Ya wx) rfl ?_;rintro _ K2 ⟨l4,rfl⟩;refine nmI ?_;simp only[cA,nA];rw[UE];refine g7 (g7 ?_);refine b4 (BG _) ?_;exact c9 rfl ⟨l13.trans (lK.trans l4),rfl⟩
end
def UF:q8 prog 40=true:=aB
section
variable {dm:Dm} {H B:PH} {n k ms lv who:Nat} {es:List (Nat×Nat)} {us:List Go.GS.Un} {w rw wts:Value} {lo hi:Int} {b:Nat}
def c4o {c0:Nat} (pU:H c0=some (.cells (stC dm n k ms lv who w rw lo hi).toArray 30 (0,0))) (hM:StM H w rw es us) (hS:StOk dm n k ms lv who es us lo hi) (hz:ms=1->s8 us n=true) (hp:0<j8 n k es us lo hi) (hN:j8 n k es us lo hi<=400) (hr:∀r∈vlL dm n k ms lv who es us lo hi,Rg r) (rH:∀(i:Nat),i<j8 n k es us lo hi->∀(u:Value) (H:PH),StM H w rw es us->SI H u (y8 n k es us lo hi i)->Con prog 41 [gv n w,u,ii (k:Nat)] H fun r H'=>Pl H H'/\r= .tuple #[iw 1,ii 0]):
  Con prog 40 [.pointer (some ⟨c0,0,none⟩)] H fun r H'=>Pl H H'/\∃m,SE H' 32 ceM r m/\TalP (vlL dm n k ms lv who es us lo hi) m:=by
 refine g9 mixed RG ?_;refine j4 (Ji (ok:=Rg) (ke:=shR) Ha rfl) rfl ?_;rintro v1 H1 ⟨l1,o1⟩;refine nmI ?_;simp only[cA,nA];obtain⟨g0,es0,cl0,rfl,zM,sK,hE0,tN⟩:=id o1;refine b4 (Zb g0) ?_;refine s5 (vs:=(stC dm n k ms lv who w rw lo hi)) Ea rfl rfl (l1 _ _ pU) rfl (show 0+12<=12 by decide) rfl ?_;simp only[cA,nA];refine Dz (Ij hM hS hz) l1 rfl fun v3 X1 H2 a1 w1 b1 c1 d1=> ?_;simp only[cA,nA];obtain⟨b,wts,rfl,hW⟩:=w1;refine Dz (ze hW hS hp hN) b1 rfl fun v4 X2 H3 a2 w2 b2 c2 d2=> ?_;simp only[cA,nA];obtain⟨z,c,lv',m,rfl,hA⟩:=w2;have xU:X1 g0=none:=d1 g0 (by rw[sK];exact fun h=>nomatch h) zM;have vV:X2 g0=none:=d2 g0 (by rw[c1 _ _ sK];exact fun h=>nomatch h) xU;have hC0:CntS X2 H3 (.map (some g0)) (vlL dm n k ms lv who es us lo hi) 0:=⟨[],⟨g0,es0,cl0,rfl,vV,c2 _ _ (c1 _ _ sK),hE0,tN⟩,fun r=>aD,(fun q hq=>nomatch hq)⟩;have hml:m.length=j8 n k es us lo hi:=hA.len;rw[<-PH.or_nil H3];refine Hz (X:=H3) (K:=PH.nil) (Ro:=X2) (fun pre vals X'=>vals=[]/\Pl X2 X'/\CntS X2 X' (.map (some g0)) (vlL dm n k ms lv who es us lo hi) pre.length) (fun _ _ _=>False) (zf hA hS hz (fun i hi=>ju hi) aA) zd (Ue _) rfl (fun _ _ _ h=>h.2.1) ⟨rfl,b2,hC0⟩ ?_ ?_ ?_
 ·rintro pre xs vals X' ⟨s,hs,rfl⟩ _ ⟨rfl,lX,hC⟩;refine⟨rfl,?_⟩;simp only[cA,nA];have rQ:pre.length<j8 n k es us lo hi:=by have:=(aH.1 hs).1;omega
  have qK:=zi (dm:=dm) (ms:=ms) (lv:=lv) (who:=who) rQ;have vD:=hr _ (aJ qK);have rZ:∀q,((vlL dm n k ms lv who es us lo hi).take pre.length).count q<=400:=fun q=>by
   have:=List.count_le_length (a:=q) (l:=(vlL dm n k ms lv who es us lo hi).take pre.length);rw[bD,He]at this;omega
  generalize hvv:s0 dm n es us k ms lv who (y8 n k es us lo hi pre.length)=vv at qK vD;obtain⟨L,o3,yN,yO⟩:=hC;refine b4 (r4 _ _) ?_;have wN:(iw ((((vlL dm n k ms lv who es us lo hi).take pre.length).count vv:Nat):Int)=wd 0/\vv∉L.map (·.1))\/(vv,iw ((((vlL dm n k ms lv who es us lo hi).take pre.length).count vv:Nat):Int))∈L:=by
   by_cases h:vv∈L.map (·.1)
   ·obtain⟨q,hq,rfl⟩:=bK.1 h;right;rw[<-yO q hq];exact hq
   ·left;refine⟨?_,h⟩;rw[List.count_eq_zero.2 (fun h2=>h ((yN vv).2 h2))];rfl
  refine j6 (yk Ha (k:=vv) (u:=iw ((((vlL dm n k ms lv who es us lo hi).take pre.length).count vv:Nat):Int)) (vs:=[.map (some g0),shR vv]) rfl rfl rfl Ot vD zg o3.mk wN) (j0 (Bz rfl rfl) rfl) ?_;simp only[cA,nA];refine i0 Re ?_;simp only[cA,nA];refine s5 (vs:=[ii (n:Nat),w]) Lc rfl rfl (lX _ _ ((a1.trans a2) _ _ pU)) rfl (show 0+0+2<=12 by decide) rfl ?_;simp only[cA,nA];refine i0 OV ?_;simp only[cA,nA];refine i7 (u:=ii (k:Nat)) sc_int rfl rfl (lX _ _ ((a1.trans a2) _ _ pU)) rfl rfl ?_;simp only[cA,nA];refine g5 (rH pre.length rQ (vs s) X' (hM.mono ((a1.trans a2).trans lX)) ((hA.at' _ s hs).mono lX)) rfl ?_;rintro _ X8 ⟨l8,rfl⟩;refine⟨(fun _=>l8),?_⟩;simp only[cA,nA];refine g7 (g7 ?_);refine s7 (Zl _) rfl ?_;simp only[cA,nA];refine Bn (jv (a:=((((vlL dm n k ms lv who es us lo hi).take pre.length).count vv:Nat):Int)) (b:=1) aA aA (by have:=rZ vv;omega)) rfl ?_;simp only[cA,nA];refine g7 (g7 ?_);refine s7 (Zl _) rfl ?_;simp only[cA,nA];refine j4 (Up Ha (k:=vv) (v:=iw ((((vlL dm n k ms lv who es us lo hi).take pre.length).count vv+1:Nat):Int)) (vs:=[.map (some g0),shR vv,iw ((((vlL dm n k ms lv who es us lo hi).take pre.length).count vv+1:Nat):Int)]) rfl rfl rfl rfl Ot vD (lX.trans l8) (o3.mono l8)) (Dp (Bz rfl rfl) rfl (by rw[dD];rfl)) ?_;rintro _ H5 ⟨rfl,l5,o5,-⟩;refine nmI ?_;simp only[cA,nA];exact⟨rfl,l5,by rw[aL];exact CntS.put yN yO qK o5⟩
 ·rintro xs vals X' K' hxn hd _ ⟨rfl,lX,hC⟩;simp only[cA,nA];have rK:xs.length=(vlL dm n k ms lv who es us lo hi).length:=by rw[He];omega
  rw[rK]at hC;refine g5 (zh (hC.mono (PH.le_or X' K')) (fun e=>by have:=congrArg List.length e;rw[He]at this;simp at this;omega) (by rw[He];exact hN)) (j7 (Bz rfl rfl)) ?_;rintro r H6 ⟨l6,m',sJ,hT⟩;refine nmI ?_;simp only[cA,nA];exact c9 rfl ⟨a1.trans (a2.trans (lX.trans ((PH.le_or X' K').trans l6))),m',sJ,hT⟩
 ·exact fun _ _ _ _ _ _ _ h=>h.elim
def c9e (hM:StM H w rw es us) (hS:StOk dm n k ms lv who es us lo hi) (hz:ms=1->s8 us n=true) (hp:0<j8 n k es us lo hi) (hN:j8 n k es us lo hi<=400) (hr:∀r∈vlL dm n k ms lv who es us lo hi,Rg r) (rH:∀(i:Nat),i<j8 n k es us lo hi->∀(u:Value) (H:PH),StM H w rw es us->SI H u (y8 n k es us lo hi i)->Con prog 41 [gv n w,u,ii (k:Nat)] H fun r H'=>Pl H H'/\r= .tuple #[iw 1,ii 0]):
  Con prog 11 [stV dm n k ms lv who w rw lo hi] H fun r H'=>Pl H H'/\∃t m,r= .tuple #[t,ii 0]/\SE H' 32 ceM t m/\TalP (vlL dm n k ms lv who es us lo hi) m:=by
 refine g9 mixed RF ?_;refine b4 (Ep (t7 hM.gr) hM.ro.one) ?_;refine o0 (cs:=(stC dm n k ms lv who w rw lo hi).toArray) rfl fun a ha=> ?_;simp only[cA,nA];have la:=PH.le_put ha (.cells (stC dm n k ms lv who w rw lo hi).toArray 30 (0,0));refine x5 (Ai (vs:=[.pointer (some ⟨a,0,none⟩)]) rfl rfl) rfl ?_;simp only[cA,nA];refine g5 (Va (caps:=[.pointer (some ⟨a,0,none⟩)]) mixed Zm jw UF (c4o (PH.put_self _ _ _) (hM.mono la) hS hz hp hN hr rH) (fun _ _ h=>PK h.2.choose_spec.1)) rfl ?_;rintro _ H4 ⟨t,⟨l4,m,sJ,hT⟩,rfl⟩;refine nmI ?_;simp only[cA,nA];refine g7 (g7 ?_);exact c9 rfl ⟨la.trans l4,t,m,rfl,sJ,hT⟩
end
def d9d:Gz ((prog.funcs[86]?).getD default).body=Rk ((prog.funcs[86]?).getD default) 20 120 4 108 36 (.alloc 108) (.load 108 (.tmp 5)) (.region 4 #[mkO (opr f86 4 0) (some 16) (.move (.tmp 2)),mkO (opr f86 4 1) none (.panic (.tmp 16))] false):=aB
def foZ:Value:= .agg (#[.slice none 0 0]++eZ 16 (.int .u64 0))
def foZ_one:foZ.cells.size=17/\i8 foZ.cells:=⟨rfl,Wy (fun c hc=>by simp at hc;subst hc;rfl) (ky 16)⟩
def d9e {e:Int}:Vp prog 108 36 120 4 ((prog.funcs[86]?).getD default) foZ e (Am e) 20 (.alloc 108) (.load 108 (.tmp 5)) where
 ifc:=⟨_,_,rfl⟩
 asr:=fun w=>by kernel_rfl
 zB:=aB
 hB:=aB
 cB:=aB
 fB:=fun w k=>by kernel_rfl
 zs:=aB
 zo:=foZ_one.2
 hT:=aB
 E1:=aB
 aE:=aB
 hE:=aB
 nb:=fun w=>by kernel_rfl
 z5:=AH aB aB aB aB
 d5:=fun c h=>by cases h
 ord:=aB
def d9f {e:Int}:Qw prog 86 108 36 foZ (Am e) e:=by
 have h:=AB;rw[d9d]at h;exact Zt mixed h d9e
section
variable {dm:Dm} {H B:PH} {n k ms lv who e:Int} {us:List GS.Un} {w rw u ch:Value} {lo hi:Int}
def OpnX (dm:Dm) (H:PH) (n k ms lv who:Int) (w rw:Value) (lo hi e:Int):Prop:=∀H',Pl H H'->ConX prog 20 [stV dm n k ms lv who w rw lo hi] H' (fun _ _=>False) fun x H''=>Pl H' H''/\x=Am e
def c4p (h1:n8 w=true) (h2:n8 rw=true) (hO:OpnX dm H n k ms lv who w rw lo hi e):Con prog 8 [stV dm n k ms lv who w rw lo hi] H fun r H'=>Pl H H'/\r= .tuple #[.slice none 0 0,ii e]:=by
 refine SA h1 h2 fun a H0 l0 hs=> ?_;refine Cj mixed yp aB rfl ?_;refine j4 (Ji (ok:=Rg) (ke:=shR) Ha rfl) rfl ?_;rintro v1 H1 ⟨l1,o1⟩;refine nmI ?_;simp only[cA,nA];obtain⟨g0,es0,cl0,rfl,zM,sK,hE0,tN⟩:=id o1;refine b4 (Zb g0) ?_;refine s5 (vs:=(stC dm n k ms lv who w rw lo hi)) Ea rfl rfl (l1 _ _ hs) rfl (show 0+12<=12 by decide) rfl ?_;simp only[cA,nA];exact Av (hO _ (l0.trans l1)) rfl (fun _ _ h=>h.elim) ((fun x H' h=>⟨l1.trans h.1,h.2⟩))
def c4q (h1:n8 w=true) (h2:n8 rw=true) (h3:u.cells.size=1/\i8 u.cells) (hO:OpnX dm H n k ms lv who w rw lo hi e):Con prog 9 [stV dm n k ms lv who w rw lo hi,u] H fun r H'=>Pl H H'/\r= .tuple #[zSh,zSh,ii e]:=by
 refine RY h1 h2 h3 fun a c H0 l0 hs _=> ?_;refine Cj mixed yq aB rfl ?_;refine s5 (vs:=(stC dm n k ms lv who w rw lo hi)) Ea rfl rfl hs rfl (show 0+12<=12 by decide) rfl ?_;simp only[cA,nA];exact Av (hO _ l0) rfl (fun _ _ h=>h.elim) ((fun x H' h=>h))
def c4r {st:Int} (h1:n8 w=true) (h2:n8 rw=true) (h3:u.cells.size=1/\i8 u.cells) (wM:ch.cells.size=1/\i8 ch.cells) (hO:OpnX dm H n k ms lv who w rw lo hi e):Con prog 10 [stV dm n k ms lv who w rw lo hi,u,ii st,ch] H fun r H'=>Pl H H'/\∃x y z,r= .tuple #[x,y,z,ii e]/\z.cells.size=1/\i8 z.cells:=by
 refine AK h1 h2 h3 wM fun a s c d H0 l0 hs _ _ _=> ?_;refine Cj mixed kr aB rfl ?_;refine s5 (vs:=(stC dm n k ms lv who w rw lo hi)) Ea rfl rfl hs rfl (show 0+12<=12 by decide) rfl ?_;simp only[cA,nA];exact Av (hO _ l0) rfl (fun _ _ h=>h.elim) ((fun x H' h=>h))
end
section
variable {dm:Dm} {H B:PH} {n k ms lv who:Nat} {es:List (Nat×Nat)} {us:List GS.Un} {w rw u ch:Value} {lo hi e:Int}
def c4s {st:Int} (pU:st<1) (hu:u.cells.size=1/\i8 u.cells) (wM:ch.cells.size=1/\i8 ch.cells) (hM:StM H w rw es us) (hS:StOk dm n k ms lv who es us lo hi) (hz:ms=1->s8 us n=true):Con prog 10 [stV dm n k ms lv who w rw lo hi,u,ii st,ch] H fun r H'=>Pl H H'/\∃x y z,r= .tuple #[x,y,z,ii 2]/\z.cells.size=1/\i8 z.cells:=by
 refine AK (t7 hM.gr) hM.ro.one hu wM fun a s c d H0 l0 ha hs _ _=> ?_;refine Cj mixed kr aB rfl ?_;refine s5 (vs:=(stC dm n k ms lv who w rw lo hi)) Ea rfl rfl ha rfl (show 0+12<=12 by decide) rfl ?_;simp only[cA,nA];refine g5 (Ij (hM.mono l0) hS hz) rfl ?_;rintro _ H1 ⟨l1,b,wts,rfl,hW⟩;refine nmI ?_;simp only[cA,nA];refine i7 sc_int rfl rfl (l1 _ _ hs) rfl rfl ?_;simp only[cA,nA];refine b9 ?_;refine Ah (bT pU) ?_;exact Av (AE (e:=2) aC) rfl (fun _ _ h=>h.elim) ((fun x H' h=>⟨l1.trans h.1,h.2⟩))
def c4t (hM:StM H w rw es us) (hS:StOk dm n k ms lv who es us lo hi) (hz:ms=1->s8 us n=true) (hp:(j8 n k es us lo hi=0/\e=4)\/(400<j8 n k es us lo hi/\e=3)):Con prog 11 [stV dm n k ms lv who w rw lo hi] H fun r H'=>Pl H H'/\r= .tuple #[.slice none 0 0,ii e]:=by
 have hX:∀a H',Pl H H'->H' a=some (.cells (stC dm n k ms lv who w rw lo hi).toArray 30 (0,0))->ConX prog 40 [.pointer (some ⟨a,0,none⟩)] H' (fun _ _=>False) fun x H''=>Pl H' H''/\x=Am e:=by
  intro a H0 l0 hs;refine Cj mixed RG aB rfl ?_;refine j4 (Ji (ok:=Rg) (ke:=shR) Ha rfl) rfl ?_;rintro v1 H1 ⟨l1,o1⟩;refine nmI ?_;simp only[cA,nA];obtain⟨g0,es0,cl0,rfl,zM,sK,hE0,tN⟩:=id o1;refine b4 (Zb g0) ?_;refine s5 (vs:=(stC dm n k ms lv who w rw lo hi)) Ea rfl rfl (l1 _ _ hs) rfl (show 0+12<=12 by decide) rfl ?_;simp only[cA,nA];refine g5 (Ij (hM.mono (l0.trans l1)) hS hz) rfl ?_;rintro _ H2 ⟨l2,b,wts,rfl,hW⟩;refine nmI ?_;simp only[cA,nA];exact Av (AL hW hS hp) rfl (fun _ _ h=>h.elim) ((fun x H' h=>⟨l1.trans (l2.trans h.1),h.2⟩))
 refine g9 mixed RF ?_;refine b4 (Ep (t7 hM.gr) hM.ro.one) ?_;refine o0 (cs:=(stC dm n k ms lv who w rw lo hi).toArray) rfl fun a ha=> ?_;simp only[cA,nA];have la:=PH.le_put ha (.cells (stC dm n k ms lv who w rw lo hi).toArray 30 (0,0));refine x5 (Ai (vs:=[.pointer (some ⟨a,0,none⟩)]) rfl rfl) rfl ?_;simp only[cA,nA];refine g5 (Ol (caps:=[.pointer (some ⟨a,0,none⟩)]) (V:=fun _ _=>False) (XE:=fun e' H'=>e'=e/\Pl H H') mixed Zm jw UF (hX a _ la (PH.put_self _ _ _)) (fun _ _ h=>h.elim) (fun x H' hx=>⟨e,hx.2 ▸ RD,rfl,la.trans hx.1⟩)) rfl ?_;rintro _ H4 hX;refine nmI ?_;simp only[cA,nA];rcases hX with⟨_,h,_⟩|⟨_,⟨rfl,l4⟩,rfl⟩
 ·exact h.elim
 refine g7 (g7 ?_);exact c9 rfl ⟨l4,by show Value.tuple #[rdV prog 39 (Value.slice none 0 0).cells,ii _]=_;rw[RE]⟩
def e1g {ρ:List Value} {x:SV} (hx:(D prog ρ x).cells=foZ.cells):D prog ρ (.sub x 1 16 0 noI)=zSh:=by
 show Value.agg ((D prog ρ x).cells.extract (1+0*x4 (D prog ρ noI)) (1+0*x4 (D prog ρ noI)+16))=_;rw[hx,bY];rfl
def c4u {gb:Bool} (hM:StM H w rw es us) (hS:StOk dm n k ms lv who es us lo hi) (hz:ms=1->s8 us n=true) (hp:(j8 n k es us lo hi=0/\e=4)\/(400<j8 n k es us lo hi/\e=3)):Con prog 12 [stV dm n k ms lv who w rw lo hi,.bool gb] H fun r H'=>Pl H H'/\∃x,r= .tuple #[x,zSh,ii e]:=by
 have hX:∀a c H',Pl H H'->H' a=some (.cells (stC dm n k ms lv who w rw lo hi).toArray 30 (0,0))->ConX prog 43 [.pointer (some ⟨c,0,none⟩),.pointer (some ⟨a,0,none⟩)] H' (fun _ _=>False) fun x H''=>Pl H' H''/\x=Am e:=by
  intro a c H0 l0 hs;refine Cj mixed OG aB rfl ?_;obtain⟨rc0,hrc,a0b,hzf⟩:=QV;refine o0 (cs:= #[Value.slice none 0 0]++rc0) hzf fun f hf=> ?_;simp only[cA,nA];have lf:=PH.le_put hf (.cells (#[.slice none 0 0]++rc0) 108 (0,0));refine x5 (Ai (vs:=[.pointer (some ⟨f,0,none⟩),.pointer (some ⟨c,0,none⟩)]) rfl rfl) rfl ?_;simp only[cA,nA];refine b4 (QX _ _) ?_;refine s5 (vs:=(stC dm n k ms lv who w rw lo hi)) Ea rfl rfl (lf _ _ hs) rfl (show 0+12<=12 by decide) rfl ?_;simp only[cA,nA];refine g5 (Ij (hM.mono (l0.trans lf)) hS hz) rfl ?_;rintro _ H2 ⟨l2,b,wts,rfl,hW⟩;refine nmI ?_;simp only[cA,nA];exact Av (AL hW hS hp) rfl (fun _ _ h=>h.elim) ((fun x H' h=>⟨lf.trans (l2.trans h.1),h.2⟩))
 refine g9 mixed OF ?_;refine b4 (Ep (t7 hM.gr) hM.ro.one) ?_;refine o0 (cs:=(stC dm n k ms lv who w rw lo hi).toArray) rfl fun a ha=> ?_;simp only[cA,nA];have la:=PH.le_put ha (.cells (stC dm n k ms lv who w rw lo hi).toArray 30 (0,0));refine b4 (yn rfl rfl) ?_;refine o0 (cs:= #[.bool gb]) rfl fun c hc=> ?_;simp only[cA,nA];have lc:=PH.le_put hc (.cells #[.bool gb] 4 (0,0));refine x5 (Ai (vs:=[.pointer (some ⟨c,0,none⟩),.pointer (some ⟨a,0,none⟩)]) rfl rfl) rfl ?_;simp only[cA,nA];refine g5 (Ol (caps:=[.pointer (some ⟨c,0,none⟩),.pointer (some ⟨a,0,none⟩)]) (V:=fun _ _=>False) (XE:=fun e' H'=>e'=e/\Pl H H') mixed AB QZ QY (hX a c _ (la.trans lc) (lc _ _ (PH.put_self _ _ _))) (fun _ _ h=>h.elim) (fun x H' hx=>⟨e,hx.2 ▸ d9f,rfl,(la.trans lc).trans hx.1⟩)) rfl ?_;rintro _ H4 hX;refine nmI ?_;simp only[cA,nA];rcases hX with⟨_,h,_⟩|⟨_,⟨rfl,l4⟩,rfl⟩
 ·exact h.elim
 have uR:rdV prog 108 (Value.agg (#[.slice none 0 0]++eZ 16 (.int .u64 0))).cells=foZ:=by unfold rdV;rw[show p8 prog 108=true by kernel_rfl];rfl
 rw[uR];refine g7 (g7 ?_);refine b4 foZ_one ?_;exact c9 (show Value.tuple #[D prog _ (.cell (.pj (.v 5) 0) 0 0 noI),D prog _ (.sub (.pj (.v 5) 0) 1 16 0 noI),D prog _ (.pj (.v 5) 1)]=Value.tuple #[.slice none 0 0,zSh,ii _] by rw[e1g rfl];rfl) ⟨l4,_,rfl⟩
end
section
variable {H:PH} {w wts:Value} {wl:List Int} {n:Nat} {es:List (Nat×Nat)} {lo hi ds z:Int}
def b8A (hw:n8 w=true) (hz:z<1):j5 prog 52 [.agg #[ii z,w]] H (ii 180):=by
 refine g9 mixed JG ?_;refine b4 ⟨rfl,fun c hc=>by have hc:c∈[ii z,w]:=hc;simp only[aX,bV,or_false]at hc;exact hc.elim (fun h=>by rw[h];rfl) (fun h=>by rw[h];exact hw)⟩ ?_;refine b9 ?_;refine Ah (bT (p:=z<1) aA) ?_;exact c9 rfl ⟨Pl.refl _,rfl⟩
def b8B (hw:SG H w es) (hg:GV n es) (hn:n<=12) (pY:SI H wts wl) (e1:wl.length=n) (e2:0<=lo) (e3:hi<lo) (e4:1<=ds) (e5:ds<=8) (e6:∀x∈wl,0<=x/\x<=1000000000):j5 prog 54 [gv n w,bv wts lo hi ds] H (ii 2):=by
 refine g9 mixed KA ?_;refine b4 (Be hw) ?_;refine b4 (Ky (t7 pY) _ _ _) ?_;refine i9 (Fv hw hg) rfl fun H1 l1=> ?_;simp only[cA,nA];refine b9 ?_;refine j1 (bF (p:=(0:Int)≠0) aD) ?_;refine b9 ?_;refine j1 (bF (p:=((n:Nat):Int)>12) aA) ?_;refine r8 el_int (pY.mono l1) ?_;refine b9 ?_;refine j1 (by show Value.bool (((wl.length:Nat):Int) !=((n:Nat):Int))=_;rw[bN,e1];simp) ?_;refine i9 (ig (caps:=[]) (q:=fun x=>decide (x<0)||decide (x>1000000000)) (pY.mono l1) MR (fun H' x _ _=>(MS x).give)) rfl fun H2 l2=> ?_;simp only[cA,nA];have xR:(wl.any fun x=>decide (x<0)||decide (x>1000000000))=false:=by
  rw[List.any_eq_false];intro x hx;have:=e6 x hx;simp;omega
 rw[xR];refine b9 ?_;refine j1 rfl ?_;refine b9 ?_;refine j1 (bF (p:=ds<1) aA) ?_;refine j1 (bF (p:=ds>8) aA) ?_;refine b9 ?_;refine j1 (bF (p:=lo<0) aA) ?_;refine b9 ?_;refine Ah (bT (p:=hi<lo) aA) ?_;exact c9 rfl ⟨l1.trans l2,rfl⟩
end
section
variable {dm:Dm} {H:PH} {w:Value}
def b8C {u:UC} {x:GS.Un} (hw:n8 w=true) (hu:UnR H u x) (hx:UnV dm {x with ppl:=0}) (hg:x.grp=[]) (vR:x.ppl<0) (hwa:x.wat=false):j5 prog 90 [rov dm w,veU u] H (.bool false):=by
 refine g9 mixed JY ?_;have hn:=hu.name;have hp:=hu.ppl;have pY:=hu.wat;have sP:u.name≠[]:=hn ▸ hx.n0;have a4n:u.name.length<=12:=hn ▸ hx.n12;refine b4 (Oi hw) ?_;refine b4 (La u) ?_;refine⟨(fun l H'=>l=[ii (if x.wat then 0 else 1000000000),ii (if x.wat then 0 else 63)]/\H'=H),?_,?_⟩
 ·skip
  refine b9 ?_;refine j1 (by rw[show D prog _ _=Value.bool u.wat from rfl,pY,hwa]) ?_;exact⟨by rw[hwa];rfl,rfl⟩
 rintro vals H' _ ⟨rfl,rfl⟩;simp only[cA,nA];refine j6 ((HJ (l:=u.name) (m:=[]) (vs:=[st u.name,st []]) rfl rfl rfl).rds _) rfl ?_;simp only[cA,nA];refine j6 ((FI (l:=u.name) (vs:=[st u.name]) rfl rfl jf).rds _) rfl ?_;simp only[cA,nA];refine b9 (b9 (b9 ?_));refine i9 (MZ u.name sP aA) rfl fun H1 l1=> ?_;simp only[cA,nA];rw[show Go.Lib.trimS u.name Oh=[]from hn ▸ hx.trm];refine j6 ((FK (l:=[]) (m:=[]) (vs:=[st [],st []]) rfl rfl rfl jf NA).rds _) rfl ?_;simp only[cA,nA];refine i9 (Uy (hu.grp.mono l1) hx.gl (mx:=u.ppl) (fun z hz=>by rw[hg]at hz;cases hz)) rfl fun H2 l2=> ?_;simp only[cA,nA];refine i9 (Uy (hu.vot.mono (l1.trans l2)) hx.vl hx.vz) rfl fun H3 l3=> ?_;simp only[cA,nA];refine i9 (Uy (hu.par.mono ((l1.trans l2).trans l3)) hx.pl hx.pz) rfl fun H4 l4=> ?_;simp only[cA,nA];refine Ba Fe (N:=8) (l:=[!(u.name==[]),decide (((u.name.length:Nat):Int)<=12),([]:List UInt8)==[],decide (u.ppl≥0),decide (u.ppl<=if x.wat then 0 else 1000000000),true,true,true]) (vs:=[.bool (!(u.name==[])),.bool (decide (((u.name.length:Nat):Int)<=12)),.bool (([]:List UInt8)==[]),.bool (decide (u.ppl≥0)),.bool (decide (u.ppl<=if x.wat then 0 else 1000000000)),.bool true,.bool true,.bool true]) rfl aC aC rfl rfl rfl fun v11 H5 l5 o5 _=> ?_;simp only[cA,nA];refine i9 ((Oj o5.se aD).give) rfl fun H6 l6=> ?_;simp only[cA,nA];have e3:decide (u.ppl≥0)=false:=decide_eq_false (by rw[hp];omega);exact c9 rfl ⟨((((l1.trans l2).trans l3).trans l4).trans l5).trans l6,by show Value.bool (List.all _ id)=_;rw[e3];simp⟩
def b8D {us:List GS.Un} {x:GS.Un} (hr:RoR H w us) (h0:us[0]? =some x) (hx:UnV dm {x with ppl:=0}) (hg:x.grp=[]) (vR:x.ppl<0) (hwa:x.wat=false) (tD:dm.g<=6) (pE:dm.p<=12) (hd3:dm.l<=3) (sA:us.length<=64):j5 prog 53 [rov dm w] H (ii 161):=by
 refine g9 mixed JZ ?_;obtain⟨ul,hw,pB,sC⟩:=id hr;have yA:0<us.length:=(aH.1 h0).1;refine b4 (Oi hr.one) ?_;refine r8 el_unit hw ?_;simp only[cA,nA];refine b9 (b9 (b9 (b9 ?_)));refine Ba Fe (N:=8) (l:=[decide (((dm.g:Nat):Int)≥0),decide (((dm.g:Nat):Int)<=6),decide (((dm.p:Nat):Int)≥0),decide (((dm.p:Nat):Int)<=12),decide (((dm.l:Nat):Int)≥0),decide (((dm.l:Nat):Int)<=3),decide (((ul.length:Nat):Int)>0),decide (((ul.length:Nat):Int)<=64)]) (vs:=[.bool (decide (((dm.g:Nat):Int)≥0)),.bool (decide (((dm.g:Nat):Int)<=6)),.bool (decide (((dm.p:Nat):Int)≥0)),.bool (decide (((dm.p:Nat):Int)<=12)),.bool (decide (((dm.l:Nat):Int)≥0)),.bool (decide (((dm.l:Nat):Int)<=3)),.bool (decide (((ul.length:Nat):Int)>0)),.bool (decide (((ul.length:Nat):Int)<=64))]) rfl aC aC rfl rfl rfl fun v2 H1 l1 o1 _=> ?_;simp only[cA,nA];refine i9 ((Oj o1.se aD).give) rfl fun H2 l2=> ?_;simp only[cA,nA];rw[oDd (show((dm.g:Nat):Int)≥0 by omega),oDd (show((dm.g:Nat):Int)<=6 by omega),oDd (show((dm.p:Nat):Int)≥0 by omega),oDd (show((dm.p:Nat):Int)<=12 by omega),oDd (show((dm.l:Nat):Int)≥0 by omega),oDd (show((dm.l:Nat):Int)<=3 by omega),oDd (show((ul.length:Nat):Int)>0 by omega),oDd (show((ul.length:Nat):Int)<=64 by omega)];refine b9 ?_;refine j1 rfl ?_;refine j4 (Ji (ok:=fun l:List UInt8=>l.length<=maxLen) (ke:=st) Yu rfl) rfl ?_;rintro v4 H3 ⟨l3,o3⟩;refine nmI ?_;simp only[cA,nA];have l03:=(l1.trans l2).trans l3;refine r8 el_unit (hw.mono l03) ?_;simp only[cA,nA];refine t6 (α:=Unit) (fun _=>[ii 0,.bool false,ii 0]) (fun _=>fun H'=>H'=H3) (fun _=>0) (()) rfl (rfl) fun _ H' hQ=> ?_;simp only[cA,nA];subst hQ;refine b9 (b9 ?_);refine Ah (bT (p:=(0:Int)<(ul.length:Nat)) aA) ?_;obtain⟨u,hu,_⟩:=u6 (show 0<ul.length by omega);have wO:=(sC 0 u x hu h0).mono l03;refine r6 el_unit (hw.mono l03) hu fun _=> ?_;simp only[cA,nA];refine b4 (La u) ?_;have hnl:u.name.length<=maxLen:=by rw[wO.name];exact bM hx.n12 aC
 refine⟨(fun l Hx=>l=[.bool true]/\Pl H' Hx),?_,?_⟩
 ·skip
  refine j6 (Yt Yu (vs:=[v4,st u.name]) (ok2:=false) (k:=u.name) (u:= .bool false) (b:=false) rfl rfl rfl yf hnl NB o3.mk (.inl ⟨rfl,rfl,fun h=>nomatch h⟩)) rfl ?_;simp only[cA,nA];refine b9 ?_;refine i9 (b8C hr.one wO hx hg vR hwa) rfl fun H6 l6=> ?_;simp only[cA,nA];refine b9 ?_;refine j1 (by rw[show D prog _ _=Value.bool u.wat from rfl,wO.wat,hwa]) ?_;refine b9 ?_;refine j1 (bF (p:=(0:Int)>0) aA) ?_;refine Ba Fe (N:=4) (l:=[false,true,true,!u.wat]) (vs:=[.bool false,.bool true,.bool true,.bool (!u.wat)]) rfl aC aC rfl rfl rfl fun v13 H7 l7 o7 _=> ?_;simp only[cA,nA];refine i9 ((Oj o7.se aD).give) rfl fun H8 l8=> ?_;simp only[cA,nA];refine b9 ?_;exact⟨rfl,(l6.trans l7).trans l8⟩
 rintro vals H5 _ ⟨rfl,l5⟩;simp only[cA,nA];refine b9 ?_;refine Ah rfl ?_;exact c9 rfl ⟨l03.trans l5,rfl⟩
end
end Go.Z
namespace Go.GS
def d5D {n:Nat} {es:List (Nat×Nat)} {wl:List Int} {lo hi ds:Int} {p:List Int} (h:Bl n es wl lo hi ds p=true):1<=ds/\ds<=8/\p.length=n/\LabOk p ds/\Cb p ds.toNat:=by
 unfold Bl at h;rw[aT]at h;exact JU (oDt h.1)
end Go.GS
namespace Go.Z
open Proofs.Tryz RowKit RX GS
section
variable {H H0:PH} {u v w wts:Value} {p q wl t l:List Int} {n c e m bw:Nat} {es:List (Nat×Nat)} {lo hi ds:Int} {set x:Nat}
def SteV (H':PH) (r:Value):Int ⊕ (List Int×Bool×Nat)->Prop
 | .inl e=>e≠0/\r= .tuple #[.slice none 0 0,.bool false,chV 0,ii e]
 | .inr (q,mv,c)=>c<M64/\∃v,r= .tuple #[v,.bool mv,chV c,ii 0]/\SI H' v q
end
end Go.Z
namespace Go.GS
noncomputable def Fj (n:Nat) (es:List (Nat×Nat)) (wl:List Int) (lo hi ds:Int) (p:List Int) (c:Nat):Int ⊕ (List Int×Bool×Nat):=
 if bdE n wl lo hi ds≠0 then .inl (bdE n wl lo hi ds)else if Bl n es wl lo hi ds p=true then .inr (Gj p,false,nxS c)else .inl 8
def e2K (s:Nat):Eu s 1=(0,nxS s,0):=by
 have h:Cf 1 200 s=some (0,nxS s):=by
  show(if Et 1 (drw s)then some (drw s%1,nxS s)else _)=_;rw[if_pos (by unfold Et Oy;simp),Nat.mod_one]
 unfold Eu;rw[if_neg aC,h]
end Go.GS
namespace Go.Z
open Proofs.Tryz RowKit RX GS
section
variable {H H0:PH} {u v w wts:Value} {p q wl t l:List Int} {n c e m bw:Nat} {es:List (Nat×Nat)} {lo hi ds:Int} {set x:Nat}
set_option maxHeartbeats 4000000 in
def c4v {k:Nat} (hb:H bw=some (RwO wts lo hi (k:Nat) n w c 0)) (wM:Chn (r7 H bw) n w wts es wl) (hu:SI (r7 H bw) u q) (hn:n<=9) (hql:q.length=n) (rM:k=2) (hL:LabOk q (k:Nat)) (hU:Cb q k) (hc:c<M64) (hJ:cnB es (Io q (0,1))=false):
  Con prog 78 [.pointer (some ⟨bw,0,none⟩),u] H fun r H'=>Pl (r7 H bw) H'/\H' bw=some (RwO wts lo hi (k:Nat) n w (nxS c) 0)/\SI H' r q:=by
 refine g9 mixed d5b ?_;have zW:1<=k:=aA;have vS:k<=8:=aA;have tD:Dn k=[(0,1)]:=by subst rM;decide
 have pE:(Dn k).length=1:=by rw[tD];rfl
 have sA:n<=64:=aA;have hg:=wM.ok;have hbn:H bw≠none:=by rw[hb];exact fun h=>nomatch h
 have a2q:Pl (H.put bw (RwO wts lo hi (k:Nat) n w c 0)) H:=lu (cut_le H bw) hb;have hL8:LabOk q 8:=⟨fun x hx=>by have:=hL.1 x hx;omega,hL.2⟩;have a4w:∀ca mm:Nat,Ru ca 0 mm=Eu ca mm:=fun ca mm=>if_pos rfl;refine x5 (SX rfl) rfl ?_;simp only[cA,nA];refine j9 ?_;simp only[cA,nA];refine i0 Zw ?_;simp only[cA,nA];refine i0 Og ?_;simp only[cA,nA];refine i0 Yw ?_;simp only[cA,nA];refine i7 sc_int rfl rfl hb rfl rfl ?_;simp only[cA,nA];refine g5 (TV vS) rfl ?_;rintro v8 H1 ⟨l1,h8⟩;refine nmI ?_;simp only[cA,nA];refine Gt el_edge rfl rfl h8.se rfl ?_;simp only[cA,nA];refine j6 ((L4 (a:=((Dn k).length:Nat)) (b:=1) rfl rfl rfl).rds _) rfl ?_;simp only[cA,nA];have a5o:=d5l k vS;rw[show(if(1:Int)<(((Dn k).length:Nat):Int)then(1:Int)else(((Dn k).length:Nat):Int))=((min (Dn k).length 1:Nat):Int) by split<;>omega];have k1:=ly a2q l1;refine t6 (α:=Nat×Nat) (fun⟨i,cc⟩=>[.slice none 0 0,ii (i:Nat)]) (fun⟨i,cc⟩=>fun H'=>(i=0/\cc=c/\H'=H1)) (fun⟨i,cc⟩=>1-i) ((0,c)) rfl ⟨rfl,rfl,rfl⟩ fun⟨i,cc⟩ H' hQ=> ?_;simp only[cA,nA];refine b9 (b9 ?_);refine g8 (b:=decide (((i:Nat):Int)<((min (Dn k).length 1:Nat):Int))) rfl (fun oV=> ?_) (fun oV=> ?_)
 ·replace oV:=oDt oV;obtain⟨rfl,rfl,rfl⟩:i=0/\cc=c/\H'=H1:=hQ;have hLp:0<(Dn k).length:=aA;have yK:=(Hi k1).2;refine j9 ?_;simp only[cA,nA];refine i0 Zw ?_;simp only[cA,nA];refine i0 Og ?_;simp only[cA,nA];refine i0 Yw ?_;simp only[cA,nA];refine i7 sc_int rfl rfl yK rfl rfl ?_;simp only[cA,nA];refine g5 (TV vS) rfl ?_;rintro v18 H2 ⟨l2,h18⟩;refine nmI ?_;simp only[cA,nA];have k2:=ly k1 l2;have h1n:H' bw≠none:=by rw[yK];exact fun h=>nomatch h
  have a4x:=SO.cut h18 h1n;refine j4 (Go.RZ.opn_callw (P:=prog) (ws:=[ii ((Dn k).length:Nat)]) (bs:= #[.pointer (some ⟨bw,0,none⟩)]) (caps:= #[]) (vs:=[fwr bw,ii ((Dn k).length:Nat)]) rfl rfl rfl c8U (c8V (m:=(Dn k).length) (Hi k2).2 hc aA)) rfl ?_;rintro v19 H3 ⟨rfl,l3⟩;refine nmI ?_;simp only[cA,nA];rw[a4w]at l3⊢;have k3:=d5k k2 l3;have pV:Eu cc (Dn k).length=(0,nxS cc,0):=by rw[pE];exact e2K cc
  rw[pV]at l3⊢;have vA:(Dn k)[(0:Nat)]? =some (0,1):=by rw[tD];rfl
  obtain⟨pr,a0u⟩:∃pr:Nat×Nat,pr=(0,1):=⟨_,rfl⟩;rw[<-a0u]at vA;have a5v:=c8K (aJ vA);obtain⟨c1,qL⟩:∃c1,c1=nxS cc:=⟨_,rfl⟩;rw[<-qL]at l3⊢;simp only at l3;refine r6 el_edge (a4x.mono (Hi l3).1) vA fun _=> ?_;simp only[cA,nA];refine b4 (el_edge.vcells pr) ?_;have tR:=(Hi k3).2;have uZ:=hu.mono (Hi k3).1;refine j9 ?_;simp only[cA,nA];refine i0 Zw ?_;simp only[cA,nA];refine i0 Og ?_;simp only[cA,nA];refine i0 Yw ?_;simp only[cA,nA];refine i7 sc_int rfl rfl tR rfl rfl ?_;simp only[cA,nA];refine g5 (ya uZ k zW vS hL hU) rfl ?_;rintro r27 H4 ⟨l4,z,rfl,hz⟩;refine nmI ?_;simp only[cA,nA];have k4:=ly k3 l4;have hb4:=(Hi k4).2;have hc4:=wM.mono (Hi k4).1;refine g7 (g7 ?_);refine r6 el_u64 hz (Ul q q.length (show pr.1<k by omega)) fun _=> ?_;simp only[cA,nA];refine r6 el_u64 hz (Ul q q.length (show pr.2<k by omega)) fun _=> ?_;simp only[cA,nA];refine b9 (b9 ?_);refine j9 ?_;simp only[cA,nA];refine i0 Zw ?_;simp only[cA,nA];refine i0 yb ?_;simp only[cA,nA];refine s5 (vs:=[ii n,w]) yc rfl rfl hb4 rfl (show 0+0+4+2<=8 by omega) rfl ?_;simp only[cA,nA];have vC:=gw q (pr.1:Nat) (m:=q.length) aA;have zA:=gw q (pr.2:Nat) (m:=q.length) aA;have a4y:=wi q (pr.1:Nat) (m:=q.length) aA;have a4z:=wi q (pr.2:Nat) (m:=q.length) aA;have sC:Io q pr<2^n:=by unfold Io Fz;rw[<-hql];exact dH vC zA
  have a5w:Io q pr≠0:=fun e=>by
   have h1:bit (Io q pr)=bit 0:=by rw[e]
   obtain⟨x,g1,_⟩:=gq (a:=0) (b:=Fz q (pr.1:Nat)) (fun e=>hU pr.1 aA e.symm) (fun y hy=>by rw[Ej]at hy;cases hy);have h2:=congrFun h1 x;rw[Ej,Io,d8O,g1]at h2;cases h2
  have a5a:=we sA sC;refine i9 (JW hc4.tb hc4.gr hg a5a) (j0 rfl (Fq rfl rfl a4y a4z)) fun H5 l5=> ?_;simp only[cA,nA];rw[show Yo n es (Io q pr)= .tuple #[.bool (cnB es (Io q pr)),ii 0]from if_pos sC];have k5:=ly k4 l5;have hb5:=(Hi k5).2;refine g7 (g7 (b9 ?_));refine g8 (b:= !cnB es (Io q pr)) rfl (fun g1=> ?_) (fun g1=> ?_)
  ·skip
   exact c9 rfl ⟨(Hi k5).1,by rw[hb5,pV,qL],hu.mono (Hi k5).1⟩
  ·skip
   rw[a0u,hJ]at g1;cases g1
 ·replace oV:=oDf oV;exact absurd oV (by obtain⟨rfl,_⟩:=hQ;rw[pE];decide)
set_option maxHeartbeats 1000000 in
def UG (hT:Tb H) (hw:SG H w es) (hg:GV n es) (pY:SI H wts wl) (hu:SI H u p) (hn:n<=9) (hc:c<M64) (hJ:Bl n es wl lo hi ds p=true->ds=2/\cnB es (Io (Gj p) (0,1))=false):Con prog 39 [gv n w,bv wts lo hi ds,u,chV c] H fun r H'=>Pl H H'/\SteV H' r (Fj n es wl lo hi ds p c):=by
 refine g9 mixed c7l ?_;refine b4 (Be hw) ?_;refine b4 (Ky (t7 pY) _ _ _) ?_;refine b4 (Hh c) ?_;refine i9 (MH hw hg pY) rfl fun H1 l1=> ?_;simp only[cA,nA];refine b9 ?_;refine y7 (p:=(bdE n wl lo hi ds≠0)) (bN _ _) (fun h=> ?_) fun h=> ?_
 ·exact c9 (by show Value.tuple #[.slice none 0 0,.bool false,j3 prog _,ii (bdE n wl lo hi ds)]=_;rw[ll]) ⟨l1,by unfold Fj;rw[if_pos h];exact⟨h,rfl⟩⟩
 ·have uU:bdE n wl lo hi ds=0:=bW h;have sU:=MD uU;have wY:Fj n es wl lo hi ds p c=if Bl n es wl lo hi ds p=true then .inr (Gj p,false,nxS c)else .inl 8:=by unfold Fj;rw[if_neg h]
  refine o0 (cs:=rwc wts lo hi ds n w c 0) (by show(Value.agg ((Value.agg ((bv wts lo hi ds).cells++(gv n w).cells)).cells++(Value.agg ((chV c).cells++(j3 prog 36).cells)).cells)).cells=_;rw[SQ];rfl) fun bw vZ=> ?_;simp only[cA,nA];have hB:∃B:PH,H1.put bw (RwO wts lo hi ds n w c 0)=B/\B bw=some (RwO wts lo hi ds n w c 0)/\Pl H1 (r7 B bw):=⟨_,rfl,PH.put_self _ _ _,fun k o hk=>by
   unfold r7;have e:k≠bw:=fun e=>by subst e;rw[vZ]at hk;cases hk
   rw[if_neg e,PH.put_ne _ _ e];exact hk⟩
  obtain⟨B,hBe,xY,hBc⟩:=hB;show den prog _ _ _ _ _ (H1.put bw (RwO wts lo hi ds n w c 0));rw[hBe];have l1c:=l1.trans hBc;have l1B:=l1c.trans (cut_le B bw);have a5b:Chn B n w wts es wl:=⟨hT.mono l1B,hw.mono l1B,hg,pY.mono l1B,sU.1,sU.2.2.2.2.2⟩;refine j9 ?_;simp only[cA,nA];refine i0 Zw ?_;simp only[cA,nA];refine s5 (vs:=[wts,ii lo,ii hi,ii ds,ii n,w]) MG rfl rfl xY rfl (show 0+0+6<=8 by omega) rfl ?_;simp only[cA,nA];refine i9 (MJ (lo:=lo) (hi:=hi) (ds:=ds) a5b (hu.mono l1B)) rfl fun H2 l2=> ?_;simp only[cA,nA];refine b9 ?_;refine g8 (b:= !Bl n es wl lo hi ds p) rfl (fun g1=> ?_) (fun g1=> ?_)
  ·skip
   exact c9 (by show Value.tuple #[.slice none 0 0,.bool false,j3 prog _,ii 8]=_;rw[ll]) ⟨l1B.trans l2,by rw[wY,if_neg (by simpa using g1)];exact⟨aC,rfl⟩⟩
  ·skip
   have sX:Bl n es wl lo hi ds p=true:=by simpa using g1
   rw[if_pos sX]at wY;obtain⟨f1,f2,f3,f4,f5⟩:=d5D sX;obtain⟨hj1,uY⟩:=hJ sX;obtain⟨k,rfl⟩:∃k:Nat,ds=(k:Int):=⟨ds.toNat,aA⟩;rw[bO]at f5;have hL8:LabOk p 8:=⟨fun x hx=>by have:=f4.1 x hx;omega,f4.2⟩;refine g5 (c8T (hu.mono (l1B.trans l2)) hL8) rfl ?_;rintro r10 H3 ⟨l3,z,rfl,hz⟩;refine nmI ?_;simp only[cA,nA];have pS:=l2 _ _ xY;have tR:=l3 _ _ pS;have hzc:=SO.cut (b:=bw) hz (by rw[pS];exact fun h=>nomatch h);have sE:Pl H (r7 H3 bw):=fun j o hj=>by
    have h1:=l1c _ _ hj;have e:j≠bw:=fun e=>by subst e;unfold r7 at h1;rw[if_pos rfl]at h1;cases h1
    unfold r7 at h1⊢;rw[if_neg e]at h1⊢;exact l3 _ _ (l2 _ _ h1)
   refine g7 (g7 ?_);refine g5 (c4v tR ⟨hT.mono sE,hw.mono sE,hg,pY.mono sE,sU.1,sU.2.2.2.2.2⟩ hzc hn (by rw[AZ];exact f3) aA (c3R f4 f5) (b8z f4 f5) hc uY) rfl ?_;rintro v11 H5 ⟨l5,hb5,tU⟩;refine nmI ?_;simp only[cA,nA];refine j9 ?_;simp only[cA,nA];refine i0 BJ ?_;simp only[cA,nA];refine i7 BH rfl rfl hb5 rfl rfl ?_;simp only[cA,nA];refine b9 ?_;refine j1 (bN0 0) ?_;refine j9 ?_;simp only[cA,nA];refine i0 BI ?_;simp only[cA,nA];refine s5 (vs:=[uv (nxS c)]) lp rfl rfl hb5 rfl (show 0+6+1<=8 by omega) rfl ?_;simp only[cA,nA];have hsq:=mh (hzc.mono l5) tU;rw[show decide (Gj p=Gj p)=true from oDd rfl]at hsq;refine s7 hsq rfl ?_;simp only[cA,nA];refine b9 ?_;refine b4 (Hh (nxS c)) ?_;exact c9 rfl ⟨sE.trans l5,by rw[wY];exact⟨kz c,v11,rfl,tU⟩⟩
end
end Go.Z

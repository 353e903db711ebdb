/- Words to the base 2^64: plain. -/
import Derived.Test.YtmannekkmdockaaGreatDoorWdK
open Bool renaming and_false->nW,and_true->oJ,eq_iff_iff->bH,false_and->nX,false_eq_true->cN,not_false->jD,not_true->oH,true_bne->oI
open Int renaming ediv_emod_unique->mJ,mul_comm->oS,natCast_mul->jH,neg_mul_neg->nV,ofNat_tdiv->oG,ofNat_tmod->jO
open List renaming getD_cons_zero->mI,getD_eq_getElem?_getD->aB,getElem?_map->aO,length_cons->bA,length_set->bD,length_take->cB,nil_append->bV,replicate->bC,take_of_length_le->aK
open Nat renaming add_mul->cP,div_add_mod'->gW,le_antisymm->nU,le_of_lt->oR,lt_of_le_of_lt->aY,lt_of_lt_of_le->bK,lt_or_ge->eV,min_eq_left->cD,mod_eq_of_lt->bR,mod_lt->bO,mul_add->cS,mul_assoc->cH,mul_comm->cE,mul_div_mul_right->lX,mul_le_mul->cI,mul_le_mul_left->dA,mul_le_mul_right->dX,mul_one->eS,one_mul->dS,pow_add->dG,pow_le_pow_right->aU,zero_add->bM
namespace Go.WD
open Go.RX
theorem PW_lt_iff {i j:Nat}:PW i<PW j↔i<j:=by
 constructor
 ·intro h;rcases eV i j with h1|h1
  ·exact h1
  ·have:=Qv h1;omega
 ·intro h;have h1:=Qv (show i+1<=j from h);have h2:=Ec i;rw[Ab]at h1;omega
def ul:List Nat->Nat
 |[]=>0
 |d::l=>d+18446744073709551616*ul l
def Eg (l:List Nat):Prop:=∀d∈l,d<18446744073709551616
theorem Eg.one {d:Nat} (h:d<18446744073709551616):Eg [d]:=fun e he=>by rw[List.mem_singleton]at he;omega
theorem Eg.take {l:List Nat} (h:Eg l) (k:Nat):Eg (l.take k):=fun d hd=>h d (List.mem_of_mem_take hd)
theorem Eg.set {l:List Nat} (h:Eg l) (k:Nat) {x:Nat} (hx:x<18446744073709551616):Eg (l.set k x):=fun d hd=>by
 rcases List.mem_or_eq_of_mem_set hd with h1|h1
 ·exact h d h1
 ·omega
theorem Eg.zeros (n:Nat):Eg (bC n 0):=fun d hd=>by rw[List.mem_replicate]at hd;omega
theorem Eg.at {l:List Nat} (h:Eg l) (k:Nat):l.getD k 0<18446744073709551616:=by
 rw[aB];cases e:l[k]? with
 |none=>simp
 |some d=>exact h d (List.mem_of_getElem? e)
theorem uc:∀(a b:List Nat),ul (a++b)=ul a+PW a.length*ul b
 |[],b=>by simp[ul,Lc]
 |d::a,b=>by
  rw[List.cons_append,ul,ul,uc a b,bA,Ab,cS,<-Nat.add_assoc,<-cH,cE (PW a.length)]
theorem ud (d:Nat):ul [d]=d:=by simp[ul]
theorem Ik:∀{l:List Nat},Eg l->ul l<PW l.length
 |[],_=>by simp[ul,Lc]
 |d::l,h=>by
  have h1:=Ik (l:=l) fun e he=>h e (by simp[he]);have h2:=h d (by simp);rw[ul,bA,Ab];omega
theorem Re:∀n,ul (bC n 0)=0
 |0=>rfl
 |n+1=>by rw[List.replicate_succ,ul,Re n]
theorem Ur {l:List Nat} {k:Nat} (h:k<l.length):ul (l.take (k+1))=ul (l.take k)+PW k*l.getD k 0:=by
 rw[A0 h,uc,ud,cB,cD (by omega)]
theorem ue {l:List Nat} {k:Nat} (h:k<l.length):ul (l.drop k)=l.getD k 0+18446744073709551616*ul (l.drop (k+1)):=by
 rw[fk h];rfl
theorem uf (l:List Nat) {k:Nat} (h:k<=l.length):ul l=ul (l.take k)+PW k*ul (l.drop k):=by
 have:=uc (l.take k) (l.drop k)
 rwa[List.take_append_drop,cB,cD h]at this
theorem Jv:∀{l:List Nat} {k:Nat} (x:Nat),k<l.length->ul (l.set k x)+PW k*l.getD k 0=ul l+PW k*x
 |[],k,x,h=>by simp at h
 |d::l,0,x,_=>by simp[ul,Lc];omega
 |d::l,k+1,x,h=>by
  have ih:=Jv (l:=l) (k:=k) x (by simpa using h);have e:(d::l).getD (k+1) 0=l.getD k 0:=rfl;rw[List.set_cons_succ,ul,ul,e,Ab,cE (PW k),cH,cH];have h1:18446744073709551616*ul (l.set k x)+18446744073709551616*(PW k*l.getD k 0)=18446744073709551616*ul l+18446744073709551616*(PW k*x):=by rw[<-cS,ih,cS]
  omega
def Um (l:List Nat):Prop:=∀k,ul l<PW k->l.length<=k
theorem Um.nil:Um []:=fun _ _=>Nat.zero_le _
theorem E3 {l:List Nat} {n:Nat} (hl:l.length=n+1) (h:l.getD n 0≠0):PW n<=ul l:=by
 have h1:=Ur (l:=l) (k:=n) (by omega);rw[aK (by omega)]at h1;have:=dA (PW n) (show 1<=l.getD n 0 by omega);omega
theorem Um.of {l:List Nat} {n:Nat} (hl:l.length=n+1) (h:l.getD n 0≠0):Um l:=fun k hk=>by
 have:=PW_lt_iff.1 (aY (E3 hl h) hk);omega
theorem Um.ge {l:List Nat} (h:Um l) {n:Nat} (hl:l.length=n+1):PW n<=ul l:=by
 rcases eV (ul l) (PW n)with h1|h1
 ·have:=h n h1;omega
 ·exact h1
theorem Um.len_le {a b:List Nat} (ha:Um a) (hb:Eg b) (h:ul a<=ul b):a.length<=b.length:=ha _ (aY h (Ik hb))
theorem Um.lt_of_len {a b:List Nat} (ha:Eg a) (hb:Um b) (h:a.length<b.length):ul a<ul b:=by
 obtain⟨n,hn⟩:∃n,b.length=n+1:=⟨b.length-1,by omega⟩;exact bK (Ik ha) (Nat.le_trans (Qv (by omega)) (hb.ge hn))
theorem Um.pos {l:List Nat} (h:Um l):0<l.length↔0<ul l:=by
 constructor
 ·intro hl;obtain⟨n,hn⟩:∃n,l.length=n+1:=⟨l.length-1,by omega⟩;exact bK (Ec n) (h.ge hn)
 ·intro hv;cases l with
  |nil=>simp[ul]at hv
  |cons d l=>simp
theorem HF {a b:List Nat} {i:Nat} (ha:Eg a) (hb:Eg b) (hia:i<a.length) (hib:i<b.length) (hd:a.drop (i+1)=b.drop (i+1)) (h:a.getD i 0<b.getD i 0):ul a<ul b:=by
 have e1:=uf a (show i+1<=a.length by omega);have e2:=uf b (show i+1<=b.length by omega);have f1:=Ur hia;have f2:=Ur hib;have g1:=Ik (ha.take i);rw[cB,cD (by omega)]at g1;have h2:=dA (PW i) (show a.getD i 0+1<=b.getD i 0 from h);rw[cS]at h2;rw[hd]at e1;omega
end Go.WD
/- The reference of chapter 01: cut, made, order. -/
namespace Go.Proofs.Z
open Go.Proofs.Tryz
open Go.RowKit Go.RX Go.WD
theorem Yj {a b:Nat} (h:a+b<9223372036854775808):IntKind.i64.wrap ((a:Int)+(b:Int))=((a+b:Nat):Int):=by rw[IntKind.wrap_i64];omega
theorem Ll {a:Nat} (h:a+1<9223372036854775808):IntKind.i64.wrap ((a:Int)+1)=((a+1:Nat):Int):=by rw[IntKind.wrap_i64];omega
theorem HG {a:Nat} (h:a<9223372036854775808) (hb:1<=a):IntKind.i64.wrap ((a:Int)-1)=((a-1:Nat):Int):=by rw[IntKind.wrap_i64];omega
theorem Ln {z:Int} (h: -9223372036854775808<=z) (h2:z<9223372036854775808):IntKind.i64.wrap z=z:=by rw[IntKind.wrap_i64];omega
section
variable {H:PH} {v:Value} {l:List Nat}
def sn (b:Bool) (n:Nat):Int:=if b then -(n:Int)else n
end
open Go.RowKit Go.RX Go.WD
theorem wu {a:Nat} (h:a<18446744073709551616):IntKind.u64.wrap (a:Int)=(a:Int):=by rw[IntKind.wrap_u64];omega
end Go.Proofs.Z
/- Slices of words in memory. -/
namespace Go.Proofs.Z
open Go.Proofs.Tryz
open Go.RowKit Go.RX Go.WD
def uv (d:Nat):Value:= .int .u64 (d:Nat)
theorem E4 (f:Nat->Value) (d:Nat):Instr.fill (fun j=>some (j*1,1)) ((Array.range (1*1)).map f) [(0,uv d)]=some #[uv d]:=by
 rw[B6];simp[Instr.fill,uv,FK]
def Es (H:PH) (v:Value) (l:List Nat):Prop:=Sl H 1 v l.length (l.map uv)/\Eg l
def Eo (H0 H:PH) (v:Value) (l:List Nat):Prop:=OwS H0 H 54 1 v l.length (l.map uv)/\Eg l
theorem Es.mono {H H':PH} {v:Value} {l:List Nat} (h:Es H v l) (hl:PH.le H H'):Es H' v l:=⟨h.1.mono hl,h.2⟩
theorem Eo.mono {H0 H H':PH} {v:Value} {l:List Nat} (h:Eo H0 H v l) (hl:PH.le H H'):Eo H0 H' v l:=⟨h.1.mono hl,h.2⟩
theorem Eo.es {H0 H:PH} {v:Value} {l:List Nat} (h:Eo H0 H v l):Es H v l:=⟨h.1.sl,h.2⟩
def Mu (H:PH) (v:Value) (n:Nat):Prop:=∃l,Es H v l/\Um l/\ul l=n
theorem Mu.mono {H H':PH} {v:Value} {n:Nat} (h:Mu H v n) (hl:PH.le H H'):Mu H' v n:=by
 obtain⟨l,h1,h2⟩:=h;exact⟨l,h1.mono hl,h2⟩
theorem Es.cells {H:PH} {v:Value} {l:List Nat} (h:Es H v l):v.cells= #[v]:=by
 obtain⟨⟨_,a,c,h2,_⟩,_⟩:=h;rw[h2];rfl
theorem Es.one {H:PH} {v:Value} {l:List Nat} (h:Es H v l):v.cells.size=1/\s8 v.cells:=by
 rw[h.cells];obtain⟨⟨_,a,c,h2,_⟩,_⟩:=h;refine⟨rfl,fun c hc=> ?_⟩;simp at hc;rw[hc,h2];rfl
theorem E5 {l:List Nat} {i:Nat} (h:i<l.length):((l.map uv).drop (i*1)).take 1=[uv (l.getD i 0)]:=by
 rw[eS,<-List.map_drop,fk h];rfl
theorem Us:prog.cellsOf 54=1:=by kernel_rfl
theorem Lo:z7 prog 54=true:=by kernel_rfl
theorem HH:Aw prog 54=false:=by kernel_rfl
theorem Lq:prog.underlying 76=some (.slice 54):=by kernel_rfl
theorem fx:∃i,prog.info? 54=some i/\i.zero=some (.int .u64 0)/\i.size=1/\i.bytes=8:=by
 refine⟨(prog.info? 54).getD default,by kernel_rfl,by kernel_rfl,by kernel_rfl,by kernel_rfl⟩
section
variable {G:Value->PH->Prop} {nx:List (List Value->PH->Prop)} {ρ:List Value} {H H0:PH} {o o1 o2:Oper} {x y x2 y2:Operand} {id i id2 i2:Nat} {args args2:List SV} {t:Tree} {v:Value} {l:List Nat}
theorem Bm (ho:o.op= .call ⟨.builtin .len,#[x],#[76]⟩) (hx:g9 [x] [v] x=v) (h:Es H v l) (ha:args.map (D prog ρ)=[v]) (n:den prog G t nx (ρ++[iv l.length]) H):den prog G (.prim id i o args t) nx ρ H:=
 r7 ((rl ho hx Lq h.1).rds H) ha n
theorem Ey {k:IntKind} {j:Nat} (tZ:o1.op= .indexAddr 76 x y) (uA:o2.op= .load 54 x2) (hx:g9 [x,y] [v,.int k (j:Nat)] x=v) (hy:g9 [x,y] [v,.int k (j:Nat)] y= .int k (j:Nat)) (rR:∀p,g9 [x2] [p] x2=p) (h:Es H v l) (hj:j<l.length)
  (ha:args.map (D prog ρ)=[v,.int k (j:Nat)]) (rX:∀p,args2.map (D prog (ρ++[p]))=[p]) (n:∀p,den prog G t nx (ρ++[p]++[uv (l.getD j 0)]) H):den prog G (.prim id i o1 args (.prim id2 i2 o2 args2 t)) nx ρ H:=by
 obtain⟨b,q,cs,T',fz,h1,h2,h3,h4⟩:=rn (P:=prog) tZ hx hy Lq Lo Us Nat.zero_lt_one h.1 hj;rw[E5 hj]at h4;exact r7 (h1.rds H) ha (r7 (rx uA (rR _) h2 Lo HH Us h3 h4) (rX _) (n _))
theorem Lr {k:IntKind} {j d:Nat} {pf:Bool} (tZ:o1.op= .indexAddr 76 x y) (uA:o2.op= .store 54 x2 y2) (hx:g9 [x,y] [v,.int k (j:Nat)] x=v) (hy:g9 [x,y] [v,.int k (j:Nat)] y= .int k (j:Nat)) (rR:∀p,g9 [x2,y2] [p,uv d] x2=p) (wC:∀p,g9 [x2,y2] [p,uv d] y2=uv d)
  (pP:PH.le H0 H) (h:Eo H0 H v l) (hj:j<l.length) (hd:d<18446744073709551616) (ha:args.map (D prog ρ)=[v,.int k (j:Nat)]) (rX:∀p,args2.map (D prog (ρ++[p]))=[p,uv d]) (vB:pf=false)
  (n:∀p u H',PH.le H0 H'->Eo H0 H' v (l.set j d)->(∃g ob,H0 g=none/\H'=H.put g ob)->den prog G t nx (ρ++[p]++[u]) H'):den prog G (.prim id i o1 args (.eff pf id2 i2 o2 args2 t)) nx ρ H:=by
 obtain⟨⟨pR,hv⟩,hD⟩:=h;rcases hv with⟨_,h0⟩|⟨g,cap,cur,rfl,sN,hg,hnc,uW,qI,zA⟩
 ·omega
 rw[eS]at qI zA;have zZ:=rk (P:=prog) (m:=(j:Int)) (n:=l.length) tZ hx hy Lq Lo (by omega) (by omega);rw[Int.toNat_natCast,Us,bM,eS]at zZ;refine r7 (zZ.rds H) ha (r4 (Ug uA (rR _) (wC _) hg Lo (by rw[Us];omega) (by rw[Us];rfl) (FS _ _)) (rX _) ?_);rintro u H' ⟨rfl,rfl⟩;subst vB;have uR:(uv d).cells.toList=[uv d]:=rfl;rw[uR];refine⟨fun h=>(nomatch h),n _ _ _ ?_ ⟨⟨by simp,.inr ⟨g,cap,_,by rw[bD],sN,PH.put_self _ _ _,by rw[bD];exact hnc,uW,?_,?_⟩⟩,hD.set j hd⟩ ⟨g,_,sN,rfl⟩⟩
 ·intro k ob hk;rw[PH.put_ne _ _ (fun e=>by rw[e,sN]at hk;cases hk)];exact pP _ _ hk
 ·show(cur.setIfInBounds j (uv d)).size=_;rw[Array.size_setIfInBounds,qI,eS]
 ·show(cur.setIfInBounds j (uv d)).toList.take _=_;rw[Array.toList_setIfInBounds,eS,bD,List.take_set,zA,List.map_set]
theorem HI {g n:Nat} {cs:Array Value} {l:List Nat} (hg:H g=none) (hl:l.length=n) (hn:n<=maxLen) (hc:cs.toList=l.map uv) (hD:Eg l):Eo H (H.put g (.cells cs 54 (0,0))) (.slice (some ⟨g,0,none⟩) n n) l:=by
 have hs:cs.size=n:=by rw[<-Array.length_toList,hc,List.length_map,hl]
 refine⟨⟨by simp,.inr ⟨g,n,cs,by rw[hl],hg,PH.put_self _ _ _,by omega,hn,by omega,?_⟩⟩,hD⟩;rw[hc,aK (by simp)]
theorem Yk {kl kc:IntKind} {pf:Bool} {m:Nat} (ho:o.op= .makeSlice 76 x y) (hx:g9 [x,y] [.int kl (m:Nat),.int kc (m:Nat)] x= .int kl (m:Nat)) (hy:g9 [x,y] [.int kl (m:Nat),.int kc (m:Nat)] y= .int kc (m:Nat)) (hm:m<=1000000) (ha:args.map (D prog ρ)=[.int kl (m:Nat),.int kc (m:Nat)])
  (n:∀v H',PH.le H H'->Eo H H' v (bC m 0)->den prog G t nx (ρ++[v]) H'):den prog G (.eff pf id i o args t) nx ρ H:=by
 obtain⟨ti,h1,h2,h3,h4⟩:=fx;refine r4 (ry ho hx hy Lq h1 h2 h3 (by rw[h4];omega) (by simp only[maxLen];omega)) ha ?_;rintro v H' ⟨g,hg,rfl,rfl⟩;refine⟨fun _=>PH.le_put hg _,n _ _ (PH.le_put hg _) (HI hg (by simp) (by simp only[maxLen];omega) ?_ (Eg.zeros m))⟩;rw[eS];show(madeCells #[.int .u64 0] m).toList=_;apply List.ext_getElem?;intro j;rw[aO,List.getElem?_replicate];simp only[madeCells,Array.toList_map,aO,Array.toList_range];by_cases hj:j<m
 ·simp[hj,Nat.mod_one,uv]
 ·simp[hj]
theorem HJ {d:Nat} {pf:Bool} (ho:o.op= .buildSlice 76 1 #[(0,x)]) (hx:g9 [x] [uv d] x=uv d) (hd:d<18446744073709551616) (ha:args.map (D prog ρ)=[uv d])
  (n:∀v H',PH.le H H'->Eo H H' v [d]->den prog G t nx (ρ++[v]) H'):den prog G (.eff pf id i o args t) nx ρ H:=by
 obtain⟨ti,h1,h2,h3,h4⟩:=fx;refine r4 (sd (cells:= #[uv d]) ho Lq h1 h2 (by rw[h3];decide) (by rw[h3];decide) (by rw[h3];simp only[List.map_cons,List.map_nil,hx];exact E4 _ d)) ha ?_;rintro v H' ⟨g,hg,rfl,rfl⟩;exact⟨fun _=>PH.le_put hg _,n _ _ (PH.le_put hg _) (HI hg rfl (by simp only[maxLen];omega) rfl (Eg.one hd))⟩
end
end Go.Proofs.Z
/- Contracts: bits.Div64. -/
namespace Go.Proofs.Z
open Go.Proofs.Tryz
open Go.RowKit Go.RX Go.WD Go.IntWalk
theorem Yl (a s:Nat) (h:s<=64):IntKind.u64.wrap ((a:Int)*2^min s (IntKind.bits .u64))=((a*2^s%18446744073709551616:Nat):Int):=by
 rw[show min s (IntKind.bits .u64)=s from cD h,show(2:Int)^s=((2^s:Nat):Int)from by simp,Og,HB]
theorem Gz (a b:Nat) (h:b<=a) (ha:a<18446744073709551616):IntKind.u64.wrap ((a:Int)-(b:Int))=((a-b:Nat):Int):=by
 rw[show(a:Int)-(b:Int)=((a-b:Nat):Int)from by omega,Bw _ (by omega)]
theorem ug (a b:Nat) (ha:a<18446744073709551616):IntKind.u64.wrap ((a:Int).tdiv (b:Int))=((a/b:Nat):Int):=by
 rw[<-oG,Bw];exact aY (Nat.div_le_self _ _) ha
def qt (u n y1 y0:Nat):Nat:=(u*4294967296+n)/(y1*4294967296+y0)
section
variable {y1 y0 u n q r:Nat}
theorem fy (hy:y1<4294967296) (h0:y0<4294967296) (hp:0<y1) (hu:u=q*y1+r) (hQ:qt u n y1 y0<q) (hq:q<=4294967297):u=(q-1)*y1+(r+y1)/\qt u n y1 y0<=q-1/\(4294967296<=r+y1->q-1=qt u n y1 y0):=by
 obtain⟨p,rfl⟩:∃p,q=p+1:=⟨q-1,by omega⟩;have e:u=p*y1+(r+y1):=by rw[hu,cP,dS];omega
 refine⟨e,by omega,fun hb=> ?_⟩;have h1:p<=qt u n y1 y0:=ua (n:=n) (y0:=y0) e hp (by
  have:p*y0<=4294967296*4294967295:=cI (by omega) (by omega);omega)
 show p=_;omega
end
theorem HK {q r y0 n:Nat} (hq:q<4294967296) (hr:r<4294967296) (h0:y0<4294967296) (hn:n<4294967296):q*y0<18446744073709551616/\4294967296*r<18446744073709551616/\4294967296*r+n<18446744073709551616:=by
 have:=cI (show q<=4294967295 by omega) (show y0<=4294967295 by omega);omega
theorem HL {u n q y:Nat} (pP:q*y<=u*4294967296+n) (pO:u*4294967296+n-q*y<18446744073709551616):IntKind.u64.wrap (IntKind.u64.wrap (IntKind.u64.wrap (((u*4294967296:Nat):Int))+(n:Int))-IntKind.u64.wrap ((q*y:Nat):Int))=((u*4294967296+n-q*y:Nat):Int):=by
 simp only[IntKind.wrap_u64];omega
theorem HN {a c:Nat} (ha:a<4294967296) (hc:c<4294967296):a*4294967296<18446744073709551616/\a*4294967296+c<18446744073709551616:=by omega
theorem E6 (u n1 n0:Nat):u*18446744073709551616+(n1*4294967296+n0)=(u*4294967296+n1)*4294967296+n0:=by omega
theorem b32:(4294967296:Int)=((4294967296:Nat):Int):=rfl
theorem one1:(1:Int)=((1:Nat):Int):=rfl
set_option maxRecDepth 100000 in
set_option maxHeartbeats 4000000 in
theorem E7 (hi lo y:Nat) (hhi:hi<y) (hlo:lo<18446744073709551616) (hy:y<18446744073709551616):Det prog 237 [.int .u64 hi,.int .u64 lo,.int .u64 y] (.tuple #[.int .u64 (((hi*18446744073709551616+lo)/y:Nat):Int),.int .u64 (((hi*18446744073709551616+lo)%y:Nat):Int)]):=by
 refine Fv mixed A8 (by kernel_rfl) rfl (j6 ⟨_,rfl⟩ (j6 ?_ (j6 ⟨_,rfl⟩ (j6 ?_ ?_))))
 ·show Value.bool ((y:Int)==0)= .bool false;congr 1;simp;omega
 ·show Value.bool (decide ((y:Int)<=(hi:Int)))= .bool false;congr 1;simp;omega
 refine Da (b:=decide (hi=0)) ?_ (fun h=> ?_) (fun h=> ?_)
 ·show Value.bool ((hi:Int)==0)=_;congr 1;rw[bH];simp
 ·have h:=oDt h;subst h;refine j6 ⟨_,rfl⟩ (j6 ?_ (Cf ?_ rfl))
  ·show(y:Int)≠0;omega
  ·simp only[rxs,Bv,ug lo y hlo,Nat.zero_mul,bM,<-jO]
 have h:=oDf h;obtain⟨l0,l1⟩:=Yg (x:=y) (by omega);have l2:=Yf y;have l3:blen y<=64:=blen_le hy;obtain⟨s,hs⟩:∃s,s=64-blen y:=⟨_,rfl⟩;have a1b:s<=63:=by omega
 have sO:0<2^s:=Nat.pow_pos (by omega);have hlz:=HE y hy;rw[<-hs]at hlz;have hY1:y*2^s<18446744073709551616:=by
  have:=Nat.mul_lt_mul_of_lt_of_le l2 (Nat.le_refl (2^s)) sO
  rwa[<-dG,show blen y+s=64 from by omega]at this
 have hY0:9223372036854775808<=y*2^s:=by
  have:=dX (2^s) l1
  rwa[<-dG,show blen y-1+s=63 from by omega]at this
 have hH:hi*2^s+2^s<=y*2^s:=by
  have:=dX (2^s) hhi
  rwa[Nat.succ_mul]at this
 have hL:=HA hlo (r:=s) (by omega);have hU:(hi*18446744073709551616+lo)*2^s=(hi*2^s+lo/2^(64-s))*18446744073709551616+lo*2^s%18446744073709551616:=by
  have e1:lo*2^s/18446744073709551616=lo/2^(64-s):=by
   rw[ft (r:=s) (by omega),lX _ _ sO]
  have e2:=Nat.div_add_mod (lo*2^s) 18446744073709551616;rw[e1]at e2;rw[cP,cP,Nat.mul_right_comm];omega
 have a2k:=bO (lo*2^s) (show 0<18446744073709551616 by omega);have vP:(hi*2^s%18446744073709551616)|||(lo/2^(64-s))=hi*2^s+lo/2^(64-s):=by
  rw[bR (by omega),GZ hL]
 generalize hYd:y*2^s=Y at hY1 hY0 hH;generalize hUd:hi*2^s+lo/2^(64-s)=u at hU vP;have huY:u<Y:=by omega
 generalize sJ:lo*2^s%18446744073709551616=n at hU a2k;have hYs:Y/4294967296*4294967296+Y%4294967296=Y:=by omega
 have a1c:2147483648<=Y/4294967296:=by omega
 have wF:Y/4294967296<4294967296:=by omega
 have zB:Y%4294967296<4294967296:=bO _ (by omega);generalize a2l:Y/4294967296=y1 at hYs a1c wF;generalize a4u:Y%4294967296=y0 at hYs zB;have tW:n/4294967296<4294967296:=by omega
 have wN:n%4294967296<4294967296:=bO _ (by omega);generalize a4v:n/4294967296=n1 at tW;generalize a4w:n%4294967296=n0 at wN;have hnn:n=n1*4294967296+n0:=by omega
 have hcv:IntKind.u64.wrap (s:Int)=(s:Int):=Bw s (by omega);have qK:IntKind.u64.wrap ((64:Int)-(s:Int))=((64-s:Nat):Int):=by
  rw[show(64:Int)-(s:Int)=((64-s:Nat):Int)from by omega,Bw _ (by omega)]
 have a4x:=ug u y1 (by omega);refine Jt hlz rfl (j6 ⟨_,rfl⟩ (j6 ?_ (j6 ⟨_,rfl⟩ (j6 ?_ (j6 ?_ ?_)))))
 ·show(0:Int)<=IntKind.u64.wrap (s:Int);rw[hcv];omega
 ·show(0:Int)<=IntKind.u64.wrap (64-IntKind.u64.wrap (s:Int));rw[hcv,qK];omega
 ·simp only[Rq.holds,rxs,hcv,Yl y s (by omega),hYd,bR hY1,fw,a2l];omega
 have zC:∀a,a-a/y1*y1=a%y1:=fun a=>by have:=gW a y1;omega
 have hdm:∀a,a/y1*y1<=a:=fun a=>Nat.div_mul_le_self a y1;refine⟨fun l=>l=[.int .u64 (Y:Nat),.int .u64 (s:Nat),.int .u64 (y1:Nat),.int .u64 (y0:Nat),.int .u64 (u:Nat),.int .u64 (n1:Nat),.int .u64 (n0:Nat),.int .u64 ((u/y1:Nat):Int),.int .u64 ((u%y1:Nat):Int)],?_,?_⟩
 ·have a2m:=tu (hi*2^s%18446744073709551616) (lo/2^(64-s)) (bO _ (by omega)) (bK hL (by rw[Lj];exact aU (by omega) (by omega)));rw[vP]at a2m;have hm:=Bw (u/y1*y1) (by have:=hdm u;omega);have hsb:=Gz u (u/y1*y1) (hdm u) (by omega);rw[zC]at hsb;simp only[pd,bV,mI,rxs,hcv,qK,Yl y s (by omega),Yl hi s (by omega),Yl lo s (by omega),hYd,bR hY1,fw,a2l,Ye Y hY1,a4u,Up lo (64-s) (by omega),a2m,sJ,Ye n a2k,a4v,a4w,a4x,Og,hm,hsb]
 rintro vals-rfl;simp only[cA,nA];refine⟨fun l=>l=[.int .u64 (qt u n1 y1 y0:Nat)],?_,?_⟩
 ·refine⟨fun l=>∃q r,l=[.int .u64 (q:Nat),.int .u64 (r:Nat)]/\u=q*y1+r/\qt u n1 y1 y0<=q/\q<=4294967297/\r<4294967296,fun l=>(intOf (l.getD 0 undef)).toNat,⟨u/y1,u%y1,rfl,(gW _ _).symm,GX tW (by omega),GY a1c (by omega) zB,bK (bO _ (by omega)) (oR wF)⟩,?_⟩;rintro vals-⟨q,r,rfl,hu,hQ,hq,hr⟩;simp only[cA,nA];have hQb:qt u n1 y1 y0<4294967296:=fq tW (by omega);refine j6 ⟨_,rfl⟩ (Da (b:=decide (4294967296<=q)) ?_ (fun h=> ?_) (fun h=> ?_))
  ·simp only[rxs];congr 1;rw[bH,oDi,oDi];omega
  ·have h:=oDt h;have pO:qt u n1 y1 y0<q:=by omega
   obtain⟨d1,d2,d3⟩:=fy (n:=n1) wF zB (by omega) hu pO hq;refine j6 ⟨_,rfl⟩ (j6 ⟨_,rfl⟩ (Da (b:=decide (4294967296<=r+y1)) ?_ (fun h2=> ?_) (fun h2=> ?_)))
   ·simp only[rxs,Ij,Bw (r+y1) (by omega)];congr 1;rw[bH,oDi,oDi];omega
   ·have h2:=oDt h2;show[Value.int .u64 (IntKind.u64.wrap ((q:Int)-1))]=_;rw[one1,Gz q 1 (by omega) (by omega),d3 h2]
   ·have h2:=oDf h2;refine⟨⟨q-1,r+y1,?_,d1,d2,by omega,by omega⟩,?_⟩
    ·show[Value.int .u64 (IntKind.u64.wrap ((q:Int)-1)),Value.int .u64 (IntKind.u64.wrap ((r:Int)+(y1:Int)))]=_;rw[one1,Gz q 1 (by omega) (by omega),Ij,Bw (r+y1) (by omega)]
    ·show(intOf (Value.int .u64 (IntKind.u64.wrap ((q:Int)-1)))).toNat<(intOf (Value.int .u64 (q:Nat))).toNat;rw[one1,Gz q 1 (by omega) (by omega)];simp only[intOf];omega
  ·have h:=oDf h;obtain⟨w1,w2,w3⟩:=HK (q:=q) (r:=r) (y0:=y0) (n:=n1) (by omega) hr zB tW;refine j6 ⟨_,rfl⟩ (j6 ⟨_,rfl⟩ (j6 ⟨_,rfl⟩ (Da (b:=decide (4294967296*r+n1<q*y0)) ?_ (fun h1=> ?_) (fun h1=> ?_))))
   ·simp only[rxs,b32,Og,Ij,Bw _ w1,Bw _ w2,Bw _ w3];congr 1;rw[bH,oDi,oDi];omega
   ·have h1:=oDt h1;have pO:qt u n1 y1 y0<q:=GW hu h1;obtain⟨d1,d2,d3⟩:=fy (n:=n1) wF zB (by omega) hu pO hq;refine j6 ⟨_,rfl⟩ (Da (b:=decide (4294967296<=r+y1)) ?_ (fun h2=> ?_) (fun h2=> ?_))
    ·simp only[rxs,Ij,Bw (r+y1) (by omega)];congr 1;rw[bH,oDi,oDi];omega
    ·have h2:=oDt h2;show[Value.int .u64 (IntKind.u64.wrap ((q:Int)-1))]=_;rw[one1,Gz q 1 (by omega) (by omega),d3 h2]
    ·have h2:=oDf h2;refine⟨⟨q-1,r+y1,?_,d1,d2,by omega,by omega⟩,?_⟩
     ·show[Value.int .u64 (IntKind.u64.wrap ((q:Int)-1)),Value.int .u64 (IntKind.u64.wrap ((r:Int)+(y1:Int)))]=_;rw[one1,Gz q 1 (by omega) (by omega),Ij,Bw (r+y1) (by omega)]
     ·show(intOf (Value.int .u64 (IntKind.u64.wrap ((q:Int)-1)))).toNat<(intOf (Value.int .u64 (q:Nat))).toNat;rw[one1,Gz q 1 (by omega) (by omega)];simp only[intOf];omega
   ·have h1:=oDf h1;have pP:=ua (n:=n1) (y0:=y0) hu (by omega) (by omega);show[Value.int .u64 (q:Nat)]=_;rw[show q=qt u n1 y1 y0 from nU pP hQ]
 rintro vals-rfl;simp only[cA,nA];have uS:=fq (y1:=y1) (y0:=y0) tW (show u<y1*4294967296+y0 by omega);obtain⟨q1,a1d⟩:∃q1,q1=qt u n1 y1 y0:=⟨_,rfl⟩;obtain⟨r1,a2n⟩:∃r1,r1=(u*4294967296+n1)%Y:=⟨_,rfl⟩;have hX:u*4294967296+n1=q1*Y+r1:=by
  rw[a1d,a2n];unfold qt;rw[hYs];exact(gW _ _).symm
 have zD:r1<Y:=by rw[a2n];exact bO _ (by omega)
 have a2o:=HL (u:=u) (n:=n1) (q:=q1) (y:=Y) (by omega) (by omega);rw[show u*4294967296+n1-q1*Y=r1 from by omega]at a2o;rw[<-a1d];have a2p:=ug r1 y1 (by omega);refine j6 ⟨_,rfl⟩ (j6 ⟨_,rfl⟩ (j6 ⟨_,rfl⟩ (j6 ⟨_,rfl⟩ (j6 ⟨_,rfl⟩ (j6 ?_ ⟨fun l=>l=[.int .u64 (r1:Nat),.int .u64 ((r1/y1:Nat):Int),.int .u64 ((r1%y1:Nat):Int)],?_,?_⟩)))))
 ·show(y1:Int)≠0;omega
 ·have hm:=Bw (r1/y1*y1) (by have:=hdm r1;omega);have hsb:=Gz r1 (r1/y1*y1) (hdm r1) (by omega);rw[zC]at hsb;simp only[pd,bV,mI,rxs,b32,Og,a2o,a2p,hm,hsb]
 rintro vals-rfl;simp only[cA,nA];refine⟨fun l=>l=[.int .u64 (qt r1 n0 y1 y0:Nat)],?_,?_⟩
 ·refine⟨fun l=>∃q r,l=[.int .u64 (q:Nat),.int .u64 (r:Nat)]/\r1=q*y1+r/\qt r1 n0 y1 y0<=q/\q<=4294967297/\r<4294967296,fun l=>(intOf (l.getD 0 undef)).toNat,⟨r1/y1,r1%y1,rfl,(gW _ _).symm,GX wN (by omega),GY a1c (by omega) zB,bK (bO _ (by omega)) (oR wF)⟩,?_⟩;rintro vals-⟨q,r,rfl,hu,hQ,hq,hr⟩;simp only[cA,nA];have hQb:qt r1 n0 y1 y0<4294967296:=fq wN (by omega);refine j6 ⟨_,rfl⟩ (Da (b:=decide (4294967296<=q)) ?_ (fun h=> ?_) (fun h=> ?_))
  ·simp only[rxs];congr 1;rw[bH,oDi,oDi];omega
  ·have h:=oDt h;have pO:qt r1 n0 y1 y0<q:=by omega
   obtain⟨d1,d2,d3⟩:=fy (n:=n0) wF zB (by omega) hu pO hq;refine j6 ⟨_,rfl⟩ (Da (b:=decide (4294967296<=r+y1)) ?_ (fun h2=> ?_) (fun h2=> ?_))
   ·simp only[rxs,Ij,Bw (r+y1) (by omega)];congr 1;rw[bH,oDi,oDi];omega
   ·have h2:=oDt h2;show[Value.int .u64 (IntKind.u64.wrap ((q:Int)-1))]=_;rw[one1,Gz q 1 (by omega) (by omega),d3 h2]
   ·have h2:=oDf h2;refine⟨⟨q-1,r+y1,?_,d1,d2,by omega,by omega⟩,?_⟩
    ·show[Value.int .u64 (IntKind.u64.wrap ((q:Int)-1)),Value.int .u64 (IntKind.u64.wrap ((r:Int)+(y1:Int)))]=_;rw[one1,Gz q 1 (by omega) (by omega),Ij,Bw (r+y1) (by omega)]
    ·show(intOf (Value.int .u64 (IntKind.u64.wrap ((q:Int)-1)))).toNat<(intOf (Value.int .u64 (q:Nat))).toNat;rw[one1,Gz q 1 (by omega) (by omega)];simp only[intOf];omega
  ·have h:=oDf h;obtain⟨w1,w2,w3⟩:=HK (q:=q) (r:=r) (y0:=y0) (n:=n0) (by omega) hr zB wN;refine j6 ⟨_,rfl⟩ (j6 ⟨_,rfl⟩ (j6 ⟨_,rfl⟩ (Da (b:=decide (4294967296*r+n0<q*y0)) ?_ (fun h1=> ?_) (fun h1=> ?_))))
   ·simp only[rxs,b32,Og,Ij,Bw _ w1,Bw _ w2,Bw _ w3];congr 1;rw[bH,oDi,oDi];omega
   ·have h1:=oDt h1;have pO:qt r1 n0 y1 y0<q:=GW hu h1;obtain⟨d1,d2,d3⟩:=fy (n:=n0) wF zB (by omega) hu pO hq;refine Da (b:=decide (4294967296<=r+y1)) ?_ (fun h2=> ?_) (fun h2=> ?_)
    ·simp only[rxs,Ij,Bw (r+y1) (by omega)];congr 1;rw[bH,oDi,oDi];omega
    ·have h2:=oDt h2;show[Value.int .u64 (IntKind.u64.wrap ((q:Int)-1))]=_;rw[one1,Gz q 1 (by omega) (by omega),d3 h2]
    ·have h2:=oDf h2;refine⟨⟨q-1,r+y1,?_,d1,d2,by omega,by omega⟩,?_⟩
     ·show[Value.int .u64 (IntKind.u64.wrap ((q:Int)-1)),Value.int .u64 (IntKind.u64.wrap ((r:Int)+(y1:Int)))]=_;rw[one1,Gz q 1 (by omega) (by omega),Ij,Bw (r+y1) (by omega)]
     ·show(intOf (Value.int .u64 (IntKind.u64.wrap ((q:Int)-1)))).toNat<(intOf (Value.int .u64 (q:Nat))).toNat;rw[one1,Gz q 1 (by omega) (by omega)];simp only[intOf];omega
   ·have h1:=oDf h1;have pP:=ua (n:=n0) (y0:=y0) hu (by omega) (by omega);show[Value.int .u64 (q:Nat)]=_;rw[show q=qt r1 n0 y1 y0 from nU pP hQ]
 rintro vals-rfl;simp only[cA,nA];have hq0:=fq (y1:=y1) (y0:=y0) wN (show r1<y1*4294967296+y0 by omega);obtain⟨q0,a1e⟩:∃q0,q0=qt r1 n0 y1 y0:=⟨_,rfl⟩;obtain⟨r0,a2q⟩:∃r0,r0=(r1*4294967296+n0)%Y:=⟨_,rfl⟩;have hX0:r1*4294967296+n0=q0*Y+r0:=by
  rw[a1e,a2q];unfold qt;rw[hYs];exact(gW _ _).symm
 have hr0:r0<Y:=by rw[a2q];exact bO _ (by omega)
 have a2r:=HL (u:=r1) (n:=n0) (q:=q0) (y:=Y) (by omega) (by omega);rw[show r1*4294967296+n0-q0*Y=r0 from by omega]at a2r;obtain⟨f1,f2⟩:=D2 (U:=(hi*18446744073709551616+lo)*2^s) hX (by rw[hU,hnn];exact E6 u n1 n0) hX0 hr0;rw[<-hYd,lX _ _ sO]at f1;rw[<-hYd,Nat.mul_mod_mul_right]at f2;have f3:r0/2^s=(hi*18446744073709551616+lo)%y:=by rw[<-f2,Nat.mul_div_cancel _ sO]
 rw[<-a1e];have a4y:s<=64:=Nat.le_succ_of_le a1b;have a2s:q1<4294967296:=by rw[a1d];exact uS
 have a2t:q0<4294967296:=by rw[a1e];exact hq0
 refine j6 ⟨_,rfl⟩ (j6 ⟨_,rfl⟩ (j6 ⟨_,rfl⟩ (j6 ⟨_,_,rfl⟩ (j6 ?_ (Cf ?_ rfl)))))
 ·show(0:Int)<=(s:Int);omega
 ·simp only[rxs,Bv,b32,Og,a2r,Ij,Bw (q1*4294967296) (HN a2s a2t).1,Bw (q1*4294967296+q0) (HN a2s a2t).2,Up r0 s a4y,f1,f3]
end Go.Proofs.Z
/- Contracts: short, shifted, Over, Common. -/
namespace Go.Proofs.Z
open Go.Proofs.Tryz
open Go.RowKit Go.RX Go.WD Go.IntWalk
theorem HO (k:Nat) (hk:k<=9223372036854775807):IntKind.i64.wrap ((k:Int).tdiv 64)=((k/64:Nat):Int):=by
 rw[show(64:Int)=((64:Nat):Int)from rfl,<-oG,Qz _ (by omega)]
theorem HQ (k:Nat):(k:Int).tmod 64=((k%64:Nat):Int):=by
 rw[show(64:Int)=((64:Nat):Int)from rfl,<-jO]
theorem E8 (r:Nat) (h:r<64):IntKind.u64.wrap ((1:Int)*2^min r (IntKind.bits .u64))=((2^r:Nat):Int):=by
 have:=Yl 1 r (by omega);rw[dS,bR (by rw[Lj];exact Nat.pow_lt_pow_right (by omega) h)]at this;exact this
theorem HS {A k:Nat} (h:A<PW k):blen A<=64*k:=blen_le (by rw[Yh]at h;exact h)
end Go.Proofs.Z
/- Contracts: Root, Div, Gcd, Pow. -/
namespace Go.Proofs.Z
open Go.Proofs.Tryz
open Go.RowKit Go.RX Go.WD Go.IntWalk
theorem E9 {x y q r:Int} (hy:y≠0) (he:x=q*y+r) (h0:0<=r) (h1:r<y.natAbs):x/y=q/\x%y=r:=by
 rcases Int.lt_or_lt_of_ne hy with h|h
 ·have:=(mJ (a:=x) (b:= -y) (q:= -q) (r:=r) (by omega)).2 ⟨by rw[he,nV,oS];omega,h0,by omega⟩;rw[Int.ediv_neg,Int.emod_neg]at this;exact⟨by omega,this.2⟩
 ·exact(mJ (a:=x) (b:=y) (q:=q) (r:=r) h).2 ⟨by rw[he,oS];omega,h0,by omega⟩
theorem HT {z:Int} (h: -(HM:Int)<=z/\z<HM):told z= .tuple #[iw z,.int .i64 0]:=by unfold told;rw[if_pos h]
theorem uh {z:Int} (h:¬(-(HM:Int)<=z/\z<HM)):told z= .tuple #[wd 0,.int .i64 6]:=by unfold told;rw[if_neg h]
theorem mnn (a b:Nat):(-(a:Int))*(-(b:Int))=((a*b:Nat):Int):=by rw[nV,jH]
theorem mnp (a b:Nat):(-(a:Int))*(b:Int)= -((a*b:Nat):Int):=by rw[Int.neg_mul,jH]
theorem mpn (a b:Nat):(a:Int)*(-(b:Int))= -((a*b:Nat):Int):=by rw[Int.mul_neg,jH]
theorem F0 (x y:Int) (Q R:Nat) (zB:y≠0) (a4z:R<y.natAbs) (hQR:x.natAbs=Q*y.natAbs+R):
  x/y=(if(decide (x<0) !=decide (y<0))then -((if(decide (x<0)&& !decide (R=0))then Q+1 else Q:Nat):Int)else((if(decide (x<0)&& !decide (R=0))then Q+1 else Q:Nat):Int))/\
  x%y=((if(decide (x<0)&& !decide (R=0))then y.natAbs-R else R:Nat):Int):=by
 obtain⟨Y,hY⟩:=Int.eq_nat_or_neg y;have hYn:y.natAbs=Y:=by rcases hY with h|h<;>rw[h]<;>simp
 rw[hYn]at hQR a4z⊢;have hs:(Q+1)*Y=Q*Y+Y:=by rw[cP,dS]
 refine E9 zB ?_ ?_ ?_
 ·by_cases hx:x<0
  ·by_cases hR:R=0
   ·rcases hY with hY|hY
    ·have:¬y<0:=by omega
     simp only[hx,this,hR,decide_true,decide_false,oH,nW,cN,if_false,if_true,bne_self_eq_false,oI,jD];rw[hY,mnp];omega
    ·have:y<0:=by omega
     simp only[hx,this,hR,decide_true,oH,nW,cN,if_false,bne_self_eq_false];rw[hY,mpn];omega
   ·rcases hY with hY|hY
    ·have:¬y<0:=by omega
     simp only[hx,this,hR,decide_true,decide_false,jD,oJ,if_true,oI];rw[hY,mnp,hs];omega
    ·have:y<0:=by omega
     simp only[hx,this,hR,decide_true,decide_false,jD,oJ,if_true,bne_self_eq_false,cN,if_false];rw[hY,mpn,hs];omega
  ·rcases hY with hY|hY
   ·have:¬y<0:=by omega
    simp only[hx,this,decide_false,nX,cN,if_false,bne_self_eq_false];rw[hY,Og];omega
   ·have:y<0:=by omega
    simp only[hx,this,decide_true,decide_false,nX,cN,if_false,Bool.bne_true,jD,if_true];rw[hY,mnn];omega
 ·exact Int.natCast_nonneg _
 ·split
  ·rename_i h;simp at h;omega
  ·omega
end Go.Proofs.Z
/- Contract of Parse. -/
namespace Go.WD
open Go.RX
theorem take_snoc {l:List UInt8} {p:Nat} (h:p<l.length):l.take (p+1)=l.take p++[l.getD p 0]:=by
 rw[List.take_succ_eq_append_getElem h,aB,List.getElem?_eq_getElem h];rfl
end Go.WD
/- Contracts of the a0b of the laws of chapter 01. -/
namespace Go.WD
open Go.RX
theorem F1 {a b k:Nat} (h:k=a+b):2^a*2^b=2^k:=by rw[h,dG]
theorem F2 {k:Nat} (h:k=511):HM=2^k:=by
 have e:=Yh 7;rw[Qx,e];generalize hb:64*7=b;exact F1 (a:=63) (b:=b) (by omega)
theorem F3 {k:Nat} (h:k<=511):2^k<=HM:=by
 obtain⟨n,hn⟩:∃n:Nat,n=511:=⟨_,rfl⟩;rw[F2 hn];exact aU (by omega) (by omega)
end Go.WD
/- strings.Builder: WriteByte, String. -/
namespace Go.RX
open Go.RowKit
theorem Sl.cells {H:PH} {sz n:Nat} {v:Value} {xs:List Value} (h:Sl H sz v n xs):v.cells= #[v]:=by
 obtain⟨_,a,c,h2,_⟩:=h;rw[h2];rfl
theorem Sl.one {H:PH} {sz n:Nat} {v:Value} {xs:List Value} (h:Sl H sz v n xs):v.cells.size=1/\s8 v.cells:=by
 rw[h.cells];obtain⟨_,a,c,h2,_⟩:=h;refine⟨rfl,fun c hc=> ?_⟩;simp at hc;rw[hc,h2];rfl
end Go.RX

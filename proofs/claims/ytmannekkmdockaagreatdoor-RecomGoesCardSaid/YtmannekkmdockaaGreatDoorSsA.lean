/- Lemmas of the proof. -/
import Derived.Test.YtmannekkmdockaaGreatDoorShB
import Derived.Lib.Bytealg
import Derived.Laws.StructEq
open Bool renaming and_eq_true->aF,eq_iff_iff->bH
open Go.Result renaming andThen_ok->aE
open Go.Sem renaming run_bind->aG
open Int renaming natAbs_natCast->cV
open List renaming drop_zero->dH,flatMap_cons->cY,getD_eq_getElem?_getD->aB,getElem?_drop->gR,getElem?_eq_getElem->aA,getElem?_take->dE,take_of_length_le->aK
open Nat renaming add_mul->cP,gcd->eJ,le_refl->aN,lt_succ_self->bQ,not_lt_zero->nZ,one_mul->dS,zero_lt_succ->bU,zero_mod->oV,zero_mul->dV
set_option maxRecDepth 100000
namespace Go.WD
open Go.RX
def okB (n d:Nat):Bool:=decide (0<toI d)&&decide (eJ (toI n).natAbs (toI d).natAbs=1)
def okP (p:Nat×Nat):Bool:=okB p.1 p.2
def Jw (n d:Nat):Rat:=Rat.divInt (toI n) (toI d)
theorem gj {n d:Nat} (h:okB n d=true):(Jw n d).num=toI n/\((Jw n d).den:Int)=toI d:=by
 unfold okB at h;rw[aF,oDi,oDi]at h;have h0:toI d≠0:=by omega
 have h1:=uz (toI n) h0;have h2:=vc (toI n) h0;simp only[h.2,Int.natCast_one,Int.ediv_one]at h1 h2;rw[if_neg (by omega)]at h1 h2;exact⟨h1,h2⟩
theorem IZ (z:Int):sgI z 0<=0↔z<=0:=by
 unfold sgI;by_cases h1:z<0
 ·rw[if_pos h1];omega
 ·rw[if_neg h1];by_cases h2:z=0
  ·rw[if_pos h2];omega
  ·rw[if_neg h2];omega
theorem P5 (y z:Int):(sgI y z !=0)= !decide (y=z):=by
 unfold sgI;by_cases h1:y<z
 ·rw[if_pos h1,decide_eq_false (by omega)];rfl
 ·rw[if_neg h1];by_cases h2:y=z
  ·rw[if_pos h2,oDd h2];rfl
  ·rw[if_neg h2,decide_eq_false h2];rfl
end Go.WD
namespace Go.Proofs.Z
open Go.Proofs.Tryz
open Go.RowKit Go.RX Go.WD
theorem P6 {b:Bool} (h:(!b)=true):b=false:=by cases b<;>simp_all
theorem P7 {b:Bool} (h:(!b)=false):b=true:=by cases b<;>simp_all
def shf (p:Nat×Nat):List Value:=(words p.1).toList++(words p.2).toList
def shp (p:Nat×Nat):Value:=shv p.1 p.2
theorem Yp (p:Nat×Nat):(shf p).length=16:=rfl
theorem JA:∀(ps:List (Nat×Nat)) (i:Nat),i<ps.length->((ps.flatMap shf).drop (i*16)).take 16=shf (ps.getD i (0,0))
 |[],i,h=>by simp at h
 |p::ps,0,_=>by
  rw[cY,dV,dH,List.take_append_of_le_length (by rw[Yp];omega),aK (by rw[Yp];omega)];rfl
 |p::ps,i+1,h=>by
  have rL:=JA ps i (by simpa using h);rw[cY,cP,dS,List.drop_append,Yp,List.drop_of_length_le (by rw[Yp];omega),List.nil_append,show i*16+16-16=i*16 from by omega,rL];rfl
theorem vg:∀(ps:List (Nat×Nat)),(ps.flatMap shf).length=ps.length*16
 |[]=>rfl
 |p::ps=>by rw[cY,List.length_append,Yp,vg ps,List.length_cons];omega
theorem P8 (ps:List (Nat×Nat)):((ps.map shp).flatMap fun v=>v.cells.toList)=ps.flatMap shf:=by
 rw[List.flatMap_map];congr 1
def Shs (H:PH) (v:Value) (ps:List (Nat×Nat)):Prop:=Sl H 16 v ps.length (ps.flatMap shf)
theorem Shs.mono {H H':PH} {v:Value} {ps:List (Nat×Nat)} (h:Shs H v ps) (hl:PH.le H H'):Shs H' v ps:=Sl.mono h hl
theorem P9:∃i z,prog.info? 58=some i/\i.zero=some z/\i.size=16/\z.cells.size=16/\i.bytes=128:=by
 refine⟨(prog.info? 58).getD default,(((prog.info? 58).getD default).zero).getD default,by kernel_rfl,by kernel_rfl,by kernel_rfl,by kernel_rfl,by kernel_rfl⟩
theorem vh:prog.underlying 49=some (.slice 58):=by kernel_rfl
section
variable {G:Value->PH->Prop} {nx:List (List Value->PH->Prop)} {ρ:List Value} {H H0:PH} {o o1 o2:Oper} {x y x2 y2:Operand} {id i id2 i2:Nat} {args args2:List SV} {t:Tree} {v:Value} {ps:List (Nat×Nat)}
theorem Q0 (ho:o.op= .call ⟨.builtin .len,#[x],#[49]⟩) (hx:g9 [x] [v] x=v) (h:Shs H v ps) (ha:args.map (D prog ρ)=[v]) (k:den prog G t nx (ρ++[iv ps.length]) H):den prog G (.prim id i o args t) nx ρ H:=
 r7 ((rl ho hx vh h).rds H) ha k
theorem Q1 {k:IntKind} {j:Nat} (tZ:o1.op= .indexAddr 49 x y) (uA:o2.op= .load 58 x2) (hx:g9 [x,y] [v,.int k (j:Nat)] x=v) (hy:g9 [x,y] [v,.int k (j:Nat)] y= .int k (j:Nat)) (rR:∀p,g9 [x2] [p] x2=p) (h:Shs H v ps) (hj:j<ps.length)
  (ha:args.map (D prog ρ)=[v,.int k (j:Nat)]) (rX:∀p,args2.map (D prog (ρ++[p]))=[p]) (c:∀p,den prog G t nx (ρ++[p]++[shp (ps.getD j (0,0))]) H):den prog G (.prim id i o1 args (.prim id2 i2 o2 args2 t)) nx ρ H:=by
 obtain⟨b,q,cs,T',fz,h1,h2,h3,h4⟩:=rn (P:=prog) (e:=58) (sz:=16) tZ hx hy vh (by kernel_rfl) (by kernel_rfl) (by omega) h hj;rw[JA ps j hj]at h4;have hl:=FM (P:=prog) (H:=H) uA (rR _) h2 (by kernel_rfl) (by kernel_rfl) (by kernel_rfl) h3 h4;rw[show(shf (ps.getD j (0,0))).toArray=words (ps.getD j (0,0)).1++words (ps.getD j (0,0)).2 from by apply Array.ext';simp[shf]]at hl;exact r7 (h1.rds H) ha (r7 hl (rX _) (c _))
theorem Q2 {pb:Bool} {parts:Array (Nat×Operand)} {vs:List Value} (ps:List (Nat×Nat)) (ho:o.op= .buildSlice 49 ps.length parts) (sO:0<ps.length) (rE:ps.length<=1000) (a5i:(parts.toList.map fun p=>(p.1,g9 (parts.toList.map (·.2)) vs p.2))=(ps.map shp).zipIdx.map fun p=>(p.2,p.1)) (ha:args.map (D prog ρ)=vs)
  (n:∀v H',PH.le H H'->Shs H' v ps->den prog G t nx (ρ++[v]) H'):den prog G (.eff pb id i o args t) nx ρ H:=by
 obtain⟨ti,z,i1,i2,i3,i4,i5⟩:=P9;refine r4 (vs:=vs) (sd (cells:=(ps.flatMap shf).toArray) ho vh i1 i2 (by rw[i3];omega) (by rw[i3];omega) ?_) ha ?_
 ·rw[i3,a5i];have:=Go.Great.fill_whole (s:=16) (by omega) (ps.map shp) (Array.map (fun x=>z.cells[x%z.cells.size]!) (Array.range (ps.length*16))) (fun v hv=>by
   obtain⟨p,_,rfl⟩:=List.mem_map.1 hv;exact(Dz p.1 p.2).1) (by simp)
  rw[P8]at this;exact this
 ·rintro v H' ⟨g,hg,rfl,rfl⟩;refine⟨fun _=>PH.le_put hg _,n _ _ (PH.le_put hg _) ⟨vg ps,_,ps.length,rfl,aN _,by simp only[maxLen];omega,.inr ⟨g,0,_,_,_,rfl,PH.put_self _ _ _,?_⟩⟩⟩;rw[dH,List.toList_toArray,aK (by rw[vg];exact aN _)]
end
section
variable {H:PH} {x y v:Value} {r s:Rat} {n d m e:Nat}
theorem Q3 (n d:Nat):Con prog 134 [shv n d] H fun u H'=>PH.le H H'/\u= .int .i64 (if okB n d then 0 else 20):=by
 refine Aa mixed N2 (by kernel_rfl) rfl (d9 (Dz n d) (i6 (Rf 1 (by omega) (by omega)) rfl ?_));rintro u1 H1 ⟨l1,rN⟩;have r1:=rN.rq;have a0c:=rN;obtain⟨w1,rfl,_⟩:=rN;refine⟨fun h=>(nomatch h),d9 r1 (i6 (vf n d) rfl ?_)⟩;rintro u2 H2 ⟨l2,rK⟩;have r2:=rK.rq;obtain⟨w2,w3,rfl,n2,n3⟩:=rK;have tK:Lw H2 (.agg #[.bool (decide (toI n<0)),w2]) (toI n):=⟨w2,rfl,n2⟩;have hL3:Lw H2 (.agg #[.bool (decide (toI d<0)),w3]) (toI d):=⟨w3,rfl,n3⟩;have lmn:=ga n;have lmd:=ga d;refine⟨fun h=>(nomatch h),d9 r2 ⟨fun vals H'=>vals=[.bool (!okB n d)]/\PH.le H2 H',i6 (Ut hL3) rfl ?_,?_⟩⟩
 ·rintro u3 H3 ⟨rfl,rfl⟩;simp only[cA,nA];refine⟨fun _=>PH.le.refl _,d9 ⟨_,rfl⟩ (i0 (b:=decide (sgI (toI d) 0<=0)) rfl (fun h=> ?_) (fun h=> ?_))⟩
  ·have h:=(IZ _).1 (oDt h);refine⟨?_,PH.le.refl _⟩;show[Value.bool true]=_;unfold okB;rw[decide_eq_false (show ¬0<toI d by omega)];rfl
  ·have h:¬toI d<=0:=fun e=>oDf h ((IZ _).2 e);refine i6 (IF tK hL3 lmn lmd) rfl ?_;rintro u4 H4 ⟨l4,xT⟩;simp only[cA,nA];have uL:Lm ((eJ (toI n).natAbs (toI d).natAbs:Nat):Int):=by
    unfold Lm at lmd⊢;rw[cV];exact Nat.lt_of_le_of_lt (Nat.gcd_le_right _ (by omega)) lmd
   refine⟨fun _=>l4,i6 (K8 xT (a0c.mono (l2.trans l4)) uL uj) rfl ?_⟩;rintro u5 H5 ⟨l5,rfl⟩;simp only[cA,nA];refine⟨fun _=>l5,d9 ⟨_,rfl⟩ ⟨?_,l4.trans l5⟩⟩;show[Value.bool (sgI ((eJ (toI n).natAbs (toI d).natAbs:Nat):Int) 1 !=0)]=_;rw[P5];unfold okB;rw[oDd (show 0<toI d by omega),Bool.true_and];congr 3;rw[decide_eq_decide];omega
 rintro vals H6-⟨rfl,l6⟩;simp only[cA,nA];refine d9 ⟨_,rfl⟩ (i0 rfl (fun h=> ?_) (fun h=> ?_))
 ·have h:okB n d=false:=by simpa using h
  exact g8 rfl ⟨l1.trans (l2.trans l6),by rw[h];rfl⟩
 ·have h:okB n d=true:=by simpa using h
  exact g8 rfl ⟨l1.trans (l2.trans l6),by rw[h];rfl⟩
theorem Q4 (n d:Nat):Con prog 133 [shv n d] H fun u H'=>PH.le H H'/\u= .bool (okB n d):=by
 refine Aa mixed N5 (by kernel_rfl) rfl (d9 (Dz n d) (i6 (Q3 n d) rfl ?_));rintro u1 H1 ⟨l1,rfl⟩;refine⟨fun h=>(nomatch h),d9 ⟨_,rfl⟩ (g8 rfl ⟨l1,?_⟩)⟩;show Value.bool ((if okB n d then(0:Int)else 20)==0)=_;cases okB n d<;>rfl
theorem Q5:Au prog 133=true:=by kernel_rfl
theorem Q6 {ps:List (Nat×Nat)} (h:Shs H v ps):Con prog 135 [.func (.func 133) #[] #[],v] H fun u H'=>PH.le H H'/\u= .bool (ps.all okP):=by
 have pR:=h.len_le;simp only[maxLen]at pR;refine Aa mixed N3 (by kernel_rfl) rfl (Q0 rfl rfl h rfl ⟨fun vals H'=>∃i:Nat,vals=[.bool false,iv i]/\i<=ps.length/\PH.le H H'/\(ps.take i).all okP=true,fun vals _=>(ps.length-intOf (vals.getD 1 undef)).toNat,⟨0,rfl,by omega,PH.le.refl _,rfl⟩,?_⟩);rintro vals H1-⟨i,rfl,hi,l1,qG⟩;simp only[cA,nA];refine d9 ⟨_,rfl⟩ (d9 ⟨_,rfl⟩ (i0 (b:=decide ((i:Int)<ps.length)) rfl (fun hb=> ?_) (fun hb=> ?_)))
 ·have hb:i<ps.length:=by have:=oDt hb;omega
  have e1:IntKind.i64.wrap ((i:Int)+1)=((i+1:Nat):Int):=Ll (by omega);refine Q1 (k:= .i64) (j:=i) rfl rfl rfl rfl (fun _=>rfl) (h.mono l1) hb rfl (fun _=>rfl) fun p=> ?_;obtain⟨a,ha⟩:∃a,a=ps.getD i (0,0):=⟨_,rfl⟩;have qS:a∈ps:=by rw[ha,aB,aA hb];exact List.getElem_mem hb
  rw[<-ha];refine d9 (Dz a.1 a.2) (r4 (Uh (f:=133) (caps:= #[]) (vs:=[shv a.1 a.2]) rfl rfl rfl Q5 (Q4 a.1 a.2)) rfl ?_);rintro u2 H2 ⟨l2,rfl⟩;simp only[cA,nA];refine⟨fun h=>(nomatch h),d9 ⟨_,rfl⟩ (i0 (b:= !okB a.1 a.2) rfl (fun h2=> ?_) (fun h2=> ?_))⟩
  ·have h2:okB a.1 a.2=false:=by simpa using h2
   refine g8 rfl ⟨l1.trans l2,?_⟩;show Value.bool false=_;congr 1
   symm
   rw[List.all_eq_false];exact⟨a,qS,by show ¬okB a.1 a.2=true;rw[h2];simp⟩
  ·have h2:okB a.1 a.2=true:=by simpa using h2
   refine⟨⟨i+1,?_,by omega,l1.trans l2,?_⟩,?_⟩
   ·simp only[rxs,iv,e1]
   ·rw[List.take_add_one,List.all_append,qG,aA hb];have:ps[i]=a:=by rw[ha,aB,aA hb];rfl
    rw[this];show(true&&(okB a.1 a.2&&true))=true;rw[h2];rfl
   ·simp only[rxs,iv,e1];omega
 ·have hb:i=ps.length:=by have:=oDf hb;omega
  rw[aK (by omega)]at qG;exact g8 rfl ⟨l1,by rw[qG];rfl⟩
theorem Q7 {ps:List (Nat×Nat)} (h:Shs H v ps):Con prog 76 [v] H fun u H'=>PH.le H H'/\u= .bool (ps.all okP):=by
 refine Aa mixed N4 (by kernel_rfl) rfl (i6 (Q6 h) rfl ?_);rintro u1 H1 ⟨l1,rfl⟩;exact⟨fun h=>(nomatch h),g8 rfl ⟨l1,rfl⟩⟩
theorem Q8 (n d m e:Nat):[(n,d),(m,e)].all okP=(okB n d&&okB m e):=by show(okB n d&&(okB m e&&true))=_;rw[Bool.and_true]
theorem Q9 {f:FuncId} (rC:Au prog f=true) (n d m e:Nat) (t:Int) (hf:okB n d=true->okB m e=true->∀H x y,Rp H x (Jw n d)->Rp H y (Jw m e)->Con prog f [x,y] H fun u H'=>PH.le H H'/\u= .int .i64 t):
  Con prog 65 [shv n d,shv m e,.func (.func f) #[] #[]] H fun u H'=>PH.le H H'/\(((okB n d&&okB m e)=true/\∃v,u= .tuple #[v,.int .i64 0]/\v= .int .i64 t)\/((okB n d&&okB m e)=false/\∃v,u= .tuple #[v,.int .i64 20]/\v= .int .i64 0)):=by
 refine Aa mixed N6 (by kernel_rfl) rfl (d9 (Dz n d) (d9 (Dz m e) (Q2 (vs:=[shv n d,shv m e]) [(n,d),(m,e)] rfl (by simp) (by simp) rfl rfl fun v1 H1 l1 hv1=> ?_)));refine i6 (Q7 hv1) rfl ?_;rintro u2 H2 ⟨l2,rfl⟩;rw[Q8];simp only[cA,nA];refine⟨fun h=>(nomatch h),d9 ⟨_,rfl⟩ (i0 (b:= !(okB n d&&okB m e)) rfl (fun h=> ?_) (fun h=> ?_))⟩
 ·have h:=P6 h;exact g8 rfl ⟨l1.trans l2,.inr ⟨h,_,rfl,rfl⟩⟩
 ·have h:=P7 h;have h':=h;rw[aF]at h';refine i6 (vf n d) rfl ?_;rintro u3 H3 ⟨l3,hu3⟩;simp only[cA,nA];refine⟨fun _=>l3,i6 (vf m e) rfl ?_⟩;rintro u4 H4 ⟨l4,xT⟩;simp only[cA,nA];have hx:=(hu3.mono l4).rp (gj h'.1).1 (gj h'.1).2;have hy:=xT.rp (gj h'.2).1 (gj h'.2).2;refine⟨fun _=>l4,r4 (Uh (f:=f) (caps:= #[]) (vs:=[u3,u4]) rfl rfl rfl rC (hf h'.1 h'.2 H4 u3 u4 hx hy)) rfl ?_⟩;rintro u5 H5 ⟨l5,tJ⟩;subst tJ;exact⟨fun _=>l5,g8 rfl ⟨l1.trans (l2.trans (l3.trans (l4.trans l5))),.inl ⟨h,_,rfl,rfl⟩⟩⟩
theorem JB (r:Rat):∃(n d:Nat) (e:Int),Fz r= .tuple #[shv n d,.int .i64 e]:=by
 unfold Fz;split
 ·exact⟨_,_,0,rfl⟩
 ·exact⟨0,0,6,rfl⟩
theorem R0 (hx:Rp H x r) (hy:Rp H y s):Con prog 66 [x,y] H fun u H'=>PH.le H H'/\u= .int .i64 (sgI r.num 0):=by
 have r1:=hx.rq;have r2:=hy.rq;obtain⟨w1,w2,rfl,a1,a2⟩:=hx.out;obtain⟨w3,w4,rfl,_⟩:=hy;refine Aa mixed O0 (by kernel_rfl) rfl (d9 r1 (d9 r2 (i6 (Ut a1) rfl ?_)));rintro u1 H1 ⟨rfl,rfl⟩;exact⟨fun h=>(nomatch h),g8 rfl ⟨PH.le.refl _,rfl⟩⟩
theorem R1:Au prog 66=true:=by kernel_rfl
def JC (ok:Bool) (t:Int):Value:=if ok then .tuple #[.int .i64 t,.int .i64 0]else .tuple #[.int .i64 0,.int .i64 20]
theorem R2 (n d:Nat):Con prog 23 [shv n d] H fun u H'=>PH.le H H'/\u=JC (okB n d&&okB n d) (sgI (Jw n d).num 0):=by
 refine Aa mixed N9 (by kernel_rfl) rfl (d9 (Dz n d) (i6 (Q9 (f:=66) R1 n d n d (sgI (Jw n d).num 0) (fun _ _ H x y hx hy=>R0 hx hy)) rfl ?_));rintro u1 H1 ⟨l1,rN⟩;unfold JC;rcases rN with⟨h,v,rfl,rfl⟩|⟨h,v,rfl,rfl⟩
 ·rw[h,if_pos rfl];exact⟨fun h=>(nomatch h),d9 ⟨_,rfl,bU _⟩ (d9 ⟨_,rfl,bQ _⟩ (g8 rfl ⟨l1,rfl⟩))⟩
 ·rw[h,if_neg (by simp)];exact⟨fun h=>(nomatch h),d9 ⟨_,rfl,bU _⟩ (d9 ⟨_,rfl,bQ _⟩ (g8 rfl ⟨l1,rfl⟩))⟩
def Oj (p q:Int):Value:=if q=0 then .tuple #[shv 0 0,.int .i64 7]else Fz (Rat.divInt p q)
theorem R3 (p q:Int):∃(n d:Nat) (e:Int),Oj p q= .tuple #[shv n d,.int .i64 e]:=by
 unfold Oj;split
 ·exact⟨0,0,7,rfl⟩
 ·exact JB _
theorem JD (d:Nat):d%M=0↔toI d=0:=by
 have:=Ul;have:=Le;have:=Nat.mod_lt d Qw;unfold toI;split<;>omega
theorem R4 (n d:Nat):Con prog 30 [wd n,wd d] H fun u H'=>PH.le H H'/\u=Oj (toI n) (toI d):=by
 refine Aa mixed N7 (by kernel_rfl) rfl (d9 ⟨words_size n,words_one n⟩ (d9 ⟨words_size d,words_one d⟩ (r7 ((C1 (a:=d) (b:=0) rfl rfl rfl rfl rfl).rds _) ?_ (d9 ⟨_,rfl⟩ (i0 (b:=decide (d%M=0%M)) rfl (fun h=> ?_) (fun h=> ?_))))))
 ·simp only[rxs,Qy];rfl
 ·have h:=oDt h;rw[oV,JD]at h;unfold Oj;rw[if_pos h];exact g8 (congrArg (fun z=>Value.tuple #[z,.int .i64 7]) gh) ⟨PH.le.refl _,rfl⟩
 ·have h:=oDf h;rw[oV,JD]at h;unfold Oj;rw[if_neg h];refine i6 (Uu n) rfl ?_;rintro u1 H1 ⟨l1,rN⟩;simp only[cA,nA];refine⟨fun _=>l1,i6 (Uu d) rfl ?_⟩;rintro u2 H2 ⟨l2,rK⟩;simp only[cA,nA];refine⟨fun _=>l2,i6 (gg (rN.mono l2) rK (ga n) (ga d) h) rfl ?_⟩;rintro u3 H3 ⟨l3,hu3⟩;simp only[cA,nA];refine⟨fun _=>l3,i6 (gi hu3) rfl ?_⟩;rintro u4 H4 ⟨l4,rfl⟩;obtain⟨a,b,c,ht⟩:=JB (Rat.divInt (toI n) (toI d));rw[ht];exact⟨fun _=>l4,d9 ⟨_,rfl,bU _⟩ (d9 ⟨_,rfl,bQ _⟩ (d9 (Dz a b) (g8 rfl ⟨l1.trans (l2.trans (l3.trans l4)),rfl⟩)))⟩
theorem R5 (p q:Int) (p0: -9223372036854775808<=p) (p1:p<9223372036854775808) (q0: -9223372036854775808<=q) (q1:q<9223372036854775808):Con prog 79 [.int .i64 p,.int .i64 q] H fun u H'=>PH.le H H'/\u=Oj p q:=by
 refine Aa mixed N8 (by kernel_rfl) rfl (Am (ub p p0 p1) rfl (Am (ub q q0 q1) rfl (i6 (R4 (rs p) (rs q)) rfl ?_)));rintro u1 H1 ⟨l1,rfl⟩;rw[toI_rs (tw p0 p1),toI_rs (tw q0 q1)];obtain⟨a,b,c,ht⟩:=R3 p q;rw[ht];exact⟨fun h=>(nomatch h),d9 ⟨_,rfl,bU _⟩ (d9 ⟨_,rfl,bQ _⟩ (d9 (Dz a b) (g8 rfl ⟨l1,rfl⟩)))⟩
end
end Go.Proofs.Z
/- MADE BY rxgen.py: the trees of the a0b of the laws of chapter 02. -/
namespace Go.Proofs.Z
open Go.Proofs.Tryz
open Go.RowKit Go.RX Go.WD
theorem R6 {a b:Nat} (d:Nat) (w:World):(Op.equalIn (d+2) 56 (wd a) (wd b)).run prog w= .ok (decide (a%M=b%M)) w:=by
 obtain⟨i,hi⟩:∃i,prog.info? 54=some i:=by
  have h:=Lo;unfold z7 at h;rw[aF,Option.isSome_iff_exists]at h;exact h.1
 show(Op.equalIn (d+1+1) 56 (.agg (wf (dig a))) (.agg (wf (dig b)))).run prog w=_;rw[run_equalIn_array (n:=8) (e:=54) w (d+1) _ _ (by kernel_rfl) hi,GM Lo Us HH (by kernel_rfl) d (dig a) (dig b) w _ (fun i hi=>List.mem_range.1 hi)];refine congrArg (fun z=>Result.ok z w) ?_;rw[bH,oDi,oDi];exact GN a b
theorem vi {a b:Nat} (w:World):(Op.equalIn 9999 56 (wd a) (wd b)).run prog w= .ok (decide (a%M=b%M)) w:=R6 9997 w
noncomputable def fN:Field:=((prog.fieldsOf 58)[0]?).getD default
noncomputable def fD:Field:=((prog.fieldsOf 58)[1]?).getD default
theorem R7:(prog.fieldsOf 58).toList=[fN,fD]:=by kernel_rfl
theorem R8:fN.type=56:=by kernel_rfl
theorem R9:fN.offset=0:=by kernel_rfl
theorem S0:(fN.name≠ "_")=True:=eq_true (by decide+kernel)
theorem S1:fD.type=56:=by kernel_rfl
theorem S2:fD.offset=8:=by kernel_rfl
theorem S3:(fD.name≠ "_")=True:=eq_true (by decide+kernel)
theorem Uw:prog.cellsOf 56=8:=by kernel_rfl
theorem S4 (a b:Nat) (w:World):(part 56 (words a++words b) 0).run prog w= .ok (wd a) w:=by
 rw[Xp (by kernel_rfl) (by rw[Uw,(Dz a b).1];omega) (by rw[Uw];omega) w,Uw,show Aw prog 56=true from by kernel_rfl,if_pos rfl];rw[IS]
theorem JE (a b:Nat) (w:World):(part 56 (words a++words b) 8).run prog w= .ok (wd b) w:=by
 rw[Xp (by kernel_rfl) (by rw[Uw,(Dz a b).1];omega) (by rw[Uw];omega) w,Uw,show Aw prog 56=true from by kernel_rfl,if_pos rfl];rw[IU]
theorem JF (a b c d:Nat) (w:World):(Op.equalIn 10000 58 (shv a b) (shv c d)).run prog w= .ok (decide (a%M=c%M)&&decide (b%M=d%M)) w:=by
 show(Op.equalIn (9999+1) 58 (.agg (words a++words b)) (.agg (words c++words d))).run prog w=_;rw[run_equalIn_struct w 9999 _ _ _ (by kernel_rfl) (by kernel_rfl),R7];simp only[Op.eqFields,S0,S3,R8,R9,S1,S2,if_true,aG,S4,aE,vi];by_cases h1:a%M=c%M
 ·by_cases h2:b%M=d%M
  ·simp[h1,h2,JE,vi]
  ·simp[h1,h2,JE,vi]
 ·simp[h1]
section
variable {o:Oper} {x y:Operand} {H:PH} {a b c d:Nat}
theorem S5 (ho:o.op= .binOp .eql 58 x y 58) (hx:∀u v,g9 [x,y] [u,v] x=u) (hy:∀u v,g9 [x,y] [u,v] y=v):Yld prog o [shv a b,shv c d] (.bool (decide (a%M=c%M)&&decide (b%M=d%M))):=fun w=>by
 have pZ:o.op.operands.toList=[x,y]:=by simp[ho,Op.operands]
 rw[pZ];have h1:=run_eql_struct (P:=prog) w 58 (words a++words b) (words c++words d);have h2:=run_eqGuard_agg (P:=prog) w .eql 58 x y (words a++words b) (words c++words d) (by kernel_rfl);have h3:=JF a b c d w;simp only[shv]at h3;rw[h3]at h1;simp only[execOp,ho,hx,hy,shv,aG,h2,h1,aE];rfl
theorem S6 (ho:o.op= .binOp .neq 58 x y 58) (hx:∀u v,g9 [x,y] [u,v] x=u) (hy:∀u v,g9 [x,y] [u,v] y=v):Yld prog o [shv a b,shv c d] (.bool (!(decide (a%M=c%M)&&decide (b%M=d%M)))):=fun w=>by
 have pZ:o.op.operands.toList=[x,y]:=by simp[ho,Op.operands]
 rw[pZ];have h1:=run_neq_struct (P:=prog) w 58 (words a++words b) (words c++words d);have h2:=run_eqGuard_agg (P:=prog) w .neq 58 x y (words a++words b) (words c++words d) (by kernel_rfl);have h3:=JF a b c d w;simp only[shv]at h3;rw[h3]at h1;simp only[execOp,ho,hx,hy,shv,aG,h2,h1,aE];rfl
end
def shR (r:Rat):Value:=shv (rs r.num) (rs (r.den:Int))
theorem S7 {r:Rat} (h: -(HM:Int)<=r.num/\r.num<HM) (h2:(r.den:Int)<HM):okB (rs r.num) (rs (r.den:Int))=true/\Jw (rs r.num) (rs (r.den:Int))=r:=by
 have hd:0<(r.den:Int):=by have:=r.den_nz;omega
 have e1:toI (rs r.num)=r.num:=toI_rs h;have e2:toI (rs (r.den:Int))=(r.den:Int):=toI_rs (show Gy _ from⟨by have:=Ul;omega,h2⟩);constructor
 ·unfold okB;rw[e1,e2,oDd hd,cV,oDd r.reduced];rfl
 ·unfold Jw;rw[e1,e2,Rat.num_divInt_den]
end Go.Proofs.Z
/- Chapter 02: fractions of good size. -/
namespace Go.Proofs.Z
open Go.Proofs.Tryz
open Go.RowKit Go.RX Go.WD
theorem gm {r:Rat} {k:Nat} (h:Rb k r) (hk:k<=511):(-(HM:Int)<=r.num/\r.num<HM)/\(r.den:Int)<HM:=by
 have:=F3 hk;unfold Rb at h;omega
theorem S8 {r:Rat} {k:Nat} (h:Rb k r) (hk:k<=511):Fz r= .tuple #[shR r,.int .i64 0]:=by
 unfold Fz;rw[if_pos (gm h hk)];rfl
theorem JG {r:Rat} {k:Nat} (h:Rb k r) (hk:k<=511):okB (rs r.num) (rs (r.den:Int))=true/\Jw (rs r.num) (rs (r.den:Int))=r:=S7 (gm h hk).1 (gm h hk).2
section
variable {H:PH} {r s t:Rat}
def Rg (r:Rat):Prop:=∃k,k<=511/\Rb k r
theorem S9 (h:Rg r):okB (rs r.num) (rs (r.den:Int))=true:=h.elim fun _ h=>(JG h.2 h.1).1
theorem T0 (h:Rg r):Jw (rs r.num) (rs (r.den:Int))=r:=h.elim fun _ h=>(JG h.2 h.1).2
theorem gn (h:Rg r):Fz r= .tuple #[shR r,.int .i64 0]:=h.elim fun _ h=>S8 h.2 h.1
theorem gp {x y:Int} (hx:Gy x) (hy:Gy y) (h:rs x%M=rs y%M):x=y:=by
 rw[GE,GE]at h;rw[<-toI_rs hx,<-toI_rs hy,h]
theorem Ol (h:Rg r):Gy r.num/\Gy (r.den:Int):=by
 obtain⟨k,hk,h⟩:=h;have h1:=gm h hk;exact⟨h1.1,by have:=Ul;omega,h1.2⟩
theorem JH {o:Oper} {x y:Operand} (hr:Rg r) (hs:Rg s) (ho:o.op= .binOp .eql 58 x y 58) (hx:∀u v,g9 [x,y] [u,v] x=u) (hy:∀u v,g9 [x,y] [u,v] y=v):Yld prog o [shR r,shR s] (.bool (decide (r=s))):=by
 have h:=S5 (a:=rs r.num) (b:=rs (r.den:Int)) (c:=rs s.num) (d:=rs (s.den:Int)) ho hx hy;have e:(decide (rs r.num%M=rs s.num%M)&&decide (rs (r.den:Int)%M=rs (s.den:Int)%M))=decide (r=s):=by
  rw[bH,aF,oDi,oDi,oDi];constructor
  ·rintro⟨h1,h2⟩;have e1:=gp (Ol hr).1 (Ol hs).1 h1;have e2:=gp (Ol hr).2 (Ol hs).2 h2;exact Rat.ext e1 (by omega)
  ·rintro rfl;exact⟨rfl,rfl⟩
 rw[e]at h;exact h
theorem T1 {o:Oper} {x y:Operand} (hr:Rg r) (hs:Rg s) (ho:o.op= .binOp .neq 58 x y 58) (hx:∀u v,g9 [x,y] [u,v] x=u) (hy:∀u v,g9 [x,y] [u,v] y=v):Yld prog o [shR r,shR s] (.bool (!decide (r=s))):=by
 have h:=S6 (a:=rs r.num) (b:=rs (r.den:Int)) (c:=rs s.num) (d:=rs (s.den:Int)) ho hx hy;have e:(decide (rs r.num%M=rs s.num%M)&&decide (rs (r.den:Int)%M=rs (s.den:Int)%M))=decide (r=s):=by
  rw[bH,aF,oDi,oDi,oDi];constructor
  ·rintro⟨h1,h2⟩;have e1:=gp (Ol hr).1 (Ol hs).1 h1;have e2:=gp (Ol hr).2 (Ol hs).2 h2;exact Rat.ext e1 (by omega)
  ·rintro rfl;exact⟨rfl,rfl⟩
 rw[e]at h;exact h
theorem T2 (hr:Rg r):Con prog 23 [shR r] H fun u H'=>PH.le H H'/\u= .tuple #[.int .i64 (sgI r.num 0),.int .i64 0]:=
 (R2 _ _).mono fun u H' ⟨l,h⟩=>⟨l,by rw[h,S9 hr,T0 hr];rfl⟩
end
end Go.Proofs.Z
/- The reference of chapter 02: drafts. -/
namespace Go.Proofs.Z
open Go.Proofs.Tryz
open Go.ChangeShapes Go.WideShapes Go.ChangeAt Go.RowKit Go.RX Go.WD
section
variable {Hh:Type} {enc:TypeId×Value->Hh} {W:World} {base:Nat} {spare:Nat->Bool} {sF:Bool} {fuel:Nat}
theorem T3 {w:World} {b q j:Nat} {cs:Array Value} {T:TypeId} {fz:Nat×Nat} {v:Value} (hb:w.heap[b]? =some (.cells cs T fz)) (h:w.cell? ((⟨b,q,none⟩:Addr).add j)=some v):cs[q+j]? =some v:=by
 rw[Kx]at h;simp only[World.cell?,hb]at h;exact h
theorem JI {P:Program} {t e:TypeId} {sz:Nat} {cs:List Value} {x:DataW Hh×List MemPlace} (ht:P.underlying t=some (.slice e)) (hc:P.cellsOf e=sz) (rP:0<sz) (h:DataW.trod enc P W base spare sF fuel t cs=some x):
  ∃w n xs,cs=[w]/\Sl (fun b=>W.heap[b]?) sz w n xs/\∀i,i<n->∃y m,DataW.trod enc P W base spare sF m e ((xs.drop (i*sz)).take sz)=some y:=by
 rcases Go.Deep.open_slice ht h with⟨rfl,_⟩|⟨a,len,cap,m,n,D,Pl,rfl,_,hlc,uW,hm,_,hV⟩
 ·exact⟨_,0,[],rfl,⟨by simp,none,0,rfl,by omega,by simp[maxLen],.inl rfl⟩,fun i hi=>absurd hi (nZ _)⟩
 ·have hlm:len<=m:=by rw[hm];split<;>omega
  rw[hc]at hV;by_cases h0:len=0
  ·subst h0;exact⟨_,0,[],rfl,⟨by simp,a,cap,rfl,by omega,uW,.inl rfl⟩,fun i hi=>absurd hi (nZ _)⟩
  ·obtain⟨c0,g1,_⟩:=hV 0 (by omega);obtain⟨_,glen,gcell⟩:=World.cells?_some g1;have wQ:=gcell 0 rP;rw[aA (by omega)]at wQ;rw[dV,Go.Deep.add_add]at wQ;obtain⟨b,q,bc,T,fz,ha,hb,_⟩:=P2 wQ;have ha:=P3 ha;subst ha;have key:∀i,i<len->∃ci,ci.length=sz/\(∀j,j<sz->bc[q+(i*sz+j)]? =ci[j]?)/\DataW.trod enc P W base spare sF n e ci=some (D i,Pl i):=fun i hi=>by
    obtain⟨ci,k1,k2⟩:=hV i (by omega);obtain⟨_,klen,kcell⟩:=World.cells?_some k1;refine⟨ci,klen,fun j hj=> ?_,k2⟩;have:=kcell j hj;rw[aA (by omega)]at this⊢;rw[Go.Deep.add_add]at this;exact T3 hb this
   have a7c:q+len*sz<=bc.size:=by
    obtain⟨ci,klen,kcell,_⟩:=key (len-1) (by omega);have:=kcell (sz-1) (by omega);rw[aA (by omega)]at this;have:=(Array.getElem?_eq_some_iff.1 this).1;have e1:(len-1)*sz+sz=len*sz:=by rw[<-Nat.succ_mul];congr 1;omega
    omega
   refine⟨_,len,(bc.toList.drop q).take (len*sz),rfl,⟨?_,_,cap,rfl,hlc,uW,.inr ⟨b,q,bc,T,fz,rfl,hb,rfl⟩⟩,fun i hi=> ?_⟩
   ·rw[List.length_take,List.length_drop,Array.length_toList];omega
   ·obtain⟨ci,klen,kcell,k2⟩:=key i hi;refine⟨(D i,Pl i),n,?_⟩;rw[<-k2];congr 1;have pP:(i+1)*sz<=len*sz:=Nat.mul_le_mul_right _ hi;rw[cP,dS]at pP;apply List.ext_getElem?;intro j;rw[dE];split
    ·rename_i hj;rw[gR,dE,if_pos (by omega),gR,Array.getElem?_toList,kcell j hj]
    ·rename_i hj;rw[List.getElem?_eq_none (by omega)]
end
end Go.Proofs.Z
/- Sums and powers of shares: the program and the reference. -/
namespace Go.Proofs.Z
open Go.Proofs.Tryz
open Go.RowKit Go.RX Go.WD
theorem Rp.agg {H:PH} {v:Value} {r:Rat} (h:Rp H v r):Value.agg v.cells=v:=by
 obtain⟨w1,w2,rfl,_⟩:=h;rfl
end Go.Proofs.Z

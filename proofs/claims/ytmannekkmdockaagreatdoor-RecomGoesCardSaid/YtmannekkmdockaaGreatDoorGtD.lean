/- Lemmas: chapter 32. -/
import Derived.Test.YtmannekkmdockaaGreatDoorGtC
open Go.IntKind renaming wrap->wZ
open Bool renaming eq_iff_iff->bH,or_eq_true->bW
open Classical renaming choose->pE,choose_spec->iN
open Int renaming le_refl->jQ,ofNat_tmod->jO,tmod->eD
open List renaming all_eq_true->dJ,append_nil->dC,filter_congr->eL,foldl_append->fO,getD_eq_getElem?_getD->aB,getElem?_drop->gR,getElem?_eq_getElem->aA,getElem?_eq_none->aW,getElem?_eq_some_iff->aC,getElem?_replicate->iU,getElem?_set->bS,getElem?_take->dE,length_append->aJ,length_drop->cX,length_set->bD,length_take->cB,map_append->aX,map_cons->aM,map_nil->cL,mem_cons->aL,mem_filter->bJ,mem_iff_getElem?->bP,mem_of_getElem?->aI,mem_range->cK,nodup_range->fJ,not_mem_nil->cF,range->bL,replicate->bC,take_of_length_le->aK
open List.Perm renaming eq_of_pairwise->pC
open Nat renaming le_refl->aN,lt_of_le_of_lt->aY,lt_of_lt_of_le->bK,mod_lt->bO,pow_le_pow_right->aU,two_pow_pos->fF
namespace Go.GS
def cnC (es:List (Nat×Nat)) (S:Nat):Bool:= !decide (S=0)&&decide (Ai S es es.length (2^lst S)=S)
theorem d8L {es:List (Nat×Nat)} {S n:Nat} (hg:GV n es) (hs:S<M64):cnB es S=cnC es S:=by
 rw[bH,cnB_iff];unfold cnC;by_cases h0:S=0
 ·subst h0;simp only[decide_true,Bool.not_true,Bool.false_and,Bool.false_eq_true,iff_false];rintro⟨x,hx,_⟩;rw[Bz]at hx;cases hx
 ·have hx:=Nh hs h0;have hL:∀e∈es,e.1<64/\e.2<64:=fun e he=>by have:=hg.ed e he;have:=hg.n64;omega
  have hc:=Zq hx (Jz (set:=S) hL (An (Db hs hx)) es.length).1 (ye S es (2^lst S));rw[decide_eq_false h0,Bool.not_false,Bool.true_and,oDi];constructor
  ·intro hC;refine Ax fun y=> ?_;rw[bH,hc.2];exact⟨fun h=>h.mem hx,fun h=>hC.all hx h⟩
  ·intro e;refine⟨lst S,hx,fun y hy=>(hc.2 y).1 (by rw[e];exact hy)⟩
def alC (es:List (Nat×Nat)) (wl:List Int) (lo hi:Int) (S:Nat):Bool:=cnC es S&&(decide (Oy wl S≥lo)&&decide (Oy wl S<=hi))
theorem Wz {es:List (Nat×Nat)} {wl:List Int} {lo hi:Int} {S n:Nat} (hg:GV n es) (hs:S<M64):alB es wl lo hi S=alC es wl lo hi S:=by
 unfold alB alC;rw[d8L hg hs]
theorem d5w {n:Nat} {es:List (Nat×Nat)} {wl p:List Int} {lo hi ds:Int} (hg:GV n es) (hl:p.length<=64):y8 n es wl lo hi ds p=(decide (plE n p ds=0)&&(masks p ds.toNat).all (alC es wl lo hi)):=by
 unfold y8;congr 1;rw[bH,dJ,dJ];refine⟨fun h m hm=> ?_,fun h m hm=> ?_⟩
 ·rw[<-Wz hg (bK (xz hm hl) (aU (n:=2) (by decide) hl))];exact h m hm
 ·rw[Wz hg (bK (xz hm hl) (aU (n:=2) (by decide) hl))];exact h m hm
def es3:List (Nat×Nat):=[(0,1),(1,2),(2,3)]
def wl1:List Int:=[1,1,1,1]
theorem gv3:GV 4 es3:=⟨by decide,by decide,by decide,by decide,by unfold es3 elt;simp⟩
theorem bd3:bdE 4 wl1 1 3 2=0/\bdE 4 wl1 2 3 2=0:=by decide
theorem CC:y8 4 es3 wl1 1 3 2 [0,1,0,1]=false/\y8 4 es3 wl1 1 3 2 [0,0,0,0]=false/\y8 4 es3 wl1 1 3 2 [0,0,1,1]=true/\y8 4 es3 wl1 2 3 2 [0,0,1,1]=true/\y8 4 es3 wl1 1 3 2 [1,1,1,0]=true:=by
 refine⟨?_,?_,?_,?_,?_⟩<;>(rw[d5w gv3 (by decide)];decide+kernel)
theorem CE:TreeOk es3 15 [0,1,2]:=by
 refine⟨by simp,fun i hi=> ?_,fun i e hi he=> ?_,by decide⟩
 ·simp only[aL,cF,or_false]at hi;rcases hi with rfl|rfl|rfl
  ·exact(by decide:OkI es3 15 0)
  ·exact(by decide:OkI es3 15 1)
  ·exact(by decide:OkI es3 15 2)
 ·simp only[List.length_cons,List.length_nil]at hi
  match i,hi with
  |0,_=>cases he;decide
  |1,_=>cases he;decide
  |2,_=>cases he;decide
theorem bal3:Jf es3 wl1 1 3 15 [0,1,2] [0,1,2]=[0,1,2]/\Jf es3 wl1 2 3 15 [0,1,2] [0,1,2]=[1]:=by
 have h:∀lo,Jf es3 wl1 lo 3 15 [0,1,2] [0,1,2]=[0,1,2].filter fun k=>alC es3 wl1 lo 3 (y9 es3 15 [0,1,2] k)&&alC es3 wl1 lo 3 (sdf 15 (y9 es3 15 [0,1,2] k)):=fun lo=>by
  refine eL fun k _=> ?_;have h1:=jr (by decide) (by decide) CE k;rw[Wz gv3 (aY (sub_le h1) (by decide)),Wz gv3 (sdf_lt (by decide))]
 rw[h,h];decide+kernel
end Go.GS
namespace Go.Proofs.Z
open Go.Proofs.Tryz
open Go.RowKit Go.RX Go.GS Go.RZ
open Go.WD (BP Bf wd rs toI HM sgI Rb)
theorem sit3:SitO es3 4 2 [0,0,1,1]:=⟨gv3,by decide,by decide,by decide,by decide,by decide,by decide,by decide⟩
def TY (lo:Int) (a:Nat):Bool:=alC es3 wl1 lo 3 a&&(alC es3 wl1 lo 3 (sdf 15 a)&& !decide (m7 [0,0,1,1]=m7 (Bl [0,0,1,1] (0,1) a)))
theorem tr3:trN es3 15 [] 0=1/\trN es3 7 [] 0=1/\trN es3 8 [] 0=1/\trN es3 1 [] 0=1/\trN es3 14 [] 0=1:=by decide+kernel
theorem tn3 {S:Nat} (hs:S<M64) (h0:S≠0) (h:trN es3 S [] 0=1):tn es3 S=1:=by
 have h1:=RR (es:=es3) hs h0;rw[h]at h1;unfold tn;omega
theorem TZ {lo:Int}:Cd es3 wl1 lo 3 [0,0,1,1] (0,1)=(Bd 15).filter (TY lo):=by
 have hu:unP [0,0,1,1] (0,1)=15:=by decide
 unfold Cd;rw[hu,if_neg (by rw[Jo (by decide) (by decide),tn3 (by decide) (by decide) tr3.1];decide)];refine eL fun a ha=> ?_;have h1:=(aw (S:=15) (by decide) (by decide) ha).1;unfold Nk TY;rw[hu,Wz gv3 (aY (sub_le h1) (by decide)),Wz gv3 (sdf_lt (by decide))]
theorem par3a:Cd es3 wl1 1 3 [0,0,1,1] (0,1)=[7,1]/\Cd es3 wl1 2 3 [0,0,1,1] (0,1)=[]:=by
 rw[TZ,TZ];decide+kernel
theorem idx3:Em es3 wl1 1 3 2 [0,0,1,1]=[((0,1),7),((0,1),1)]/\Em es3 wl1 2 3 2 [0,0,1,1]=[]:=by
 have hd:i7 2=[(0,1)]:=by decide
 unfold Em;rw[hd];simp only[List.flatMap_cons,List.flatMap_nil,dC,par3a.1,par3a.2,aM,cL,and_self]
theorem UA {a:Nat} (ha:a∈Bd 15) (h1:tn es3 a=1) (h2:tn es3 (sdf 15 a)=1):Jm es3 4 1 [0,0,1,1] (0,1) a=1/3:=by
 have hu:unP [0,0,1,1] (0,1)=15:=by decide
 rw[BW (k:=2) (sit3.pr (pr:=(0,1)) (by decide)) (by decide) (by rw[hu];exact ha),hu,h1,h2,tn3 (by decide) (by decide) tr3.1];decide+kernel
theorem val3a:Jm es3 4 1 [0,0,1,1] (0,1) 7=1/3/\Jm es3 4 1 [0,0,1,1] (0,1) 1=1/3:=by
 have hm:7∈Bd 15/\1∈Bd 15:=by decide+kernel
 refine⟨UA hm.1 (tn3 (by decide) (by decide) tr3.2.1) ?_,UA hm.2 (tn3 (by decide) (by decide) tr3.2.2.2.1) ?_⟩
 ·exact tn3 (S:=sdf 15 7) (by decide) (by decide) (by have:=tr3.2.2.1;exact this)
 ·exact tn3 (S:=sdf 15 1) (by decide) (by decide) (by have:=tr3.2.2.2.2;exact this)
theorem odds3:Bt es3 wl1 1 3 4 2 [0,0,1,1]=[(m7 [0,0,0,1],1/3),(m7 [0,1,1,1],1/3)]/\Bt es3 wl1 2 3 4 2 [0,0,1,1]=[]:=by
 rw[sit3.odds,sit3.odds,idx3.1,idx3.2];have hl:(i7 2).length=1:=by decide
 have e1:Bl [0,0,1,1] (0,1) 7=[0,0,0,1]:=by decide
 have e2:Bl [0,0,1,1] (0,1) 1=[0,1,1,1]:=by decide
 simp only[aM,cL,Tn,hl,val3a.1,val3a.2,e1,e2,and_self]
theorem tot3:Ce es3 wl1 1 3 4 2 [0,0,1,1]=2/3/\Ce es3 wl1 2 3 4 2 [0,0,1,1]=0:=by
 unfold Ce;rw[odds3.1,odds3.2];simp only[aM,cL,sQ];decide+kernel
theorem CG:Ba es3 wl1 1 3 4 2 [0,0,1,1]=[(m7 [0,0,0,1],1/3),(m7 [0,1,1,1],1/3),(m7 [0,0,1,1],1/3)]:=by
 rw[sit3.all,odds3.1,tot3.1,if_pos (by decide+kernel),show(1:Rat)-2/3=1/3 by decide+kernel];rfl
theorem go3:goQ es3 wl1 1 3 4 2 [0,0,1,1] [1,1,1,0]=1/3/\goQ es3 wl1 2 3 4 2 [0,0,1,1] [0,0,1,1]=1:=by
 have hc:n8 [0,0,1,1]=[0,0,1,1]:=by decide
 have rD:n8 [1,1,1,0]=[0,0,0,1]:=by decide
 unfold goQ;rw[hc,rD];refine⟨Tj Wy (by rw[CG];simp),?_⟩;rw[sit3.stayv,tot3.2];decide+kernel
theorem rb3:Rb 256 (1/3)/\Rb 256 1:=by
 unfold Rb;decide+kernel
theorem e1l {ps:List (List Int)} (hp:ps.Perm ((Ba es3 wl1 1 3 4 2 [0,0,1,1]).map fun x=>x.1.take 4)) (ho:ps.Pairwise (fun a b=>¬Aj b a<0)):ps=[[0,0,0,1],[0,0,1,1],[0,1,1,1]]:=by
 rw[CG]at hp;have rE:ps.Perm [[0,0,0,1],[0,0,1,1],[0,1,1,1]]:=hp.trans (by decide+kernel);refine pC (le:=fun a b=>¬Aj b a<0) (fun a b ha hb h1 h2=> ?_) ho (by decide) rE;have vA:=rE.mem_iff.1 ha;have rI:=hb
 revert h1 h2
 simp only[aL,cF,or_false]at vA rI;rcases vA with rfl|rfl|rfl<;>rcases rI with rfl|rfl|rfl<;>decide
theorem e0n {q:List Int} (hq:q∈[[0,0,0,1],[0,0,1,1],[0,1,1,1]]):vO (Ba es3 wl1 1 3 4 2 [0,0,1,1]) (m7 q)=1/3:=by
 refine Tj Wy ?_;rw[CG];simp only[aL,cF,or_false]at hq;rcases hq with rfl|rfl|rfl<;>simp
end Go.Proofs.Z
/- Chapter 32: drafts: the bounds fit the plan. -/
namespace Go.GS
def dsm (p wl:List Int):Nat->Nat->Int
 |0,_=>0
 |i+1,d=>dsm p wl i d+if p.getD i 0=(d:Int)then wl.getD i 0 else 0
theorem CH {p wl:List Int} (h:∀z∈wl,0<=z/\z<=9):∀i d,0<=dsm p wl i d/\dsm p wl i d<=9*i
 |0,_=>⟨jQ _,jQ _⟩
 |i+1,d=>by
  have ih:=CH (p:=p) h i d;have hz:0<=wl.getD i 0/\wl.getD i 0<=9:=by
   rw[aB];cases e:wl[i]? with
   |none=>exact⟨by simp,by simp⟩
   |some z=>exact h z (aI e)
  simp only[dsm];split<;>omega
end Go.GS
namespace Go.Proofs.Z
open Go.Proofs.Tryz
open Go.RowKit Go.RX Go.GS
section
variable {H:PH} {u wts:Value} {p wl:List Int} {lo hi:Int} {k:Nat}
theorem d5y {a b z:Int} (h1:z<=a) (h2:z<=b):z<=(if b<a then b else a):=by split<;>omega
theorem d5z {a b z:Int} (h1:a<=z) (h2:b<=z):(if b>a then b else a)<=z:=by split<;>omega
theorem d5A {l:List Int} {z:Int} (h:l[0]? =some z) {d':Nat} {y:Int} (qB:d'<1) (hy:l[d']? =some y):z<=y/\y<=z:=by
 obtain rfl:d'=0:=by omega
 rw[h]at hy;cases hy;exact⟨jQ _,jQ _⟩
theorem d5B {l:List Int} {a b z:Int} {d:Nat} (h:∀(d':Nat) (y:Int),d'<d->l[d']? =some y->a<=y/\y<=b) (hd:l[d]? =some z) {d':Nat} {y:Int} (qB:d'<d+1) (hy:l[d']? =some y):(if z<a then z else a)<=y/\y<=(if z>b then z else b):=by
 by_cases e:d'=d
 ·subst e;rw[hd]at hy;cases hy;refine⟨?_,?_⟩<;>split<;>omega
 ·have:=h d' y (by omega) hy;refine⟨?_,?_⟩<;>split<;>omega
theorem c9h {p wl l:List Int} (hz9:∀z∈wl,0<=z/\z<=9) {i d:Nat} {x:Int} (hx:p[i]? =some ((d:Nat):Int)) (hw:wl[i]? =some x) (hi:i<64) (zW:∀d,d<8->l[d]? =some (dsm p wl i d)) (hl:l.length=8) (hd8:d<8) {d':Nat} (qB:d'<8):(l.set d (wZ .i64 (l[d]'(by omega)+x)))[d']? =some (dsm p wl (i+1) d'):=by
 have e1:l[d]'(by omega)=dsm p wl i d:=by
  have:=zW d hd8;rw[aA (by omega)]at this;exact Option.some.inj this
 have hb:=CH (p:=p) hz9 i d;have hx9:=hz9 x (aI hw);have ep:p.getD i 0=(d:Int):=by rw[aB,hx];rfl
 have ew:wl.getD i 0=x:=by rw[aB,hw];rfl
 rw[bS,e1,IntKind.wrap_i64];simp only[dsm];rw[ep,ew];by_cases e:d=d'
 ·subst e;rw[if_pos rfl,if_pos (by omega),if_pos rfl];congr 1;omega
 ·rw[if_neg e,if_neg (by omega),zW d' qB,Int.add_zero]
theorem b5W (hz9:∀z∈wl,0<=z/\z<=9) (wG:p.length<=64) (tH:1<=k) (hu:SI H u p) (qV:SI H wts wl) (pR:p.length<=wl.length) (hp:∀x∈p,0<=x/\x<8) (hk:k<=8):Con prog 44 [bv wts lo hi (k:Nat),u] H fun r H'=>H'=H/\∃a b,r= .tuple #[ii a,ii b]/\0<=a/\a<=b/\b<=576/\∀d,d<k->a<=dsm p wl p.length d/\dsm p wl p.length d<=b:=by
 refine j3 mixed c3f ?_;have qN:=hu.len;refine d9 (Gs (Af qV) _ _ _) ?_;refine Dq (α:=Nat×List Int) (fun⟨i,l⟩=>[ii (i:Nat),arI l]) (fun⟨i,l⟩=>i<=p.length/\l.length=8/\∀d,d<8->l[d]? =some (dsm p wl i d)) (fun⟨i,l⟩=>p.length-i) ((0,bC 8 0)) (j4 rfl z_8) (⟨Nat.zero_le _,rfl,fun d hd=>by rw[iU,if_pos hd];rfl⟩) fun⟨i,l⟩ hQ=> ?_;obtain⟨pW,hl,zW⟩:=hQ;refine j7 el_plan hu ?_;refine d4 (d4 ?_);refine i0 (b:=decide (((i:Nat):Int)<(p.length:Nat))) rfl (fun h=> ?_) (fun h=> ?_)
 ·replace h:=oDt h;have uG:i<p.length:=by omega
  obtain⟨x,hx,_⟩:=t7 uG;obtain⟨hx0,hx8⟩:=hp x (aI hx);obtain⟨d,rfl⟩:∃d:Nat,x=(d:Int):=⟨x.toNat,by omega⟩;have hd:l[d]? =some l[d]:=aA (by omega);refine j8 el_plan hu hx fun _=> ?_;refine j8 el_plan hu hx fun _=> ?_;refine d9 ⟨_,_,rfl⟩ ?_;refine d9 ⟨hx0,hx8⟩ ?_;refine j8 el_int qV (aA (show i<wl.length by omega)) fun _=> ?_;refine d9 ⟨_,lw rfl rfl hd⟩ ?_;refine d4 ?_;refine d9 ⟨_,_,rfl⟩ ?_;refine d9 ⟨hx0,hx8⟩ ?_;exact⟨(i+1,l.set d (wZ .i64 (l[d]+wl[i]))),by show p.length-(i+1)<p.length-i;omega,(j4 (i9 rfl (by omega)) (c8w rfl (d7R (lw rfl rfl hd) rfl) rfl)),⟨⟨uG,by rw[bD];exact hl,fun d' qB=>c9h hz9 hx (aA (show i<wl.length by omega)) (by omega) zW hl (by omega) qB⟩,rfl⟩⟩
 ·replace h:=oDf h;have h0:l[0]? =some l[0]:=aA (by omega);have sH:∀(d:Nat) (y:Int),l[d]? =some y->0<=y/\y<=576:=fun d y hy=>by
   have hd8:d<8:=by have:=(aC.1 hy).1;omega
   rw[zW d hd8]at hy;cases hy;have:=CH (p:=p) hz9 i d;omega
  refine Dq (α:=Nat×Int×Int) (fun⟨d,a,b⟩=>[ii a,ii b,ii (d:Nat)]) (fun⟨d,a,b⟩=>1<=d/\d<=8/\0<=a/\b<=576/\∀d' y,d'<d->l[d']? =some y->a<=y/\y<=b) (fun⟨d,a,b⟩=>8-d) ((1,l[0],l[0])) (Cc (PI rfl h0) (PI rfl h0) rfl) (⟨aN _,by decide,(sH 0 _ h0).1,(sH 0 _ h0).2,fun d' y qB hy=>d5A h0 qB hy⟩) fun⟨d,a,b⟩ hQ=> ?_;obtain⟨yE,hd8,ha0,vE,rL⟩:=hQ;refine d4 (d4 ?_);refine i0 (b:=decide (((d:Nat):Int)<(k:Nat))) rfl (fun h2=> ?_) (fun h2=> ?_)
  ·replace h2:=oDt h2;have hd:l[d]? =some l[d]:=aA (by omega);refine d9 ⟨_,_,rfl⟩ ?_;refine d9 ⟨by show(0:Int)<=((d:Nat):Int);omega,by show((d:Nat):Int)<8;omega⟩ ?_;refine r7 ((LN (vs:=[ii a,ii l[d]]) rfl rfl rfl).rds _) (j4 rfl (lw rfl rfl hd)) ?_;refine r7 ((yh (vs:=[ii b,ii l[d]]) rfl rfl rfl).rds _) (j4 rfl (lw rfl rfl hd)) ?_;exact⟨(d+1,(if l[d]<a then l[d]else a),(if l[d]>b then l[d]else b)),by show 8-(d+1)<8-d;omega,(Cc rfl rfl (i9 rfl (by omega))),⟨⟨by show 1<=d+1;omega,by show d+1<=8;omega,(d5y ha0 (sH d _ hd).1),(d5z vE (sH d _ hd).2),fun d' y qB hy=>d5B rL hd qB hy⟩,rfl⟩⟩
  ·replace h2:=oDf h2;have uF:i=p.length:=by omega
   subst uF;exact g8 rfl ⟨rfl,a,b,rfl,ha0,Int.le_trans (rL 0 _ (by omega) h0).1 (rL 0 _ (by omega) h0).2,vE,fun d' qB=>rL d' _ (by omega) (zW d' (by omega))⟩
end
theorem bm {z:Int} (h0: -100000<=z) (h1:z<=100000):wZ .i64 z=z:=by
 rw[IntKind.wrap_i64];omega
theorem d5C {ρ:List Value} {x:SV} {a:Nat} (hx:D prog ρ x= .int .u8 (a:Nat)):D prog ρ (.cv .i64 (.op2 .rem .u8 x (.k (.int .u8 10))))=ii ((a%10:Nat):Int):=by
 show Value.int .i64 (wZ .i64 (eD (intOf (D prog ρ x)) 10))=_;rw[hx];show Value.int .i64 (wZ .i64 (eD ((a:Nat):Int) ((10:Nat):Int)))=_;have:=bO a (show 0<10 by decide);rw[<-jO,bm (by omega) (by omega)];rfl
theorem e0o {a b:Int} {s0 s1:Nat} (h0:0<=a) (h1:a<=b) (h2:b<=576):0<=(if wZ .i64 (a-wZ .i64 (eD ((s0:Nat):Int) 6))>0 then wZ .i64 (a-wZ .i64 (eD ((s0:Nat):Int) 6))else 0)/\(if wZ .i64 (a-wZ .i64 (eD ((s0:Nat):Int) 6))>0 then wZ .i64 (a-wZ .i64 (eD ((s0:Nat):Int) 6))else 0)<=a/\b<=wZ .i64 (b+wZ .i64 (eD ((s1:Nat):Int) 6))/\wZ .i64 (b+wZ .i64 (eD ((s1:Nat):Int) 6))<=1000:=by
 have e0:eD ((s0:Nat):Int) 6=((s0%6:Nat):Int):=(jO s0 6).symm;have e1:eD ((s1:Nat):Int) 6=((s1%6:Nat):Int):=(jO s1 6).symm;have l0:=bO s0 (show 0<6 by decide);have l1:=bO s1 (show 0<6 by decide);rw[e0,e1];generalize s0%6=x at*;generalize s1%6=y at*;have w0:wZ .i64 ((x:Nat):Int)=(x:Nat):=bm (by omega) (by omega);have w1:wZ .i64 ((y:Nat):Int)=(y:Nat):=bm (by omega) (by omega);have w2:wZ .i64 (a-(x:Nat))=a-(x:Nat):=bm (by omega) (by omega);have w3:wZ .i64 (b+(y:Nat))=b+(y:Nat):=bm (by omega) (by omega);rw[w0,w1,w2,w3];split<;>omega
end Go.Proofs.Z
/- Labels of what some edges join. -/
namespace Go.GS
def Gw (L:List (Nat×Nat)) (j:Nat):List (Nat×Nat):=(bL j).map fun i=>L.getD (i%L.length) (0,0)
section
variable {L:List (Nat×Nat)} {n x next j:Nat} {p:List Int}
theorem UB (L:List (Nat×Nat)) (j:Nat):Gw L (j+1)=Gw L j++[L.getD (j%L.length) (0,0)]:=by
 unfold Gw;rw[List.range_succ,aX];rfl
theorem UC (L:List (Nat×Nat)) (s:Nat):∀m,rnd o0 (Gw L (m*L.length)) s=Ai o0 L m s
 |0=>by rw[Nat.zero_mul];rfl
 |m+1=>by
  have h:Gw L ((m+1)*L.length)=Gw L (m*L.length)++L:=by
   unfold Gw;rw[Nat.succ_mul,List.range_add,aX,List.map_map];congr 1;apply List.ext_getElem?;intro i;by_cases hi:i<L.length
   ·rw[List.getElem?_map,aA (by simpa using hi)];simp only[List.getElem_range,Option.map_some,Function.comp];rw[show(m*L.length+i)%L.length=i by rw[Nat.mul_comm,Nat.mul_add_mod,Nat.mod_eq_of_lt hi],aB,aA hi];rfl
   ·rw[aW (by simp;omega),aW (by omega)]
  rw[h];unfold rnd;rw[fO];show rnd o0 L (rnd o0 (Gw L (m*L.length)) s)=_;rw[UC L s m];rfl
structure LabA (n:Nat) (L:List (Nat×Nat)) (x next:Nat) (p:List Int):Prop where
 len:p.length=n
 nx:next<=x
 rng:∀(y:Nat) (z:Int),p[y]? =some z-> -1<=z/\z<(next:Int)
 done:∀(y:Nat) (z:Int),y<x->p[y]? =some z->0<=z
 use:∀d:Nat,d<next->∃y:Nat,p[y]? =some (d:Int)
 cls:∀y z d:Nat,p[y]? =some (d:Int)->(p[z]? =some (d:Int)↔Rch L o0 y z)
structure LabB (n:Nat) (L:List (Nat×Nat)) (x next j:Nat) (p:List Int):Prop where
 len:p.length=n
 nx:next<=x
 rng:∀(y:Nat) (z:Int),p[y]? =some z-> -1<=z/\z<(next:Int)+1
 done:∀(y:Nat) (z:Int),y<x+1->p[y]? =some z->0<=z
 use:∀d:Nat,d<next+1->∃y:Nat,p[y]? =some (d:Int)
 old:∀y z d:Nat,d<next->p[y]? =some (d:Int)->(p[z]? =some (d:Int)↔Rch L o0 y z)
 cur:∀y:Nat,p[y]? =some (next:Int)↔bit (rnd o0 (Gw L j) (2^x)) y=true
theorem LabA.start (n:Nat) (L:List (Nat×Nat)):LabA n L 0 0 (bC n (-1)) where
 len:=List.length_replicate
 nx:=aN 0
 rng:=fun y z h=>by
  rw[iU]at h;split at h
  ·injection h with h;omega
  ·cases h
 done:=fun y z h=>by omega
 use:=fun d h=>by omega
 cls:=fun y z d h=>by
  rw[iU]at h;split at h
  ·injection h with h;omega
  ·cases h
theorem LabA.skip {z:Int} (h:LabA n L x next p) (hz:p[x]? =some z) (h0:0<=z):LabA n L (x+1) next p:=by
 refine⟨h.len,Nat.le_succ_of_le h.nx,h.rng,fun y w hy hw=> ?_,h.use,h.cls⟩;by_cases e:y=x
 ·subst e;rw[hz]at hw;injection hw with hw;omega
 ·exact h.done y w (by omega) hw
theorem LabA.begin {z:Int} (h:LabA n L x next p) (hz:p[x]? =some z) (h0:z<0):LabB n L x next 0 (p.set x (next:Int)):=by
 have hx:=(aC.1 hz).1;have hs:∀y,(p.set x (next:Int))[y]? =if x=y then some (next:Int)else p[y]?:=fun y=>by
  rw[bS];by_cases e:x=y
  ·rw[if_pos e,if_pos e,if_pos (by omega)]
  ·rw[if_neg e,if_neg e]
 refine⟨by rw[bD];exact h.len,h.nx,fun y w hw=> ?_,fun y w hy hw=> ?_,fun d hd=> ?_,fun y w d hd hy=> ?_,fun y=> ?_⟩
 ·rw[hs]at hw;split at hw
  ·injection hw with hw;omega
  ·have:=h.rng y w hw;omega
 ·rw[hs]at hw;split at hw
  ·injection hw with hw;omega
  ·exact h.done y w (by omega) hw
 ·by_cases e:d=next
  ·exact⟨x,by rw[hs,if_pos rfl,e]⟩
  ·obtain⟨y,hy⟩:=h.use d (by omega);refine⟨y,?_⟩;rw[hs,if_neg]
   ·exact hy
   ·intro e;subst e;rw[hz]at hy;injection hy with hy;omega
 ·rw[hs]at hy;split at hy
  ·injection hy with hy;omega
  ·rw[hs];by_cases e:x=w
   ·subst e;rw[if_pos rfl];refine⟨fun hh=>by injection hh with hh;omega,fun hr=> ?_⟩;have:=(h.cls y x d hy).2 hr;rw[hz]at this;injection this with this;omega
   ·rw[if_neg e];exact h.cls y w d hy
 ·rw[hs];show _↔bit (2^x) y=true;rw[Ae,oDi];split
  ·rename_i e;simp[e]
  ·rename_i e;refine⟨fun hh=> ?_,fun hh=>absurd hh e⟩;have:=h.rng y _ hh;omega
theorem LabB.step {e:Nat×Nat} (h:LabB n L x next j p) (hn:n<=64) (he:L.getD (j%L.length) (0,0)=e) (hm:e∈L) (h1:e.1<n) (h2:e.2<n) (pT:e.1≠e.2) (hh:p[e.1]? =some (next:Int)\/p[e.2]? =some (next:Int)):LabB n L x next (j+1) ((p.set e.1 (next:Int)).set e.2 (next:Int)):=by
 have pR:=h.len;have hs:∀y,((p.set e.1 (next:Int)).set e.2 (next:Int))[y]? =if e.1=y\/e.2=y then some (next:Int)else p[y]?:=fun y=>by
  rw[bS,bS,bD];by_cases a:e.2=y
  ·rw[if_pos a,if_pos (by omega),if_pos (.inr a)]
  ·rw[if_neg a];by_cases b:e.1=y
   ·rw[if_pos b,if_pos (by omega),if_pos (.inl b)]
   ·rw[if_neg b,if_neg (fun hh=>hh.elim b a)]
 have sS:∀y,y<64->bit o0 y=true:=fun y=>Po;have uU:∀y d:Nat,d<next->p[y]? =some (d:Int)->¬(e.1=y\/e.2=y):=fun y d hd hy hc=>by
  have key:∀u v:Nat,adj L u v->v<64->p[u]? =some (d:Int)->p[v]? =some (next:Int)->False:=fun u v ha hv hu zX=>by
   have:=(h.old u v d hd hu).2 (Rch.base.step ha (sS v hv));rw[zX]at this;injection this with this;omega
  have a12:adj L e.1 e.2:=⟨e,hm,.inl ⟨rfl,rfl⟩⟩;rcases hc with rfl|rfl
  ·rcases hh with hh|hh
   ·rw[hy]at hh;injection hh with hh;omega
   ·exact key _ _ a12 (by omega) hy hh
  ·rcases hh with hh|hh
   ·exact key _ _ a12.symm (by omega) hy hh
   ·rw[hy]at hh;injection hh with hh;omega
 refine⟨by rw[bD,bD];exact pR,h.nx,fun y w hw=> ?_,fun y w hy hw=> ?_,fun d hd=> ?_,fun y w d hd hy=> ?_,fun y=> ?_⟩
 ·rw[hs]at hw;split at hw
  ·injection hw with hw;omega
  ·exact h.rng y w hw
 ·rw[hs]at hw;split at hw
  ·injection hw with hw;omega
  ·exact h.done y w hy hw
 ·by_cases qB:d=next
  ·exact⟨e.1,by rw[hs,if_pos (.inl rfl),qB]⟩
  ·obtain⟨y,hy⟩:=h.use d hd;exact⟨y,by rw[hs,if_neg (uU y d (by omega) hy)];exact hy⟩
 ·rw[hs]at hy;split at hy
  ·injection hy with hy;omega
  ·rw[hs];split
   ·rename_i hc;refine⟨fun hq=>by injection hq with hq;omega,fun hr=> ?_⟩;exact absurd hc (uU w d hd ((h.old y w d hd hy).2 hr))
   ·exact h.old y w d hd hy
 ·rw[hs,UB,he];unfold rnd;rw[fO];show _↔bit (rst o0 (rnd o0 (Gw L j) (2^x)) e) y=true;rw[jq (by omega) (by omega)];rw[h.cur,h.cur]at hh;have a3:(bit (rnd o0 (Gw L j) (2^x)) e.1||bit (rnd o0 (Gw L j) (2^x)) e.2)=true:=by rw[bW];exact hh
  rw[if_pos a3,Ac,Ac,Ae,Ae];by_cases hc:e.1=y\/e.2=y
  ·rw[if_pos hc];rcases hc with hc|hc<;>simp[hc]
  ·rw[if_neg hc,h.cur y];rw[decide_eq_false (fun a=>hc (.inl a)),decide_eq_false (fun a=>hc (.inr a))];simp
theorem LabB.pass {e:Nat×Nat} (h:LabB n L x next j p) (hn:n<=64) (he:L.getD (j%L.length) (0,0)=e) (h1:e.1<n) (h2:e.2<n) (hh:p[e.1]?≠some (next:Int)/\p[e.2]?≠some (next:Int)):LabB n L x next (j+1) p:=by
 refine⟨h.len,h.nx,h.rng,h.done,h.use,h.old,fun y=> ?_⟩;rw[UB,he];unfold rnd;rw[fO];show _↔bit (rst o0 (rnd o0 (Gw L j) (2^x)) e) y=true;rw[jq (by omega) (by omega)];have a1:=mt (h.cur e.1).2 hh.1;have a2:=mt (h.cur e.2).2 hh.2;have a3:¬(bit (rnd o0 (Gw L j) (2^x)) e.1||bit (rnd o0 (Gw L j) (2^x)) e.2)=true:=by rw[bW];exact fun hc=>hc.elim a1 a2
 rw[if_neg a3];exact h.cur y
theorem LabB.end (h:LabB n L x next (L.length*L.length) p) (hx:x<64) (hL:∀e∈L,e.1<64/\e.2<64):LabA n L (x+1) (next+1) p:=by
 have hc:∀y,p[y]? =some (next:Int)↔Rch L o0 x y:=fun y=>by
  rw[h.cur,UC];exact(Zq (Po hx) (Jz hL (An hx) L.length).1 (ye o0 L (2^x))).2 y
 refine⟨h.len,Nat.succ_le_succ h.nx,fun y z hz=>by have:=h.rng y z hz;omega,h.done,h.use,fun y z d hy=> ?_⟩;by_cases hd:d<next
 ·exact h.old y z d hd hy
 ·obtain rfl:d=next:=by have:=h.rng y _ hy;omega
  have tC:=(hc y).1 hy;rw[hc];exact⟨fun hz=>(tC.symm (Po hx)).trans hz,fun hz=>tC.trans hz⟩
end
section
variable {L es:List (Nat×Nat)} {n next k:Nat} {p:List Int}
theorem LabA.at (h:LabA n L n next p) {y:Nat} (hy:y<n):∃d:Nat,d<next/\p[y]? =some (d:Int):=by
 have h1:=aA (show y<p.length by rw[h.len];exact hy);have h2:=h.rng y _ h1;have h3:=h.done y _ hy h1;exact⟨(p[y]'(by rw[h.len];exact hy)).toNat,by omega,by rw[h1];congr 1;omega⟩
open Classical in
theorem d5D (h:LabA n L n next p) (hn:n<=64) (pY:Inn (2^n-1) L):next=cnt (lab L) (2^n-1):=by
 have hb:∀y,bit (2^n-1) y=decide (y<n):=fun y=>Nat.testBit_two_pow_sub_one n y;have hM:2^n-1<M64:=by
  have:=aU (n:=2) (by decide) hn;have:=fF n;have e:(2:Nat)^64=M64:=by decide
  omega
 have hrl:∀y z,y<n->z<n->(lab L y=lab L z↔Rch L o0 y z):=fun y z hy hz=>by
  rw[Pj pY (by rw[hb];exact oDd hy) (by rw[hb];exact oDd hz)];exact(Zt hM pY (by rw[hb];exact oDd hy)).symm
 have pO:∀y,y<n->lab L y<n:=fun y hy=>by
  have:=Ib pY y (by rw[hb];exact oDd hy);rw[hb,oDi]at this;exact this
 unfold cnt;refine Nat.le_antisymm ?_ ?_
 ·have:=nh (l:=bL next) (m:=(bL 64).filter fun x=>bit (2^n-1) x&&decide (lab L x=x)) (fun d=>if hd:∃y:Nat,p[y]? =some (d:Int)then lab L (pE hd)else 0) fJ (fun d hd d' qB e=> ?_) (fun d hd=> ?_)
  ·simpa using this
  ·have u:=h.use d (cK.1 hd);have u':=h.use d' (cK.1 qB);simp only[dif_pos u,dif_pos u']at e;have s:=iN u;have s':=iN u';have l:=(aC.1 s).1;have l':=(aC.1 s').1;rw[h.len]at l l';have r:=(hrl _ _ l l').1 e;have:=(h.cls _ _ d s).2 r;rw[s']at this;injection this with this;omega
  ·have u:=h.use d (cK.1 hd);simp only[dif_pos u];have s:=iN u;have l:=(aC.1 s).1;rw[h.len]at l;have h2:=pO _ l;rw[bJ,hb,(Lb.lab L).idm];exact⟨cK.2 (by omega),by simp[h2]⟩
 ·have:=nh (l:=(bL 64).filter fun x=>bit (2^n-1) x&&decide (lab L x=x)) (m:=bL next) (fun y=>(p.getD y 0).toNat) (fJ.filter _) (fun y hy z hz e=> ?_) (fun y hy=> ?_)
  ·simpa using this
  ·have f:∀{y},y∈((bL 64).filter fun x=>bit (2^n-1) x&&decide (lab L x=x))->y<n/\lab L y=y:=fun hy=>by
    have:=(bJ.1 hy).2;rw[hb]at this;simpa using this
   obtain⟨y1,y2⟩:=f hy;obtain⟨z1,z2⟩:=f hz;obtain⟨d,_,hd⟩:=h.at y1;obtain⟨d',_,qB⟩:=h.at z1;rw[aB,aB,hd,qB]at e;have e:d=d':=by simpa using e
   subst e;have:=(hrl y z y1 z1).2 ((h.cls y z d hd).1 qB);rw[y2,z2]at this;exact this
  ·have hy:=(bJ.1 hy).2;rw[hb]at hy;have hy:y<n:=by simp at hy;exact hy.1
   obtain⟨d,hd,e⟩:=h.at hy;rw[aB,e];simpa using hd
theorem d5E (h:LabA n L n next p) (hn:n<=64) (pY:Inn (2^n-1) L) (hc:card (2^n-1)=n) (ha:Acy L L.length):next+L.length=n:=by
 have hM:2^n-1<M64:=by
  have:=aU (n:=2) (by decide) hn;have:=fF n;have e:(2:Nat)^64=M64:=by decide
  omega
 have h3:=Vo hM pY L.length (aN _);rw[List.take_length,(Zr _ (aN _)).2 ha,hc,<-d5D h hn pY]at h3;exact h3
theorem UD (h:LabA n L n next p) (hn:n<=64) (h1:1<=n):LabOk p (next:Nat)/\Ak p next:=by
 refine⟨⟨fun z hz=> ?_,by rw[h.len];omega,by rw[h.len];exact hn⟩,fun d hd=> ?_⟩
 ·obtain⟨y,hy⟩:=bP.1 hz;have hyl:=(aC.1 hy).1;rw[h.len]at hyl;have h2:=h.rng y z hy;have h3:=h.done y z hyl hy;omega
 ·obtain⟨y,hy⟩:=h.use d hd;exact mask_mem2.2 (aI hy)
theorem d8M (h:LabA n L n next p) (hL:∀e∈L,e∈es) {d:Nat} (hd:d<next):Cn es (j5 p (d:Nat)):=by
 obtain⟨y,hy⟩:=h.use d hd;refine⟨y,by rw[Eb];exact oDd hy,fun z hz=> ?_⟩;rw[Eb,oDi]at hz;have hr:=(h.cls y z d hy).1 hz;clear hz;induction hr with
 |base=>exact .base
 |step h1 ha hz ih=>
  obtain⟨e,he,hh⟩:=ha;exact ih.step ⟨e,hL e he,hh⟩ (by rw[Eb];exact oDd ((h.cls y _ d hy).2 (h1.step ⟨e,he,hh⟩ hz)))
theorem c9i (pY:Inn (2^n-1) L) (ha:Acy L L.length) (j:Nat):Acy (L.take j++L.drop (j+1)) (L.take j++L.drop (j+1)).length:=by
 intro i e hi he;by_cases sA:i<j
 ·have hl:(L.take j).length=min j L.length:=cB;by_cases hiL:i<L.length
  ·rw[List.getElem?_append_left (by rw[hl];omega),dE,if_pos sA]at he;rw[List.take_append_of_le_length (by rw[hl];omega),List.take_take,Nat.min_eq_left (by omega)];exact ha i e hiL he
  ·simp only[aJ,cB,cX]at hi;omega
 ·by_cases hj:j<L.length
  ·have hl:(L.take j).length=j:=by rw[cB];omega
   rw[List.getElem?_append_right (by omega),hl,gR]at he;have yQ:L[i+1]? =some e:=by rw[<-he];congr 1;omega
   have hi1:=(aC.1 yQ).1;have h2:=ha (i+1) e hi1 yQ;intro hc;apply h2;have qS:∀f∈(L.take j++L.drop (j+1)).take i,f∈L.take (i+1):=fun f hf=>by
    rw[List.take_append,hl]at hf;rcases List.mem_append.1 hf with hf|hf
    ·rw[aK (by rw[hl];omega)]at hf;obtain⟨m,hm⟩:=bP.1 hf;rw[dE]at hm;split at hm
     ·exact bP.2 ⟨m,by rw[dE,if_pos (by omega)];exact hm⟩
     ·cases hm
    ·obtain⟨m,hm⟩:=bP.1 hf;rw[dE]at hm;split at hm
     ·rw[gR]at hm;exact bP.2 ⟨j+1+m,by rw[dE,if_pos (by omega)];exact hm⟩
     ·cases hm
   have in1:Inn (2^n-1) (L.take (i+1)):=fun f hf=>pY f (List.mem_of_mem_take hf);have in2:Inn (2^n-1) ((L.take j++L.drop (j+1)).take i):=fun f hf=>in1 f (qS f hf);have hee:=pY e (aI yQ);rw[Pj in1 hee.1 hee.2];rw[Pj in2 hee.1 hee.2]at hc;exact hc.mono qS fun z hz=>hz
  ·simp only[aJ,cB,cX]at hi;have e1:L.take j=L:=aK (by omega);have e2:L.drop (j+1)=[]:=List.drop_of_length_le (by omega);rw[e1,e2,dC]at he⊢;exact ha i e (by omega) he
end
end Go.GS

/- Chapter 32: parts of a step. -/
import Derived.Test.YtmannekkmdockaaGreatDoorGyE
open Classical renaming byContradiction->aP
open Go.Sem renaming run_bind->aG
open List renaming append_assoc->bG,append_nil->dC,eq_nil_of_length_eq_zero->aZ,getElem?_append_left->dB,getElem?_eq_none->aW,getElem?_eq_some_iff->aC,length_append->aJ,length_filter_le->fM,length_nil->dM,length_replicate->lV,length_set->bD,length_take->cB,mem_iff_getElem?->bP,mem_map->aH,mem_of_getElem?->aI,mem_singleton->aQ,nil_append->bV,replicate->bC,set_set->oP
open List.Nodup renaming idxOf_getElem->oO
open Nat renaming le_refl->aN,le_trans->aS,mul_le_mul->cI,sub_self->iQ,zero_le->bI,zero_mul->dV
open Option.some renaming injEq->aD
open Prod.mk renaming injEq->eB
namespace Go.GS
open Go.RowKit Go.RX
theorem b9w (s n:Nat):(s&&&2^n≠0)↔bit s n=true:=by
 have h:=or_zero (s:=s) (a:=n) (b:=n);rw[Nat.or_self]at h;cases hb:bit s n with
 |false=>simp[h.2 ⟨hb,hb⟩]
 |true=>simp only[iff_true];exact fun e=>by have:=(h.1 e).1;rw[hb]at this;cases this
theorem Wh {P:Program} {ρ:List Value} {a b:SV} {A n:Nat} {k:IntKind} (ha:D P ρ a=uv A) (hA:A<M64) (hb:D P ρ b= .int k (n:Nat)) (hn:n<64):D P ρ (.op2 .neq .u64 (.op2 .and .u64 a (.op2 .shl .u64 (.k (.int .u64 1)) b)) (.k (.int .u64 0)))= .bool (bit A n):=by
 show t8 .neq .u64 (intOf (D P ρ (.op2 .and .u64 a (.op2 .shl .u64 (.k (.int .u64 1)) b)))) 0=_;rw[Ej ha (Ez hb hn) hA (An hn)];show Value.bool (((A&&&2^n:Nat):Int) !=0)=_;have:=b9w A n;cases h:bit A n with
 |true=>have h2:=this.2 h;simp;omega
 |false=>
  have h2:A&&&2^n=0:=aP fun e=>by rw[this.1 e]at h;cases h
  rw[h2];rfl
end Go.GS
namespace Go.Proofs.Z
open Go.Proofs.Tryz
open Go.RowKit Go.RX Go.GS
section
variable {H H0:PH} {u v w wts:Value} {p wl t:List Int} {n:Nat} {es:List (Nat×Nat)} {lo hi ds k:Int} {set x:Nat}
theorem PP (hT:Tb H) (hw:SG H w es) (hg:GV n es) (hu:SI H u t) (h0:set≠0/\set<2^n) (hk:k∈t):Ao prog 114 [gv n w,uv set,u,ii k] H (.tuple #[uv (sdP es set t k).1,uv (sdP es set t k).2,ii (sdE es set t)]):=by
 by_cases ht:TreeOk es set t
 ·rw[show sdP es set t k=(y9 es set t k,sdf set (y9 es set t k))from if_pos ht,show sdE es set t=0 from if_pos ht];exact MJ hT hw hg hu h0 ht hk
 rw[show sdP es set t k=(0,0)from if_neg ht,show sdE es set t=300 from if_neg ht];refine j3 mixed LL ?_;have hs:=Ci hg.n64 h0.2;refine d9 (Ap hw) ?_;refine x9 (yq hw hg hs hu) rfl fun H1 l1=> ?_;rw[Vv h0 ht];refine d4 ?_;refine Gn (bT (p:=(300:Int)≠0) (by decide)) ?_;exact g8 rfl ⟨l1,rfl⟩
theorem c3R (hc:Chn H n w wts es wl) (hu:SI H u t) (h0:set≠0/\set<2^n) (zK:t.length<=1000):Con prog 84 [chv wts lo hi ds n w,uv set,u] H fun r H'=>PH.le H H'/\SI H' r (Gu es wl lo hi set t t):=by
 refine j3 mixed LF ?_;have hl:=hu.len;have hs:=Ci hc.ok.n64 h0.2;refine d9 (Pe (Af hc.wt) (Af hc.gr) _ _ _ _) ?_;refine j7 el_int hu ?_;refine s9 (α:=Nat×Value) (fun⟨i,v⟩=>[v,ii (i:Nat)]) (fun⟨i,v⟩=>fun H'=>i<=t.length/\PH.le H H'/\SO H H' 3 1 (fun z:Int=>[ii z]) v (Gu es wl lo hi set t (t.take i))) (fun⟨i,v⟩=>t.length-i) ((0,.slice none 0 0)) rfl (⟨bI _,PH.le.refl _,SO.nil _ _ _ _ _⟩) fun⟨i,v⟩ H' hQ=> ?_;obtain⟨pW,l1,o1⟩:=hQ;refine d4 (d4 ?_);refine i0 (b:=decide (((i:Nat):Int)<(t.length:Nat))) rfl (fun h=> ?_) (fun h=> ?_)
 ·replace h:=oDt h;have uT:i<t.length:=by omega
  obtain⟨x,hx,tB⟩:=t7 uT;have pR:(Gu es wl lo hi set t (t.take i)).length<=i:=aS (fM _ _) (by rw[cB];omega);obtain⟨hA,hB⟩:=PE (es:=es) (t:=t) hc.ok.n64 h0 x;have qA:Gu es wl lo hi set t (t.take (i+1))=if alB es wl lo hi (sdP es set t x).1&&alB es wl lo hi (sdP es set t x).2 then Gu es wl lo hi set t (t.take i)++[x]else Gu es wl lo hi set t (t.take i):=by
   rw[take_snoc hx];unfold Gu;rw[List.filter_append,List.filter_cons,List.filter_nil];split
   ·rfl
   ·rw[dC]
  refine j8 el_int (hu.mono l1) hx fun _=> ?_;refine x9 (PP (k:=x) (hc.tb.mono l1) (hc.gr.mono l1) hc.ok (hu.mono l1) h0 (aI hx)) rfl fun H2 l2=> ?_;refine i8 (i8 (i8 ?_));refine x9 (Ry (lo:=lo) (hi:=hi) (ds:=ds) (hc.mono (l1.trans l2)) hA) rfl fun H3 l3=> ?_;refine d4 ?_;refine i0 (b:=alB es wl lo hi (sdP es set t x).1) rfl (fun b1=> ?_) (fun b1=> ?_)
  ·skip
   refine x9 (Ry (lo:=lo) (hi:=hi) (ds:=ds) (hc.mono ((l1.trans l2).trans l3)) hB) rfl fun H4 l4=> ?_;refine d4 ?_;refine i0 (b:=alB es wl lo hi (sdP es set t x).2) rfl (fun b2=> ?_) (fun b2=> ?_)
   ·skip
    refine Iz el_int rfl rfl rfl (fun _=>rfl) (fun _=>rfl) (((l1.trans l2).trans l3).trans l4) (o1.mono ((l2.trans l3).trans l4)) (by omega) rfl (fun _=>rfl) rfl fun q v2 H5 l5 o5=> ?_;exact⟨(i+1,v2),by show t.length-(i+1)<t.length-i;omega,(j4 rfl (i9 rfl (by omega))),⟨uT,l5,by rw[qA,b1,b2];exact o5⟩⟩
   ·skip
    exact⟨(i+1,v),by show t.length-(i+1)<t.length-i;omega,(j4 rfl (i9 rfl (by omega))),⟨uT,((l1.trans l2).trans l3).trans l4,by rw[qA,b1,b2];exact o1.mono ((l2.trans l3).trans l4)⟩⟩
  ·skip
   exact⟨(i+1,v),by show t.length-(i+1)<t.length-i;omega,(j4 rfl (i9 rfl (by omega))),⟨uT,(l1.trans l2).trans l3,by rw[qA,b1];exact o1.mono (l2.trans l3)⟩⟩
 ·replace h:=oDf h;rw[List.take_of_length_le (by omega)]at o1;exact g8 rfl ⟨l1,o1.se⟩
theorem SO.putM {α:Type} {e:TypeId} {sz:Nat} {ce:α->List Value} {v:Value} {l:List α} {X H:PH} {r:Nat} {E:Array MapEntry} {c:Nat} (h:SO X H e sz ce v l) (hr:H r=some (.map E c)) (ob:Obj):SO X (H.put r ob) e sz ce v l:=by
 obtain⟨pR,hv⟩:=h;refine⟨pR,hv.imp id ?_⟩;rintro⟨g,cap,cur,h3,sN,hg,h4⟩;exact⟨g,cap,cur,h3,sN,by rw[PH.put_ne _ _ (fun e=>by subst e;rw[hr]at hg;cases hg)];exact hg,h4⟩
theorem SO.splitM {α:Type} {e:TypeId} {sz:Nat} {ce:α->List Value} {v:Value} {l:List α} {B H:PH} (h:SO B H e sz ce v l) (hl:PH.le B H):∃Bi,PH.le Bi H/\SO Bi H e sz ce v l/\PH.le B Bi/\∀r E c,H r=some (.map E c)->Bi r=some (.map E c):=by
 obtain⟨pR,hv⟩:=h;rcases hv with⟨rfl,h0⟩|⟨g,cap,cur,rfl,sN,hg,h4⟩
 ·exact⟨H,PH.le.refl _,⟨pR,.inl ⟨rfl,h0⟩⟩,hl,fun _ _ _ h=>h⟩
 ·refine⟨j1 H g,Jb _ _,⟨pR,.inr ⟨g,cap,cur,rfl,by unfold j1;rw[if_pos rfl],hg,h4⟩⟩,fun k o hk=> ?_,fun r E c hr=> ?_⟩
  ·unfold j1;rw[if_neg (fun e=>by subst e;rw[sN]at hk;cases hk)];exact hl _ _ hk
  ·unfold j1;rw[if_neg (fun e=>by subst e;rw[hg]at hr;cases hr)];exact hr
theorem MO.tr {B H H2:PH} {m:Value} {L:List (Int×Int)} (h:MO B H m L) (h2:∀r E c,H r=some (.map E c)->H2 r=some (.map E c)):MO B H2 m L:=by
 obtain⟨h0,r,es,c,h1,h4,h3,h5⟩:=h;exact⟨h0,r,es,c,h1,h4,h2 _ _ _ h3,h5⟩
theorem AA {done r:List Int} {i:Nat} {y z:Int} (h:done.length=i):(done++z::r).set i y=(done++[y])++r:=by
 subst h;rw[List.set_append_right _ _ (aN _),iQ];simp
theorem Wi (hu:SI H u p) (hL:LabOk p 8):Con prog 21 [u] H fun r H'=>PH.le H H'/\∃z,r= .tuple #[z,ii 0]/\OI H H' z (n8 p):=by
 refine j3 mixed d2u ?_;have hl:=hu.len;have wG:=hL.2.2;refine Aq (Zi hu 8) rfl ?_;refine d4 ?_;refine t6 (by show Value.bool (!decide (LabOk p 8))=_;rw[oDd hL];rfl) ?_;refine r4 (NA rfl) rfl ?_;rintro v2 H1 ⟨l1,m1⟩;refine nmI ?_;refine j7 el_plan (hu.mono l1) ?_;refine Ux el_plan (z:=(0:Int)) Rr rfl rfl rfl (by omega) rfl fun v4 H2 l2 o2 _=> ?_;refine j7 el_plan (hu.mono (l1.trans l2)) ?_;refine s9 (α:=Nat×List Int×List (Int×Int)×List Int) (fun⟨i,F,L,done⟩=>[ii (i:Nat)]) (fun⟨i,F,L,done⟩=>fun H'=>i<=p.length/\done.length=i/\done++Ie F (p.drop i)=n8 p/\L.length=F.length/\F.Nodup/\(∀a b:Int,(a,b)∈L↔∃j:Nat,F[j]? =some a/\b=j)/\PH.le H H'/\MO H H' v2 L/\OI H H' v4 (done++bC (p.length-i) 0)) (fun⟨i,F,L,done⟩=>p.length-i) ((0,[],[],[])) rfl (⟨bI _,rfl,rfl,rfl,List.nodup_nil,fun a b=>by simp,l1.trans l2,m1.mono l2,SO.less o2 l1⟩) fun⟨i,F,L,done⟩ H' hQ=> ?_;obtain⟨hi,hdl,hR,hLF,hF,tK,l3,m3,o3⟩:=hQ;refine d4 (d4 ?_);refine i0 (b:=decide (((i:Nat):Int)<(p.length:Nat))) rfl (fun h=> ?_) (fun h=> ?_)
 ·replace h:=oDt h;have pW:i<p.length:=by omega
  obtain⟨x,hx,tB⟩:=t7 pW;have a3d:bC (p.length-i) (0:Int)=0::bC (p.length-(i+1)) 0:=by rw[show p.length-i=(p.length-(i+1))+1 by omega,List.replicate_succ]
  refine j8 el_plan (hu.mono l3) hx fun _=> ?_;have hmF:∀y:Int,y∈F↔y∈L.map (·.1):=fun y=>by
   constructor
   ·intro h;obtain⟨j,hj⟩:=bP.1 h;exact aH.2 ⟨(y,(j:Int)),(tK _ _).2 ⟨j,hj,rfl⟩,rfl⟩
   ·intro h;obtain⟨q,hq,rfl⟩:=aH.1 h;obtain⟨j,hj,_⟩:=(tK q.1 q.2).1 hq;exact aI hj
  have wU:(decide (x∈F)=false/\((if x∈F then F.idxOf x else 0:Nat):Int)=0/\x∉L.map (·.1))\/(decide (x∈F)=true/\(x,((if x∈F then F.idxOf x else 0:Nat):Int))∈L):=by
   by_cases xY:x∈F
   ·obtain⟨j,hj⟩:=bP.1 xY;have hjl:=(aC.1 hj).1;have a5v:F.idxOf x=j:=by
     obtain⟨_,e⟩:=aC.1 hj;rw[<-e];exact oO hF j hjl
    exact .inr ⟨oDd xY,by rw[if_pos xY,a5v];exact(tK _ _).2 ⟨j,hj,rfl⟩⟩
   ·exact .inl ⟨decide_eq_false xY,by rw[if_neg xY];rfl,fun h=>xY ((hmF x).2 h)⟩
  refine r7 (Zv (vs:=[v2,ii x]) (m:=v2) (k:=x) rfl rfl rfl Fq Gh Ko m3.mi wU) rfl ?_;refine i8 (i8 (d4 ?_));refine i0 (b:= !decide (x∈F)) rfl (fun hb=> ?_) (fun hb=> ?_)
  ·skip
   have xY:x∉F:=by simpa using hb
   refine r7 (jx (m:=v2) rfl rfl Fq m3.mi) rfl ?_;refine r4 (yu (B:=H) (vs:=[v2,ii x,ii (L.length:Nat)]) (m:=v2) (k:=x) (v:=(L.length:Nat)) rfl rfl rfl rfl Fq Gh l3 m3) rfl ?_;rintro u4 H4 ⟨rfl,l4,m4,g,ob,E,cc,hgB,uL,rfl⟩;refine nmI ?_;have o4:=SO.putM o3 uL ob;obtain⟨Bi,g1,g2,g3,g4⟩:=SO.splitM o4 l4;refine Dp el_plan (a:=((L.length:Nat):Int)) rfl rfl rfl rfl (fun _=>rfl) (fun _=>rfl) g1 g2 (by rw[aJ,lV];omega) rfl (fun _=>rfl) rfl fun q u' H5 l5 o5 _=> ?_;have hxL:x∉L.map (·.1):=fun h=>xY ((hmF x).2 h);rw[a3d,AA hdl,hLF]at o5;exact⟨(i+1,F++[x],Dw L x (L.length:Nat),done++[((F.length:Nat):Int)]),by show p.length-(i+1)<p.length-i;omega,(z8 (i9 rfl (by omega))),⟨pW,by rw[aJ,hdl];rfl,by rw[<-hR,tB];simp only[Ie,if_neg xY];rw[bG];rfl,by unfold Dw;rw[if_neg hxL];simp[hLF],List.nodup_append.2 ⟨hF,by simp,fun a ha b hb=>by obtain rfl:=aQ.1 hb;exact fun e=>xY (e ▸ ha)⟩,by
    intro a b;unfold Dw;rw[if_neg hxL,List.mem_append,tK,aQ,eB,hLF];constructor
    ·rintro(⟨j,h1,h2⟩|⟨rfl,rfl⟩)
     ·exact⟨j,by rw[dB (aC.1 h1).1];exact h1,h2⟩
     ·exact⟨F.length,by simp,rfl⟩
    ·rintro⟨j,h1,h2⟩;by_cases hj:j<F.length
     ·rw[dB hj]at h1;exact .inl ⟨j,h1,h2⟩
     ·have xM:=(aC.1 h1).1;simp only[aJ,List.length_cons,dM]at xM;have e:j=F.length:=by omega
      subst e;rw[List.getElem?_append_right (aN _),iQ]at h1;simp only[List.getElem?_cons_zero,aD]at h1;exact .inr ⟨h1.symm,h2⟩,g3.trans l5,MO.tr m4 fun r E c hr=>l5 _ _ (g4 r E c hr),SO.less o5 g3⟩⟩
  ·skip
   have xY:x∈F:=by simpa using hb
   obtain⟨Bi,g1,g2,g3,g4⟩:=SO.splitM o3 l3;rw[if_pos xY];refine Dp el_plan (a:=((F.idxOf x:Nat):Int)) rfl rfl rfl rfl (fun _=>rfl) (fun _=>rfl) g1 g2 (by rw[aJ,lV];omega) rfl (fun _=>rfl) rfl fun q u' H5 l5 o5 _=> ?_;rw[a3d,AA hdl]at o5;exact⟨(i+1,F,L,done++[((F.idxOf x:Nat):Int)]),by show p.length-(i+1)<p.length-i;omega,(z8 (i9 rfl (by omega))),⟨pW,by rw[aJ,hdl];rfl,by rw[<-hR,tB];simp only[Ie,if_pos xY];rw[bG];rfl,hLF,hF,tK,g3.trans l5,MO.tr m3 fun r E c hr=>l5 _ _ (g4 r E c hr),SO.less o5 g3⟩⟩
 ·replace h:=oDf h;have he:i=p.length:=by omega
  subst he;rw[List.drop_length]at hR;simp only[Ie,dC]at hR;rw[iQ,List.replicate_zero,dC,hR]at o3;exact g8 rfl ⟨l3,v4,rfl,o3⟩
end
end Go.Proofs.Z
/- Chapter 32: drafts. -/
namespace Go.RX
open Go.RowKit
theorem Wj {P:Program} {ρ:List Value} {x y:SV} {n:Nat} {a b:Value} (hx:D P ρ x=a) (hy:D P ρ y=b):D P ρ (.cat x n y)= .agg (a.cells++b.cells):=by
 show Value.agg ((D P ρ x).cells++(D P ρ y).cells)=_;rw[hx,hy]
theorem PQ {P:Program} {ρ:List Value} {x:SV} {o n:Nat} {a:Value} (hx:D P ρ x=a):D P ρ (.sub x o n 0 noI)= .agg (a.cells.extract o (o+n)):=by
 show Value.agg ((D P ρ x).cells.extract (o+0*z6 (D P ρ noI)) (o+0*z6 (D P ρ noI)+n))=_;rw[hx,dV];rfl
end Go.RX
namespace Go.Proofs.Z
open Go.Proofs.Tryz
open Go.RowKit Go.RX Go.GS
def c8 (c:Nat):List Value:=[.int .u8 (c:Nat)]
theorem md:El prog 26 5 1 false c8 (fun c:Nat=> .int .u8 (c:Nat)) where
 und:=by kernel_rfl
 has:=by kernel_rfl
 cel:=by kernel_rfl
 agg:=by kernel_rfl
 pos:=by decide
 one1:=fun _=>rfl
 small:=by decide
 inf:=⟨(prog.info? 5).getD default,.int .u8 0,by kernel_rfl,by kernel_rfl,by kernel_rfl,rfl,oDt (by kernel_rfl)⟩
 len:=fun _=>rfl
 val:=fun _=>rfl
 cells:=fun _=>rfl
 one:=fun x c hc=>by simp[c8]at hc;subst hc;rfl
def cv (a b c:Nat) (s w cu:Value) (k s0 s1 tr:Nat):Value:= .agg #[.int .u8 (a:Nat),.int .u8 (b:Nat),.int .u16 (c:Nat),s,w,cu,.int .u8 (k:Nat),.int .u8 (s0:Nat),.int .u8 (s1:Nat),.int .u8 (tr:Nat)]
theorem PR {s w cu:Value} (h:Dx s=true) (h2:Dx w=true) (h3:Dx cu=true) (a b c k s0 s1 tr:Nat):(cv a b c s w cu k s0 s1 tr).cells.size=10/\s8 (cv a b c s w cu k s0 s1 tr).cells:=by
 refine⟨rfl,fun x hx=> ?_⟩;rw[cv,It]at hx;simp only[List.mem_cons,List.not_mem_nil,or_false]at hx;rcases hx with rfl|rfl|rfl|rfl|rfl|rfl|rfl|rfl|rfl|rfl<;>first|rfl|assumption
theorem d4D {ρ:List Value} {x:SV} {a b c:Nat} {s w cu:Value} {k s0 s1 tr:Nat} (hx:D prog ρ x=cv a b c s w cu k s0 s1 tr) (hs:s.cells= #[s]):
  D prog ρ (.cat (.op2 .rem .u8 (.cell (.sub x 0 4 0 noI) 0 0 noI) (.k (.int .u8 3))) 1 (.sub (.sub x 0 4 0 noI) 1 3 0 noI))=dv ((a%3:Nat):Int) b c s:=by
 have h1:D prog ρ (.sub x 0 4 0 noI)=dv (a:Nat) b c s:=by
  show Value.agg ((D prog ρ x).cells.extract (0+0*z6 (D prog ρ noI)) (0+0*z6 (D prog ρ noI)+4))=_;rw[hx,dV];rfl
 have h2:D prog ρ (.cell (.sub x 0 4 0 noI) 0 0 noI)= .int .u8 (a:Nat):=by
  show(D prog ρ (.sub x 0 4 0 noI)).cells.getD (0+0*z6 (D prog ρ noI)) undef=_;rw[h1,dV];rfl
 have h3:D prog ρ (.op2 .rem .u8 (.cell (.sub x 0 4 0 noI) 0 0 noI) (.k (.int .u8 3)))= .int .u8 ((a%3:Nat):Int):=by
  show t8 .rem .u8 (intOf (D prog ρ (.cell (.sub x 0 4 0 noI) 0 0 noI))) 3=_;rw[h2];rfl
 show Value.agg ((D prog ρ (.op2 .rem .u8 (.cell (.sub x 0 4 0 noI) 0 0 noI) (.k (.int .u8 3)))).cells++((D prog ρ (.sub x 0 4 0 noI)).cells.extract (1+0*z6 (D prog ρ noI)) (1+0*z6 (D prog ρ noI)+3)))=_;rw[h3,h1,dV];rfl
theorem d7Y {ρ:List Value} {x y:SV} {wts u:Value} {lo hi k:Int} (hx:D prog ρ x=u) (hy:D prog ρ y=bv wts lo hi k) (hc:u.cells= #[u]):D prog ρ (.cat x 1 (.sub y 1 3 0 noI))=bv u lo hi k:=by
 show Value.agg ((D prog ρ x).cells++((D prog ρ y).cells.extract (1+0*z6 (D prog ρ noI)) (1+0*z6 (D prog ρ noI)+3)))=_;rw[hx,hy,hc,dV];rfl
theorem d7Z {ρ:List Value} {x y z:SV} {wts:Value} {lo hi k lo' pW:Int} (hx:D prog ρ x=bv wts lo hi k) (hy:D prog ρ y=ii lo') (hz:D prog ρ z=ii pW):
  D prog ρ (.cat (.sub x 0 1 0 noI) 1 (.cat y 1 (.cat z 1 (.sub (.sub x 2 2 0 noI) 1 1 0 noI))))=bv wts lo' pW k:=by
 have h1:D prog ρ (.sub x 0 1 0 noI)= .agg #[wts]:=by
  show Value.agg ((D prog ρ x).cells.extract (0+0*z6 (D prog ρ noI)) (0+0*z6 (D prog ρ noI)+1))=_;rw[hx,dV];rfl
 have h2:D prog ρ (.sub (.sub x 2 2 0 noI) 1 1 0 noI)= .agg #[ii k]:=by
  show Value.agg ((Value.agg ((D prog ρ x).cells.extract (2+0*z6 (D prog ρ noI)) (2+0*z6 (D prog ρ noI)+2))).cells.extract (1+0*z6 (D prog ρ noI)) (1+0*z6 (D prog ρ noI)+1))=_;rw[hx,dV];rfl
 show Value.agg ((D prog ρ (.sub x 0 1 0 noI)).cells++(Value.agg ((D prog ρ y).cells++(Value.agg ((D prog ρ z).cells++(D prog ρ (.sub (.sub x 2 2 0 noI) 1 1 0 noI)).cells)).cells)).cells)=_;rw[h1,h2,hy,hz];rfl
theorem PT {ρ:List Value} {x y:SV} {c m:Nat} (hx:D prog ρ x= .int .u8 (c:Nat)) (hc:c<256) (hy:D prog ρ y=ii (m:Nat)):D prog ρ (.op2 .rem .i64 (.cv .i64 x) y)=ii ((c%m:Nat):Int):=by
 show t8 .rem .i64 (IntKind.i64.wrap (intOf (D prog ρ x))) (intOf (D prog ρ y))=_;rw[hx,hy];show Value.int .i64 (Int.tmod (IntKind.i64.wrap ((c:Nat):Int)) ((m:Nat):Int))=_;rw[show IntKind.i64.wrap ((c:Nat):Int)=((c:Nat):Int) by rw[IntKind.wrap_i64];omega,<-Int.ofNat_tmod];rfl
theorem e1h:s7 prog 32= .slice none 0 0:=by kernel_rfl
theorem e1i {ρ:List Value} {y:SV} {k:Int} (hy:D prog ρ y=ii k):D prog ρ (.cat (.z 32) 1 (.cat (.z 3) 1 (.cat (.z 3) 1 y)))=bv (.slice none 0 0) 0 0 k:=by
 show Value.agg ((s7 prog 32).cells++(Value.agg ((s7 prog 3).cells++(Value.agg ((s7 prog 3).cells++(D prog ρ y).cells)).cells)).cells)=_;rw[e1h,Rr,hy];rfl
theorem c8B:∀n:Fin 10,card (2^n.val-1)=n.val:=by decide
theorem d4E {n x:Nat}:bit (2^n-1) x=decide (x<n):=Nat.testBit_two_pow_sub_one n x
def Im:List (Nat×Nat):=[(0,1),(0,2),(1,3),(2,3)]
theorem c8C:GV 4 Im:=⟨by decide,by decide,by decide,by decide,by unfold Im elt;simp⟩
theorem c8D:Cn Im 15:=by
 have hb:∀x,bit 15 x=decide (x<4):=fun x=>d4E (n:=4);have h0:Rch Im 15 0 0:= .base;have h1:Rch Im 15 0 1:= .step h0 (by simp[adj,Im]) (by rw[hb];rfl);have h2:Rch Im 15 0 2:= .step h0 (by simp[adj,Im]) (by rw[hb];rfl);have h3:Rch Im 15 0 3:= .step h1 (by simp[adj,Im]) (by rw[hb];rfl);refine⟨0,by rw[hb];rfl,fun y hy=> ?_⟩;rw[hb]at hy;have hy:=oDt hy
 match y,hy with
 |0,_=>exact h0
 |1,_=>exact h1
 |2,_=>exact h2
 |3,_=>exact h3
end Go.Proofs.Z
/- Chapter 32: changed drafts. -/
namespace Go.RX
open Go.RowKit
theorem PU {P:Program} {o:Oper} {x y:Operand} {vs:List Value} {t t' e:TypeId} {p:Option Addr} {n c:Nat} (ho:o.op= .binOp .eql t x y t') (hx:g9 [x,y] vs x= .slice p n c) (hy:g9 [x,y] vs y= .slice none 0 0) (hu:P.underlying t=some (.slice e)):Yld P o vs (.bool p.isNone):=fun w=>by
 have pZ:o.op.operands.toList=[x,y]:=by simp[ho,Op.operands]
 rw[pZ];have h:∀d:Nat,(Op.equalIn (d+1) t (.slice p n c) (.slice none 0 0)).run P w= .ok p.isNone w:=fun d=>by
  cases p<;>simp[Op.equalIn,run_underlying hu]
 have hb:(binOp .eql t (.slice p n c) (.slice none 0 0)).run P w= .ok (.bool p.isNone) w:=by
  simp only[binOp];simp[Op.equal,Op.maxDepth,h 9999]
 simp only[execOp,ho,hx,hy,aG,eqGuard];simp[hb]
end Go.RX
namespace Go.Proofs.Z
open Go.Proofs.Tryz
open Go.RowKit Go.RX Go.GS
section
variable {H:PH} {u:Value} {l:List Int}
theorem c8E (hu:SI H u l) (hl:l.length<=1000000):Con prog 45 [u] H fun r H'=>PH.le H H'/\SO H H' 3 1 (fun z:Int=>[ii z]) r l:=by
 refine j3 mixed Y7 ?_;obtain⟨q1,a,c,rfl,q2,q3,q4⟩:=id hu;refine r7 ((PU (p:=a) (n:=l.length) (c:=c) rfl rfl rfl el_int.und).rds _) rfl ?_;refine d4 ?_;refine i0 (b:=a.isNone) rfl (fun h=> ?_) (fun h=> ?_)
 ·skip
  have h0:l.length=0:=by
   rcases q4 with h|⟨_,_,_,_,_,h,_⟩
   ·exact h
   ·subst h;cases h
  have zP:l=[]:=aZ h0;subst zP;exact g8 rfl ⟨PH.le.refl _,SO.nil _ _ _ _ _⟩
 ·skip
  refine gq el_int rfl rfl fun v2 H1 l1 o1 _=> ?_;refine Lu el_int rfl rfl rfl l1 o1 (hu.mono l1) (by simp only[dM];omega) rfl rfl fun v3 H2 l2 o2 _=> ?_;exact g8 rfl ⟨l2,by rw[bV]at o2;exact o2⟩
theorem PV (hu:SI H u l) (hl:l.length<=1000000):Con prog 18 [u] H fun r H'=>PH.le H H'/\SO H H' 3 1 (fun z:Int=>[ii z]) r l:=by
 refine j3 mixed Y8 ?_;obtain⟨q1,a,c,rfl,q2,q3,q4⟩:=id hu;refine r7 ((PU (p:=a) (n:=l.length) (c:=c) rfl rfl rfl el_plan.und).rds _) rfl ?_;refine d4 ?_;refine i0 (b:=a.isNone) rfl (fun h=> ?_) (fun h=> ?_)
 ·skip
  have h0:l.length=0:=by
   rcases q4 with h|⟨_,_,_,_,_,h,_⟩
   ·exact h
   ·subst h;cases h
  have zP:l=[]:=aZ h0;subst zP;exact g8 rfl ⟨PH.le.refl _,SO.nil _ _ _ _ _⟩
 ·skip
  refine gq el_plan rfl rfl fun v2 H1 l1 o1 _=> ?_;refine Lu el_plan rfl rfl rfl l1 o1 (hu.mono l1) (by simp only[dM];omega) rfl rfl fun v3 H2 l2 o2 _=> ?_;exact g8 rfl ⟨l2,by rw[bV]at o2;exact o2⟩
end
end Go.Proofs.Z
/- Chapter 32: the checks, on both sides. -/
namespace Go.RX
open Go.RowKit
section
variable {P:Program} {T e:TypeId} {sz:Nat} {ag:Bool} {α:Type} {ce:α->List Value} {ve:α->Value} (E:El P T e sz ag ce ve)
variable {G:Value->PH->Prop} {nx:List (List Value->PH->Prop)} {ρ:List Value} {H:PH} {o:Oper} {id i:Nat} {args:List SV} {t:Tree} {l:List α} {vs:List Value}
include E
theorem ak {N:Nat} {parts:Array (Nat×Operand)} (hl:l.length=N) (h0:0<N) (hN:N<=1000) (ho:o.op= .buildSlice T N parts) (hp:parts.toList.map (fun p=>(p.1,g9 (parts.toList.map (·.2)) vs p.2))=(l.zipIdx 0).map fun p=>(p.2,ve p.1)) (ha:args.map (D P ρ)=vs)
  (n:∀v H',PH.le H H'->SO H H' e sz ce v l->den P G t nx (ρ++[v]) H'):den P G (.mk id i o args t) nx ρ H:=by
 obtain⟨ti,zv,h1,h2,h3,h4,h5⟩:=E.inf;have qW:=E.pos;have hsm:=E.small;have hb:N*sz<=1000*1000:=cI hN hsm;have hNp:0<N*sz:=Nat.mul_pos h0 qW;refine⟨fun b=> .slice (some ⟨b,0,none⟩) N N,.cells (l.flatMap ce).toArray e (0,0),fun w=> ?_,fun b hb=>n _ _ (PH.le_put hb _) (Yq E hb hl (by simp only[maxLen];omega) (by simp))⟩;have pZ:o.op.operands.toList=parts.toList.map (·.2):=by simp[ho,Op.operands]
 have hf:Instr.fill (fun j=>some (j*ti.size,ti.size)) ((Array.range (N*ti.size)).map (zv.cells[· %zv.cells.size]!)) (parts.toList.map fun p=>(p.1,g9 (parts.toList.map (·.2)) vs p.2))=some (l.flatMap ce).toArray:=by
  rw[h3,hp,Xq _ _ _ fun p hp=> ?_]
  ·rw[vo E.len E.cells,dV,eo (by rw[Lt E.len,hl];simp)]
  ·simp only[aH,Prod.exists]at hp;obtain⟨a,k,hk,rfl⟩:=hp;have qO:=List.mem_zipIdx hk;refine⟨k*sz,sz,rfl,(E.vcells a).1,?_⟩;have:(k+1)*sz<=N*sz:=Nat.mul_le_mul_right _ (by omega);rw[Nat.add_mul,Nat.one_mul]at this;simpa using this
 have hr:=run_buildSlice (P:=P) w T e N (parts.map fun(j,x)=>(j,g9 (parts.toList.map (·.2)) vs x)) (l.flatMap ce).toArray ti zv E.und h1 h2 (by rw[h3];omega) (by rw[h3];omega) (by rw[Array.toList_map];exact hf);rw[pZ,ha];simp only[execOp,ho,aG,hr,Result.andThen_ok,Sem.run_pure]
end
end Go.RX
namespace Go.Proofs.Z
open Go.Proofs.Tryz
open Go.RowKit Go.RX Go.GS
open Go.WD (wd toI iw rs)
theorem Hl:El prog 48 33 1 false (fun s:Slc=>[vs s]) vs where
 und:=by kernel_rfl
 has:=by kernel_rfl
 cel:=by kernel_rfl
 agg:=by kernel_rfl
 pos:=by decide
 one1:=fun _=>rfl
 small:=by decide
 inf:=⟨(prog.info? 33).getD default,vs (none,0,0),by kernel_rfl,by kernel_rfl,by kernel_rfl,rfl,oDt (by kernel_rfl)⟩
 len:=fun _=>rfl
 val:=fun _=>rfl
 cells:=fun _=>rfl
 one:=fun x c hc=>by simp at hc;subst hc;rfl
theorem e0g {ρ:List Value} {x y:SV} {b:Bool} (hx:D prog ρ x= .bool b) (hy:D prog ρ y= .bool b):D prog ρ (.eqb true x y)= .bool false:=by
 show Value.bool (true !=(Fg (D prog ρ x)==Fg (D prog ρ y)))=_;rw[hx,hy];simp
theorem d8a {ρ:List Value} {x y:SV} {z:Int} (hx:D prog ρ x=ii z) (hy:D prog ρ y=ii z):D prog ρ (.op2 .neq .i64 x y)= .bool false:=by
 show Value.bool (intOf (D prog ρ x) !=intOf (D prog ρ y))=_;rw[hx,hy];simp
end Go.Proofs.Z
/- Chapter 32: parts of a step, on both sides. -/
namespace Go.Proofs.Z
open Go.Proofs.Tryz
open Go.RowKit Go.RX Go.GS
section
variable {H H0:PH} {u v w wts:Value} {p q wl t:List Int} {n a b:Nat} {es:List (Nat×Nat)} {lo hi ds k:Int} {set x:Nat}
abbrev OE (H0 H:PH) (v:Value) (l:List (Nat×Nat)):Prop:=SO H0 H 99 2 ec v l
theorem AB {k:Nat} (hk:k<=8):Con prog 111 [ii (k:Nat)] H fun r H'=>PH.le H H'/\OE H H' r (i7 k):=by
 refine j3 mixed d3y ?_;refine s9 (α:=Nat×Value) (fun⟨i,v⟩=>[v,ii (i:Nat)]) (fun⟨i,v⟩=>fun H'=>i<=k/\PH.le H H'/\OE H H' v (prI k i)) (fun⟨i,v⟩=>k-i) ((0,.slice none 0 0)) rfl (⟨bI _,PH.le.refl _,SO.nil _ _ _ _ _⟩) fun⟨i,v⟩ H' hQ=> ?_;obtain⟨hi,l1,o1⟩:=hQ;refine d4 (d4 ?_);refine i0 (b:=decide (((i:Nat):Int)<(k:Nat))) rfl (fun h=> ?_) (fun h=> ?_)
 ·replace h:=oDt h;have pW:i<k:=by omega
  refine s9 (α:=Nat×Value) (fun⟨j,v⟩=>[v,ii (j:Nat)]) (fun⟨j,v⟩=>fun H2=>i+1<=j/\j<=k/\PH.le H H2/\OE H H2 v (prI k i++Hk i j)) (fun⟨j,v⟩=>k-j) ((i+1,v)) (j4 rfl (i9 rfl (by omega))) (⟨aN _,pW,l1,by rw[c8r,dC];exact o1⟩) fun⟨j,v⟩ H2 wI=> ?_;obtain⟨hj1,xM,l2,o2⟩:=wI;refine d4 ?_;refine i0 (b:=decide (((j:Nat):Int)<(k:Nat))) rfl (fun h2=> ?_) (fun h2=> ?_)
  ·replace h2:=oDt h2;have rG:j<k:=by omega
   have qN:=lu k i;have a3e:i*k<=64:=cI (show i<=8 by omega) hk;refine d9 (el_int.vcells _) ?_;refine d9 (el_int.vcells _) ?_;refine Iz el_edge rfl rfl rfl (fun _=>rfl) (fun _=>rfl) l2 o2 (by rw[aJ,PC];omega) (z8 (Kq (a:=i) (b:=j) rfl rfl)) (fun _=>rfl) rfl fun p7 v7 H7 l7 o7=> ?_;exact⟨(j+1,v7),by show k-(j+1)<k-j;omega,(j4 rfl (i9 rfl (by omega))),⟨by show i+1<=j+1;omega,rG,l7,by rw[c3O hj1,<-bG];exact o7⟩⟩
  ·replace h2:=oDf h2;have hjk:j=k:=by omega
   subst hjk;exact⟨(i+1,v),by show j-(i+1)<j-i;omega,(j4 rfl (i9 rfl (by omega))),⟨pW,l2,by rw[OZ];exact o2⟩⟩
 ·replace h:=oDf h;have hik:i=k:=by omega
  subst hik;exact g8 rfl ⟨l1,o1⟩
theorem c8F (hw:SG H w es) (hg:GV n es) (qV:SI H wts wl) (ha:a<M64) (hb:b<M64):Asks prog 115 [chv wts lo hi ds n w,uv a,uv b] H (ii (Br es a b:Nat)):=by
 refine j3 mixed d3x ?_;have hl:=hw.len;have qK:=hg.n64;have pR:=hg.len;refine d9 (Pe (Af qV) (Af hw) _ _ _ _) ?_;refine j7 el_edge hw ?_;refine Dq (α:=Nat) (fun i=>[ii (Br (es.take i) a b:Nat),ii (i:Nat)]) (fun i=>i<=es.length) (fun i=>es.length-i) (0) rfl (bI _) fun i hQ=> ?_;refine d4 (d4 ?_);refine i0 (b:=decide (((i:Nat):Int)<(es.length:Nat))) rfl (fun h=> ?_) (fun h=> ?_)
 ·replace h:=oDt h;have pW:i<es.length:=by omega
  obtain⟨e,he,hde⟩:=t7 pW;obtain⟨he1,he2⟩:=hg.mem he;have qA:Br (es.take (i+1)) a b=if btB a b e=true then Br (es.take i) a b+1 else Br (es.take i) a b:=by rw[take_snoc he,c3N]
  have pP:Br (es.take i) a b<=i:=aS (fM _ _) (by rw[cB];omega);refine j8 el_edge hw he fun _=> ?_;refine d9 (el_edge.vcells e) ?_;refine d9 ⟨_,_,rfl⟩ ?_;refine d9 (by show(0:Int)<=((e.1:Nat):Int);omega) ?_;refine d9 ⟨_,_,rfl⟩ ?_;refine d9 (by show(0:Int)<=((e.2:Nat):Int);omega) ?_;refine d4 ?_;refine i0 (b:=bit a e.1) (Wh rfl ha rfl (by omega)) (fun b1=> ?_) (fun b1=> ?_)
  ·skip
   refine d4 ?_;refine i0 (b:=bit b e.2) (Wh rfl hb rfl (by omega)) (fun b2=> ?_) (fun b2=> ?_)
   ·skip
    refine d4 ?_;exact⟨i+1,by omega,(j4 (by rw[qA,if_pos (by simp[btB,b1,b2])];exact i9 rfl (by omega)) (i9 rfl (by omega))),⟨pW,rfl⟩⟩
   ·skip
    refine i0 (b:=bit a e.2) (Wh rfl ha rfl (by omega)) (fun b3=> ?_) (fun b3=> ?_)
    ·skip
     refine i0 (b:=bit b e.1) (Wh rfl hb rfl (by omega)) (fun b4=> ?_) (fun b4=> ?_)
     ·skip
      refine d4 ?_;exact⟨i+1,by omega,(j4 (by rw[qA,if_pos (by simp[btB,b1,b2,b3,b4])];exact i9 rfl (by omega)) (i9 rfl (by omega))),⟨pW,rfl⟩⟩
     ·skip
      exact⟨i+1,by omega,(j4 (by rw[qA,if_neg (by simp[btB,b1,b2,b3,b4])];rfl) (i9 rfl (by omega))),⟨pW,rfl⟩⟩
    ·skip
     exact⟨i+1,by omega,(j4 (by rw[qA,if_neg (by simp[btB,b1,b2,b3])];rfl) (i9 rfl (by omega))),⟨pW,rfl⟩⟩
  ·skip
   refine i0 (b:=bit a e.2) (Wh rfl ha rfl (by omega)) (fun b3=> ?_) (fun b3=> ?_)
   ·skip
    refine d4 ?_;refine i0 (b:=bit b e.1) (Wh rfl hb rfl (by omega)) (fun b4=> ?_) (fun b4=> ?_)
    ·skip
     refine d4 ?_;exact⟨i+1,by omega,(j4 (by rw[qA,if_pos (by simp[btB,b1,b3,b4])];exact i9 rfl (by omega)) (i9 rfl (by omega))),⟨pW,rfl⟩⟩
    ·skip
     exact⟨i+1,by omega,(j4 (by rw[qA,if_neg (by simp[btB,b1,b3,b4])];rfl) (i9 rfl (by omega))),⟨pW,rfl⟩⟩
   ·skip
    exact⟨i+1,by omega,(j4 (by rw[qA,if_neg (by simp[btB,b1,b3])];rfl) (i9 rfl (by omega))),⟨pW,rfl⟩⟩
 ·replace h:=oDf h;have he:i=es.length:=by omega
  subst he;rw[List.take_length];exact g8 rfl ⟨rfl,rfl⟩
theorem me {o R:List Int} {m:Nat} {y:Int} (h:∀j,o[j]? =if j<m then R[j]? else p[j]?) (hm:m<o.length) (hy:R[m]? =some y):∀j,(o.set m y)[j]? =if j<m+1 then R[j]? else p[j]?:=fun j=>by
 by_cases e:j=m
 ·subst e;rw[List.getElem?_set_self hm,if_pos (by omega),hy]
 ·rw[List.getElem?_set_ne (fun e2=>e e2.symm),h j];by_cases h2:j<m
  ·rw[if_pos h2,if_pos (by omega)]
  ·rw[if_neg h2,if_neg (by omega)]
theorem d4F {o R:List Int} {m:Nat} (h:∀j,o[j]? =if j<m then R[j]? else p[j]?) (hy:R[m]? =p[m]?):∀j,o[j]? =if j<m+1 then R[j]? else p[j]?:=fun j=>by
 rw[h j];by_cases e:j=m
 ·subst e;rw[if_neg (by omega),if_pos (by omega),hy]
 ·by_cases h2:j<m
  ·rw[if_pos h2,if_pos (by omega)]
  ·rw[if_neg h2,if_neg (by omega)]
theorem d8b {o R:List Int} (h:∀j,o[j]? =if j<p.length then R[j]? else p[j]?) (hl:R.length=p.length):o=R:=List.ext_getElem? fun j=>by
 rw[h j];by_cases h2:j<p.length
 ·rw[if_pos h2]
 ·rw[if_neg h2,aW (by omega),aW (by omega)]
theorem PX {i k a:Nat} (hu:SI H u p) (hL:LabOk p 8) (hi:i<8) (hk:k<8) (ha:a<M64):Con prog 116 [u,ii (i:Nat),ii (k:Nat),uv a] H fun r H'=>PH.le H H'/\SI H' r (n8 (Bj p (i:Nat) (k:Nat) a)):=by
 refine j3 mixed d3w ?_;have hl:=hu.len;have wG:=hL.2.2;have hRl:=Jj p (i:Nat) (k:Nat) a;refine i6 (PV hu (by omega)) rfl ?_;rintro v4 H1 ⟨l1,o1⟩;refine nmI ?_;refine j7 el_plan (hu.mono l1) ?_;refine s9 (α:=Nat×List Int) (fun⟨m,o⟩=>[ii (m:Nat)]) (fun⟨m,o⟩=>fun H'=>m<=p.length/\o.length=p.length/\(∀j,o[j]? =if j<m then(Bj p (i:Nat) (k:Nat) a)[j]? else p[j]?)/\PH.le H H'/\OI H H' v4 o) (fun⟨m,o⟩=>p.length-m) ((0,p)) rfl (⟨bI _,rfl,fun j=>by rw[if_neg (Nat.not_lt_zero _)],l1,o1⟩) fun⟨m,o⟩ H' hQ=> ?_;obtain⟨hm,hol,rM,l2,o2⟩:=hQ;refine d4 (d4 ?_);refine i0 (b:=decide (((m:Nat):Int)<(p.length:Nat))) rfl (fun h=> ?_) (fun h=> ?_)
 ·replace h:=oDt h;have tR:m<p.length:=by omega
  obtain⟨y,hy,_⟩:=t7 tR;have hR:=lp (i:=(i:Int)) (k:=(k:Int)) (a:=a) hy;refine j8 el_plan (hu.mono l2) hy fun _=> ?_;refine d4 (d4 ?_);refine r9 (p:=(y≠(i:Nat))) (bN _ _) (fun h1=> ?_) fun h1=> ?_
  ·refine d4 ?_;refine r9 (p:=(y≠(k:Nat))) (bN _ _) (fun h2=> ?_) fun h2=> ?_
   ·have hv:rcV (i:Nat) (k:Nat) a m y=y:=if_neg (fun e=>e.elim h1 h2);exact⟨(m+1,o),by show p.length-(m+1)<p.length-m;omega,(z8 (i9 rfl (by omega))),⟨tR,hol,d4F rM (by rw[hR,hv,hy]),l2,o2⟩⟩
   ·have hik:y=(i:Nat)\/y=(k:Nat):= .inr (aP h2);refine Dp el_plan (a:=((k:Nat):Int)) rfl rfl rfl rfl (fun _=>rfl) (fun _=>rfl) l2 o2 (show m<o.length by omega) rfl (fun _=>rfl) rfl fun q3 u3 H3 l3 o3 _=> ?_;refine d4 ?_;refine d9 ⟨_,_,rfl⟩ ?_;refine d9 (by show(0:Int)<=((m:Nat):Int);omega) ?_;refine i0 (b:=bit a m) (Rm rfl ha rfl (by omega)) (fun b1=> ?_) (fun b1=> ?_)
    ·skip
     refine Dp el_plan (a:=((i:Nat):Int)) rfl rfl rfl rfl (fun _=>rfl) (fun _=>rfl) l3 o3 (show m<(o.set m (k:Nat)).length by rw[bD];omega) rfl (fun _=>rfl) rfl fun q5 u5 H5 l5 o5 _=> ?_;rw[oP]at o5;exact⟨(m+1,o.set m (i:Nat)),by show p.length-(m+1)<p.length-m;omega,(z8 (i9 rfl (by omega))),⟨tR,by rw[bD];exact hol,me rM (by omega) (by rw[hR];unfold rcV;rw[if_pos hik,if_pos b1]),l5,o5⟩⟩
    ·skip
     exact⟨(m+1,o.set m (k:Nat)),by show p.length-(m+1)<p.length-m;omega,(z8 (i9 rfl (by omega))),⟨tR,by rw[bD];exact hol,me rM (by omega) (by rw[hR];unfold rcV;rw[if_pos hik,if_neg (by rw[b1];simp)]),l3,o3⟩⟩
  ·have hik:y=(i:Nat)\/y=(k:Nat):= .inl (aP h1);refine Dp el_plan (a:=((k:Nat):Int)) rfl rfl rfl rfl (fun _=>rfl) (fun _=>rfl) l2 o2 (show m<o.length by omega) rfl (fun _=>rfl) rfl fun q3 u3 H3 l3 o3 _=> ?_;refine d4 ?_;refine d9 ⟨_,_,rfl⟩ ?_;refine d9 (by show(0:Int)<=((m:Nat):Int);omega) ?_;refine i0 (b:=bit a m) (Rm rfl ha rfl (by omega)) (fun b1=> ?_) (fun b1=> ?_)
   ·skip
    refine Dp el_plan (a:=((i:Nat):Int)) rfl rfl rfl rfl (fun _=>rfl) (fun _=>rfl) l3 o3 (show m<(o.set m (k:Nat)).length by rw[bD];omega) rfl (fun _=>rfl) rfl fun q5 u5 H5 l5 o5 _=> ?_;rw[oP]at o5;exact⟨(m+1,o.set m (i:Nat)),by show p.length-(m+1)<p.length-m;omega,(z8 (i9 rfl (by omega))),⟨tR,by rw[bD];exact hol,me rM (by omega) (by rw[hR];unfold rcV;rw[if_pos hik,if_pos b1]),l5,o5⟩⟩
   ·skip
    exact⟨(m+1,o.set m (k:Nat)),by show p.length-(m+1)<p.length-m;omega,(z8 (i9 rfl (by omega))),⟨tR,by rw[bD];exact hol,me rM (by omega) (by rw[hR];unfold rcV;rw[if_pos hik,if_neg (by rw[b1];simp)]),l3,o3⟩⟩
 ·replace h:=oDf h;have he:m=p.length:=by omega
  subst he;obtain rfl:=d8b rM hRl;refine i6 (Wi o2.se (zt hL (by omega) (by omega))) rfl ?_;rintro r H5 ⟨l5,z,rfl,hz⟩;refine nmI ?_;refine i8 (i8 ?_);exact g8 rfl ⟨l2.trans l5,hz.se⟩
end
end Go.Proofs.Z

/- Chapter 32: parts of a step. -/
import Derived.Test.YtmannekkmdockaaGreatDoorGdF
import Derived.Test.YtmannekkmdockaaGreatDoorGuB
import Derived.Test.YtmannekkmdockaaGreatDoorGcC
import Derived.Test.YtmannekkmdockaaGreatDoorProg
import Derived.Test.YtmannekkmdockaaGreatDoorRxW
namespace Go.Proofs.YtmannekkmdockaaGreatDoor
open Go.Proofs.Tryz
open Go.RowKit Go.RX Go.GS
section
variable {H H0:PH} {u v w wts:Value} {p wl t:List Int} {n:Nat} {es:List (Nat×Nat)} {lo hi ds k:Int} {set x:Nat}
theorem SO.putM {α:Type} {e:TypeId} {sz:Nat} {ce:α->List Value} {v:Value} {l:List α} {X H:PH} {r:Nat} {E:Array MapEntry} {c:Nat} (h:SO X H e sz ce v l) (hr:H r=some (.map E c)) (ob:Obj):SO X (H.put r ob) e sz ce v l:=by
 obtain⟨hlen,hv⟩:=h
 refine⟨hlen,hv.imp id ?_⟩
 rintro⟨g,cap,cur,h3,hg0,hg,h4⟩
 exact⟨g,cap,cur,h3,hg0,by rw[PH.put_ne _ _ (fun e=>by subst e;rw[hr]at hg;cases hg)];exact hg,h4⟩
theorem SO.splitM {α:Type} {e:TypeId} {sz:Nat} {ce:α->List Value} {v:Value} {l:List α} {B H:PH} (h:SO B H e sz ce v l) (hl:PH.le B H):∃Bi,PH.le Bi H/\SO Bi H e sz ce v l/\PH.le B Bi/\∀r E c,H r=some (.map E c)->Bi r=some (.map E c):=by
 obtain⟨hlen,hv⟩:=h
 rcases hv with⟨rfl,h0⟩|⟨g,cap,cur,rfl,hg0,hg,h4⟩
 ·exact⟨H,PH.le.refl _,⟨hlen,.inl ⟨rfl,h0⟩⟩,hl,fun _ _ _ h=>h⟩
 ·refine⟨a1y H g,b1W _ _,⟨hlen,.inr ⟨g,cap,cur,rfl,by unfold a1y;rw[if_pos rfl],hg,h4⟩⟩,fun k o hk=> ?_,fun r E c hr=> ?_⟩
  ·unfold a1y;rw[if_neg (fun e=>by subst e;rw[hg0]at hk;cases hk)];exact hl _ _ hk
  ·unfold a1y;rw[if_neg (fun e=>by subst e;rw[hg]at hr;cases hr)];exact hr
theorem MO.tr {B H H2:PH} {m:Value} {L:List (Int×Int)} (h:MO B H m L) (h2:∀r E c,H r=some (.map E c)->H2 r=some (.map E c)):MO B H2 m L:=by
 obtain⟨h0,r,es,c,h1,h4,h3,h5⟩:=h
 exact⟨h0,r,es,c,h1,h4,h2 _ _ _ h3,h5⟩
theorem c1d {done r:List Int} {i:Nat} {y z:Int} (h:done.length=i):(done++z::r).set i y=(done++[y])++r:=by
 subst h
 rw[List.set_append_right _ _ (Nat.le_refl _),Nat.sub_self];simp
theorem a5l (hu:SI H u p) (hL:LabOk p 8):Con prog 21 [u] H fun r H'=>PH.le H H'/\∃z,r= .tuple #[z,ii 0]/\OI H H' z (a0m p):=by
 refine a0b mixed c8t (by kernel_rfl) rfl ?_
 have hl:=hu.len
 have hp64:=hL.2.2
 refine a0I (b0h hu 8) rfl ?_
 simp only[cA,nA]
 refine a0a ⟨_,rfl⟩ ?_
 refine a0j (by show Value.bool (!decide (LabOk p 8))=_;rw[decide_eq_true hL];rfl) ?_
 refine a0l (c0q rfl) rfl ?_
 rintro v2 H1 ⟨l1,m1⟩
 refine⟨fun h=>(nomatch h),?_⟩
 simp only[cA,nA]
 refine a0g el_plan rfl rfl (hu.mono l1) rfl ?_
 refine a2T el_plan (z:=(0:Int)) b6U rfl rfl rfl (by omega) rfl fun v4 H2 l2 o2 _=> ?_
 simp only[cA,nA]
 refine a0g el_plan rfl rfl (hu.mono (l1.trans l2)) rfl ?_
 refine a0k (α:=Nat×List Int×List (Int×Int)×List Int) (fun⟨i,F,L,done⟩=>[ii (i:Nat)]) (fun⟨i,F,L,done⟩=>fun H'=>i<=p.length/\done.length=i/\done++b7g F (p.drop i)=a0m p/\L.length=F.length/\F.Nodup/\(∀a b:Int,(a,b)∈L↔∃j:Nat,F[j]? =some a/\b=j)/\PH.le H H'/\MO H H' v2 L/\OI H H' v4 (done++List.replicate (p.length-i) 0)) (fun⟨i,F,L,done⟩=>p.length-i) ((0,[],[],[])) rfl (⟨Nat.zero_le _,rfl,rfl,rfl,List.nodup_nil,fun a b=>by simp,l1.trans l2,m1.mono l2,SO.less o2 l1⟩) fun⟨i,F,L,done⟩ H' hQ=> ?_
 simp only[cA,nA]
 obtain⟨hi,hdl,hR,hLF,hF,hL2,l3,m3,o3⟩:=hQ
 refine a0a ⟨_,rfl⟩ ?_
 refine a0a ⟨_,rfl⟩ ?_
 refine a0e (b:=decide (((i:Nat):Int)<(p.length:Nat))) rfl (fun h=> ?_) (fun h=> ?_)
 ·replace h:=of_decide_eq_true h
  have hi':i<p.length:=by omega
  obtain⟨x,hx,hdx⟩:=a0u hi'
  have hrep:List.replicate (p.length-i) (0:Int)=0::List.replicate (p.length-(i+1)) 0:=by rw[show p.length-i=(p.length-(i+1))+1 by omega,List.replicate_succ]
  refine a0i el_plan rfl rfl rfl rfl (fun _=>rfl) (hu.mono l3) hx rfl (fun _=>rfl) fun _=> ?_
  simp only[cA,nA]
  have hmF:∀y:Int,y∈F↔y∈L.map (·.1):=fun y=>by
   constructor
   ·intro h
    obtain⟨j,hj⟩:=List.mem_iff_getElem?.1 h
    exact List.mem_map.2 ⟨(y,(j:Int)),(hL2 _ _).2 ⟨j,hj,rfl⟩,rfl⟩
   ·intro h
    obtain⟨q,hq,rfl⟩:=List.mem_map.1 h
    obtain⟨j,hj,_⟩:=(hL2 q.1 q.2).1 hq
    exact List.mem_of_getElem? hj
  have hub:(decide (x∈F)=false/\((if x∈F then F.idxOf x else 0:Nat):Int)=0/\x∉L.map (·.1))\/(decide (x∈F)=true/\(x,((if x∈F then F.idxOf x else 0:Nat):Int))∈L):=by
   by_cases hxF:x∈F
   ·obtain⟨j,hj⟩:=List.mem_iff_getElem?.1 hxF
    have hjl:=(List.getElem?_eq_some_iff.1 hj).1
    have hidx:F.idxOf x=j:=by
     obtain⟨_,e⟩:=List.getElem?_eq_some_iff.1 hj
     rw[<-e];exact List.Nodup.idxOf_getElem hF j hjl
    exact .inr ⟨decide_eq_true hxF,by rw[if_pos hxF,hidx];exact(hL2 _ _).2 ⟨j,hj,rfl⟩⟩
   ·exact .inl ⟨decide_eq_false hxF,by rw[if_neg hxF];rfl,fun h=>hxF ((hmF x).2 h)⟩
  refine a0h (b0r (vs:=[v2,ii x]) (m:=v2) (k:=x) rfl rfl rfl a3q a3O c0V m3.mi hub) rfl ?_
  simp only[cA,nA]
  refine a0a ⟨_,rfl,by simp⟩ ?_
  refine a0a ⟨_,rfl,by simp⟩ ?_
  refine a0a ⟨_,rfl⟩ ?_
  refine a0e (b:= !decide (x∈F)) rfl (fun hb=> ?_) (fun hb=> ?_)
  ·skip
   have hxF:x∉F:=by simpa using hb
   refine a0h (a6A (m:=v2) rfl rfl a3q m3.mi) rfl ?_
   simp only[cA,nA]
   refine a0l (b5l (B:=H) (vs:=[v2,ii x,ii (L.length:Nat)]) (m:=v2) (k:=x) (v:=(L.length:Nat)) rfl rfl rfl rfl a3q a3O l3 m3) rfl ?_
   rintro u4 H4 ⟨rfl,l4,m4,g,ob,E,cc,hgB,hgm,rfl⟩
   refine⟨fun h=>(nomatch h),?_⟩
   simp only[cA,nA]
   have o4:=SO.putM o3 hgm ob
   obtain⟨Bi,g1,g2,g3,g4⟩:=SO.splitM o4 l4
   refine a0O el_plan (a:=((L.length:Nat):Int)) rfl rfl rfl rfl (fun _=>rfl) (fun _=>rfl) g1 g2 (by rw[List.length_append,List.length_replicate];omega) rfl (fun _=>rfl) rfl fun q u' H5 l5 o5 _=> ?_
   simp only[cA,nA]
   have hxL:x∉L.map (·.1):=fun h=>hxF ((hmF x).2 h)
   rw[hrep,c1d hdl,hLF]at o5
   exact⟨(i+1,F++[x],c2t L x (L.length:Nat),done++[((F.length:Nat):Int)]),by show p.length-(i+1)<p.length-i;omega,(a3k (a0r rfl (by omega))),⟨hi',by rw[List.length_append,hdl];rfl,by rw[<-hR,hdx];simp only[b7g,if_neg hxF];rw[List.append_assoc];rfl,by unfold c2t;rw[if_neg hxL];simp[hLF],List.nodup_append.2 ⟨hF,by simp,fun a ha b hb=>by obtain rfl:=List.mem_singleton.1 hb;exact fun e=>hxF (e ▸ ha)⟩,by
    intro a b
    unfold c2t;rw[if_neg hxL,List.mem_append,hL2,List.mem_singleton,Prod.mk.injEq,hLF]
    constructor
    ·rintro(⟨j,h1,h2⟩|⟨rfl,rfl⟩)
     ·exact⟨j,by rw[List.getElem?_append_left (List.getElem?_eq_some_iff.1 h1).1];exact h1,h2⟩
     ·exact⟨F.length,by simp,rfl⟩
    ·rintro⟨j,h1,h2⟩
     by_cases hj:j<F.length
     ·rw[List.getElem?_append_left hj]at h1;exact .inl ⟨j,h1,h2⟩
     ·have hj2:=(List.getElem?_eq_some_iff.1 h1).1
      simp only[List.length_append,List.length_cons,List.length_nil]at hj2
      have e:j=F.length:=by omega
      subst e
      rw[List.getElem?_append_right (Nat.le_refl _),Nat.sub_self]at h1
      simp only[List.getElem?_cons_zero,Option.some.injEq]at h1
      exact .inr ⟨h1.symm,h2⟩,g3.trans l5,MO.tr m4 fun r E c hr=>l5 _ _ (g4 r E c hr),SO.less o5 g3⟩⟩
  ·skip
   have hxF:x∈F:=by simpa using hb
   obtain⟨Bi,g1,g2,g3,g4⟩:=SO.splitM o3 l3
   rw[if_pos hxF]
   refine a0O el_plan (a:=((F.idxOf x:Nat):Int)) rfl rfl rfl rfl (fun _=>rfl) (fun _=>rfl) g1 g2 (by rw[List.length_append,List.length_replicate];omega) rfl (fun _=>rfl) rfl fun q u' H5 l5 o5 _=> ?_
   simp only[cA,nA]
   rw[hrep,c1d hdl]at o5
   exact⟨(i+1,F,L,done++[((F.idxOf x:Nat):Int)]),by show p.length-(i+1)<p.length-i;omega,(a3k (a0r rfl (by omega))),⟨hi',by rw[List.length_append,hdl];rfl,by rw[<-hR,hdx];simp only[b7g,if_pos hxF];rw[List.append_assoc];rfl,hLF,hF,hL2,g3.trans l5,MO.tr m3 fun r E c hr=>l5 _ _ (g4 r E c hr),SO.less o5 g3⟩⟩
 ·replace h:=of_decide_eq_false h
  have he:i=p.length:=by omega
  subst he
  rw[List.drop_length]at hR
  simp only[b7g,List.append_nil]at hR
  rw[Nat.sub_self,List.replicate_zero,List.append_nil,hR]at o3
  exact a0c rfl ⟨l3,v4,rfl,o3⟩
end
end Go.Proofs.YtmannekkmdockaaGreatDoor
/- Chapter 32: drafts. -/
namespace Go.RX
open Go.RowKit
theorem b7j {P:Program} {ρ:List Value} {x y:SV} {n:Nat} {a b:Value} (hx:D P ρ x=a) (hy:D P ρ y=b):D P ρ (.cat x n y)= .agg (a.cells++b.cells):=by
 show Value.agg ((D P ρ x).cells++(D P ρ y).cells)=_
 rw[hx,hy]
theorem d3z {P:Program} {ρ:List Value} {x:SV} {o n:Nat} {a:Value} (hx:D P ρ x=a):D P ρ (.sub x o n 0 noI)= .agg (a.cells.extract o (o+n)):=by
 show Value.agg ((D P ρ x).cells.extract (o+0*a2j (D P ρ noI)) (o+0*a2j (D P ρ noI)+n))=_
 rw[hx,Nat.zero_mul];rfl
end Go.RX
namespace Go.Proofs.YtmannekkmdockaaGreatDoor
open Go.Proofs.Tryz
open Go.RowKit Go.RX Go.GS
def c8 (c:Nat):List Value:=[.int .u8 (c:Nat)]
theorem c4T:El prog 26 5 1 false c8 (fun c:Nat=> .int .u8 (c:Nat)) where
 und:=by kernel_rfl
 has:=by kernel_rfl
 cel:=by kernel_rfl
 agg:=by kernel_rfl
 pos:=by decide
 one1:=fun _=>rfl
 small:=by decide
 inf:=⟨(prog.info? 5).getD default,.int .u8 0,by kernel_rfl,by kernel_rfl,by kernel_rfl,rfl,of_decide_eq_true (by kernel_rfl)⟩
 len:=fun _=>rfl
 val:=fun _=>rfl
 cells:=fun _=>rfl
 one:=fun x c hc=>by simp[c8]at hc;subst hc;rfl
def cv (a b c:Nat) (s w cu:Value) (k s0 s1 tr:Nat):Value:= .agg #[.int .u8 (a:Nat),.int .u8 (b:Nat),.int .u16 (c:Nat),s,w,cu,.int .u8 (k:Nat),.int .u8 (s0:Nat),.int .u8 (s1:Nat),.int .u8 (tr:Nat)]
theorem c6J {s w cu:Value} (h:a8l s=true) (h2:a8l w=true) (h3:a8l cu=true) (a b c k s0 s1 tr:Nat):(cv a b c s w cu k s0 s1 tr).cells.size=10/\a0t (cv a b c s w cu k s0 s1 tr).cells:=by
 refine⟨rfl,fun x hx=> ?_⟩
 rw[cv,a1x]at hx
 simp only[List.mem_cons,List.not_mem_nil,or_false]at hx
 rcases hx with rfl|rfl|rfl|rfl|rfl|rfl|rfl|rfl|rfl|rfl<;>first|rfl|assumption
theorem d0d {ρ:List Value} {x:SV} {a b c:Nat} {s w cu:Value} {k s0 s1 tr:Nat} (hx:D prog ρ x=cv a b c s w cu k s0 s1 tr) (hs:s.cells= #[s]):
  D prog ρ (.cat (.op2 .rem .u8 (.cell (.sub x 0 4 0 noI) 0 0 noI) (.k (.int .u8 3))) 1 (.sub (.sub x 0 4 0 noI) 1 3 0 noI))=dv ((a%3:Nat):Int) b c s:=by
 have h1:D prog ρ (.sub x 0 4 0 noI)=dv (a:Nat) b c s:=by
  show Value.agg ((D prog ρ x).cells.extract (0+0*a2j (D prog ρ noI)) (0+0*a2j (D prog ρ noI)+4))=_
  rw[hx,Nat.zero_mul];rfl
 have h2:D prog ρ (.cell (.sub x 0 4 0 noI) 0 0 noI)= .int .u8 (a:Nat):=by
  show(D prog ρ (.sub x 0 4 0 noI)).cells.getD (0+0*a2j (D prog ρ noI)) undef=_
  rw[h1,Nat.zero_mul];rfl
 have h3:D prog ρ (.op2 .rem .u8 (.cell (.sub x 0 4 0 noI) 0 0 noI) (.k (.int .u8 3)))= .int .u8 ((a%3:Nat):Int):=by
  show a2E .rem .u8 (intOf (D prog ρ (.cell (.sub x 0 4 0 noI) 0 0 noI))) 3=_
  rw[h2];rfl
 show Value.agg ((D prog ρ (.op2 .rem .u8 (.cell (.sub x 0 4 0 noI) 0 0 noI) (.k (.int .u8 3)))).cells++((D prog ρ (.sub x 0 4 0 noI)).cells.extract (1+0*a2j (D prog ρ noI)) (1+0*a2j (D prog ρ noI)+3)))=_
 rw[h3,h1,Nat.zero_mul];rfl
theorem d3A {ρ:List Value} {x y:SV} {wts u:Value} {lo hi k:Int} (hx:D prog ρ x=u) (hy:D prog ρ y=bv wts lo hi k) (hc:u.cells= #[u]):D prog ρ (.cat x 1 (.sub y 1 3 0 noI))=bv u lo hi k:=by
 show Value.agg ((D prog ρ x).cells++((D prog ρ y).cells.extract (1+0*a2j (D prog ρ noI)) (1+0*a2j (D prog ρ noI)+3)))=_
 rw[hx,hy,hc,Nat.zero_mul];rfl
theorem d3B {ρ:List Value} {x y z:SV} {wts:Value} {lo hi k lo' hi':Int} (hx:D prog ρ x=bv wts lo hi k) (hy:D prog ρ y=ii lo') (hz:D prog ρ z=ii hi'):
  D prog ρ (.cat (.sub x 0 1 0 noI) 1 (.cat y 1 (.cat z 1 (.sub (.sub x 2 2 0 noI) 1 1 0 noI))))=bv wts lo' hi' k:=by
 have h1:D prog ρ (.sub x 0 1 0 noI)= .agg #[wts]:=by
  show Value.agg ((D prog ρ x).cells.extract (0+0*a2j (D prog ρ noI)) (0+0*a2j (D prog ρ noI)+1))=_
  rw[hx,Nat.zero_mul];rfl
 have h2:D prog ρ (.sub (.sub x 2 2 0 noI) 1 1 0 noI)= .agg #[ii k]:=by
  show Value.agg ((Value.agg ((D prog ρ x).cells.extract (2+0*a2j (D prog ρ noI)) (2+0*a2j (D prog ρ noI)+2))).cells.extract (1+0*a2j (D prog ρ noI)) (1+0*a2j (D prog ρ noI)+1))=_
  rw[hx,Nat.zero_mul];rfl
 show Value.agg ((D prog ρ (.sub x 0 1 0 noI)).cells++(Value.agg ((D prog ρ y).cells++(Value.agg ((D prog ρ z).cells++(D prog ρ (.sub (.sub x 2 2 0 noI) 1 1 0 noI)).cells)).cells)).cells)=_
 rw[h1,h2,hy,hz];rfl
theorem c6K {ρ:List Value} {x y:SV} {c m:Nat} (hx:D prog ρ x= .int .u8 (c:Nat)) (hc:c<256) (hy:D prog ρ y=ii (m:Nat)):D prog ρ (.op2 .rem .i64 (.cv .i64 x) y)=ii ((c%m:Nat):Int):=by
 show a2E .rem .i64 (IntKind.i64.wrap (intOf (D prog ρ x))) (intOf (D prog ρ y))=_
 rw[hx,hy]
 show Value.int .i64 (Int.tmod (IntKind.i64.wrap ((c:Nat):Int)) ((m:Nat):Int))=_
 rw[show IntKind.i64.wrap ((c:Nat):Int)=((c:Nat):Int) by rw[IntKind.wrap_i64];omega,<-Int.ofNat_tmod]
 rfl
theorem d6j:a0L prog 32= .slice none 0 0:=by kernel_rfl
theorem d6k {ρ:List Value} {y:SV} {k:Int} (hy:D prog ρ y=ii k):D prog ρ (.cat (.z 32) 1 (.cat (.z 3) 1 (.cat (.z 3) 1 y)))=bv (.slice none 0 0) 0 0 k:=by
 show Value.agg ((a0L prog 32).cells++(Value.agg ((a0L prog 3).cells++(Value.agg ((a0L prog 3).cells++(D prog ρ y).cells)).cells)).cells)=_
 rw[d6j,b6U,hy];rfl
theorem c4U:∀n:Fin 10,card (2^n.val-1)=n.val:=by decide
theorem d0e {n x:Nat}:bit (2^n-1) x=decide (x<n):=Nat.testBit_two_pow_sub_one n x
def a6p:List (Nat×Nat):=[(0,1),(0,2),(1,3),(2,3)]
theorem c4V:GV 4 a6p:=⟨by decide,by decide,by decide,by decide,by unfold a6p elt;simp⟩
theorem c4W:Cn a6p 15:=by
 have hb:∀x,bit 15 x=decide (x<4):=fun x=>d0e (n:=4)
 have h0:Rch a6p 15 0 0:= .base
 have h1:Rch a6p 15 0 1:= .step h0 (by simp[adj,a6p]) (by rw[hb];rfl)
 have h2:Rch a6p 15 0 2:= .step h0 (by simp[adj,a6p]) (by rw[hb];rfl)
 have h3:Rch a6p 15 0 3:= .step h1 (by simp[adj,a6p]) (by rw[hb];rfl)
 refine⟨0,by rw[hb];rfl,fun y hy=> ?_⟩
 rw[hb]at hy
 have hy:=of_decide_eq_true hy
 match y,hy with
 |0,_=>exact h0
 |1,_=>exact h1
 |2,_=>exact h2
 |3,_=>exact h3
end Go.Proofs.YtmannekkmdockaaGreatDoor
/- Chapter 32: changed drafts. -/
namespace Go.RX
open Go.RowKit
theorem b5M {P:Program} {o:Oper} {x y:Operand} {vs:List Value} {t t' e:TypeId} {p:Option Addr} {n c:Nat} (ho:o.op= .binOp .eql t x y t') (hx:a0f [x,y] vs x= .slice p n c) (hy:a0f [x,y] vs y= .slice none 0 0) (hu:P.underlying t=some (.slice e)):Yld P o vs (.bool p.isNone):=fun w=>by
 have hos:o.op.operands.toList=[x,y]:=by simp[ho,Op.operands]
 rw[hos]
 have h:∀d:Nat,(Op.equalIn (d+1) t (.slice p n c) (.slice none 0 0)).run P w= .ok p.isNone w:=fun d=>by
  cases p<;>simp[Op.equalIn,run_underlying hu]
 have hb:(binOp .eql t (.slice p n c) (.slice none 0 0)).run P w= .ok (.bool p.isNone) w:=by
  simp only[binOp]
  simp[Op.equal,Op.maxDepth,h 9999]
 simp only[execOp,ho,hx,hy,Sem.run_bind,eqGuard]
 simp[hb]
end Go.RX
namespace Go.Proofs.YtmannekkmdockaaGreatDoor
open Go.Proofs.Tryz
open Go.RowKit Go.RX Go.GS
section
variable {H:PH} {u:Value} {l:List Int}
theorem c4X (hu:SI H u l) (hl:l.length<=1000000):Con prog 45 [u] H fun r H'=>PH.le H H'/\SO H H' 3 1 (fun z:Int=>[ii z]) r l:=by
 refine a0b mixed c8k (by kernel_rfl) rfl ?_
 obtain⟨q1,a,c,rfl,q2,q3,q4⟩:=id hu
 refine a0h ((b5M (p:=a) (n:=l.length) (c:=c) rfl rfl rfl el_int.und).rds _) rfl ?_
 simp only[cA,nA]
 refine a0a ⟨_,rfl⟩ ?_
 refine a0e (b:=a.isNone) rfl (fun h=> ?_) (fun h=> ?_)
 ·skip
  have h0:l.length=0:=by
   rcases q4 with h|⟨_,_,_,_,_,h,_⟩
   ·exact h
   ·subst h;cases h
  have hnil:l=[]:=List.eq_nil_of_length_eq_zero h0
  subst hnil
  exact a0c rfl ⟨PH.le.refl _,SO.nil _ _ _ _ _⟩
 ·skip
  refine a3g el_int rfl rfl fun v2 H1 l1 o1 _=> ?_
  simp only[cA,nA]
  refine a1k el_int rfl rfl rfl l1 o1 (hu.mono l1) (by simp only[List.length_nil];omega) rfl rfl fun v3 H2 l2 o2 _=> ?_
  simp only[cA,nA]
  exact a0c rfl ⟨l2,by rw[List.nil_append]at o2;exact o2⟩
theorem c4Y (hu:SI H u l) (hl:l.length<=1000000):Con prog 18 [u] H fun r H'=>PH.le H H'/\SO H H' 3 1 (fun z:Int=>[ii z]) r l:=by
 refine a0b mixed c8l (by kernel_rfl) rfl ?_
 obtain⟨q1,a,c,rfl,q2,q3,q4⟩:=id hu
 refine a0h ((b5M (p:=a) (n:=l.length) (c:=c) rfl rfl rfl el_plan.und).rds _) rfl ?_
 simp only[cA,nA]
 refine a0a ⟨_,rfl⟩ ?_
 refine a0e (b:=a.isNone) rfl (fun h=> ?_) (fun h=> ?_)
 ·skip
  have h0:l.length=0:=by
   rcases q4 with h|⟨_,_,_,_,_,h,_⟩
   ·exact h
   ·subst h;cases h
  have hnil:l=[]:=List.eq_nil_of_length_eq_zero h0
  subst hnil
  exact a0c rfl ⟨PH.le.refl _,SO.nil _ _ _ _ _⟩
 ·skip
  refine a3g el_plan rfl rfl fun v2 H1 l1 o1 _=> ?_
  simp only[cA,nA]
  refine a1k el_plan rfl rfl rfl l1 o1 (hu.mono l1) (by simp only[List.length_nil];omega) rfl rfl fun v3 H2 l2 o2 _=> ?_
  simp only[cA,nA]
  exact a0c rfl ⟨l2,by rw[List.nil_append]at o2;exact o2⟩
end
end Go.Proofs.YtmannekkmdockaaGreatDoor
/- Chapter 32: the checks, on both sides. -/
namespace Go.RX
open Go.RowKit
section
variable {P:Program} {T e:TypeId} {sz:Nat} {ag:Bool} {α:Type} {ce:α->List Value} {ve:α->Value} (E:El P T e sz ag ce ve)
variable {G:Value->PH->Prop} {nx:List (List Value->PH->Prop)} {ρ:List Value} {H:PH} {o:Oper} {id i:Nat} {args:List SV} {t:Tree} {l:List α} {vs:List Value}
include E
theorem a7T {N:Nat} {parts:Array (Nat×Operand)} (hl:l.length=N) (h0:0<N) (hN:N<=1000) (ho:o.op= .buildSlice T N parts) (hp:parts.toList.map (fun p=>(p.1,a0f (parts.toList.map (·.2)) vs p.2))=(l.zipIdx 0).map fun p=>(p.2,ve p.1)) (ha:args.map (D P ρ)=vs)
  (n:∀v H',PH.le H H'->SO H H' e sz ce v l->den P G t nx (ρ++[v]) H'):den P G (.mk id i o args t) nx ρ H:=by
 obtain⟨ti,zv,h1,h2,h3,h4,h5⟩:=E.inf
 have hpos:=E.pos
 have hsm:=E.small
 have hb:N*sz<=1000*1000:=Nat.mul_le_mul hN hsm
 have hNp:0<N*sz:=Nat.mul_pos h0 hpos
 refine⟨fun b=> .slice (some ⟨b,0,none⟩) N N,.cells (l.flatMap ce).toArray e (0,0),fun w=> ?_,fun b hb=>n _ _ (PH.le_put hb _) (b1w E hb hl (by simp only[maxLen];omega) (by simp))⟩
 have hos:o.op.operands.toList=parts.toList.map (·.2):=by simp[ho,Op.operands]
 have hf:Instr.fill (fun j=>some (j*ti.size,ti.size)) ((Array.range (N*ti.size)).map (zv.cells[· %zv.cells.size]!)) (parts.toList.map fun p=>(p.1,a0f (parts.toList.map (·.2)) vs p.2))=some (l.flatMap ce).toArray:=by
  rw[h3,hp,a4L _ _ _ fun p hp=> ?_]
  ·rw[a7e E.len E.cells,Nat.zero_mul,a9y (by rw[a4P E.len,hl];simp)]
  ·simp only[List.mem_map,Prod.exists]at hp
   obtain⟨a,k,hk,rfl⟩:=hp
   have hk':=List.mem_zipIdx hk
   refine⟨k*sz,sz,rfl,(E.vcells a).1,?_⟩
   have:(k+1)*sz<=N*sz:=Nat.mul_le_mul_right _ (by omega)
   rw[Nat.add_mul,Nat.one_mul]at this
   simpa using this
 have hr:=run_buildSlice (P:=P) w T e N (parts.map fun(j,x)=>(j,a0f (parts.toList.map (·.2)) vs x)) (l.flatMap ce).toArray ti zv E.und h1 h2 (by rw[h3];omega) (by rw[h3];omega) (by rw[Array.toList_map];exact hf)
 rw[hos,ha]
 simp only[execOp,ho,Sem.run_bind,hr,Result.andThen_ok,Sem.run_pure]
end
end Go.RX
namespace Go.Proofs.YtmannekkmdockaaGreatDoor
open Go.Proofs.Tryz
open Go.RowKit Go.RX Go.GS
open Go.WD (wd toI iw rs)
theorem a1X:El prog 48 33 1 false (fun s:Slc=>[vs s]) vs where
 und:=by kernel_rfl
 has:=by kernel_rfl
 cel:=by kernel_rfl
 agg:=by kernel_rfl
 pos:=by decide
 one1:=fun _=>rfl
 small:=by decide
 inf:=⟨(prog.info? 33).getD default,vs (none,0,0),by kernel_rfl,by kernel_rfl,by kernel_rfl,rfl,of_decide_eq_true (by kernel_rfl)⟩
 len:=fun _=>rfl
 val:=fun _=>rfl
 cells:=fun _=>rfl
 one:=fun x c hc=>by simp at hc;subst hc;rfl
end Go.Proofs.YtmannekkmdockaaGreatDoor
/- Chapter 32: parts of a step, on both sides. -/
namespace Go.Proofs.YtmannekkmdockaaGreatDoor
open Go.Proofs.Tryz
open Go.RowKit Go.RX Go.GS
section
variable {H H0:PH} {u v w wts:Value} {p q wl t:List Int} {n a b:Nat} {es:List (Nat×Nat)} {lo hi ds k:Int} {set x:Nat}
abbrev OE (H0 H:PH) (v:Value) (l:List (Nat×Nat)):Prop:=SO H0 H 99 2 ec v l
theorem c4Z {k:Nat} (hk:k<=8):Con prog 111 [ii (k:Nat)] H fun r H'=>PH.le H H'/\OE H H' r (a0w k):=by
 refine a0b mixed c8S (by kernel_rfl) rfl ?_
 refine a0k (α:=Nat×Value) (fun⟨i,v⟩=>[v,ii (i:Nat)]) (fun⟨i,v⟩=>fun H'=>i<=k/\PH.le H H'/\OE H H' v (prI k i)) (fun⟨i,v⟩=>k-i) ((0,.slice none 0 0)) rfl (⟨Nat.zero_le _,PH.le.refl _,SO.nil _ _ _ _ _⟩) fun⟨i,v⟩ H' hQ=> ?_
 simp only[cA,nA]
 obtain⟨hi,l1,o1⟩:=hQ
 refine a0a ⟨_,rfl⟩ ?_
 refine a0a ⟨_,rfl⟩ ?_
 refine a0e (b:=decide (((i:Nat):Int)<(k:Nat))) rfl (fun h=> ?_) (fun h=> ?_)
 ·replace h:=of_decide_eq_true h
  have hi':i<k:=by omega
  refine a0k (α:=Nat×Value) (fun⟨j,v⟩=>[v,ii (j:Nat)]) (fun⟨j,v⟩=>fun H2=>i+1<=j/\j<=k/\PH.le H H2/\OE H H2 v (prI k i++b5J i j)) (fun⟨j,v⟩=>k-j) ((i+1,v)) (a1l rfl (a0r rfl (by omega))) (⟨Nat.le_refl _,hi',l1,by rw[c4L,List.append_nil];exact o1⟩) fun⟨j,v⟩ H2 hQ2=> ?_
  simp only[cA,nA]
  obtain⟨hj1,hj2,l2,o2⟩:=hQ2
  refine a0a ⟨_,rfl⟩ ?_
  refine a0e (b:=decide (((j:Nat):Int)<(k:Nat))) rfl (fun h2=> ?_) (fun h2=> ?_)
  ·replace h2:=of_decide_eq_true h2
   have hj':j<k:=by omega
   have hpl:=b0z k i
   have hpl2:i*k<=64:=Nat.mul_le_mul (show i<=8 by omega) hk
   refine a0a (el_int.vcells _) ?_
   refine a0a (el_int.vcells _) ?_
   refine a2o el_edge rfl rfl rfl (fun _=>rfl) (fun _=>rfl) l2 o2 (by rw[List.length_append,b5L];omega) (a3k (c4R (a:=i) (b:=j) rfl rfl)) (fun _=>rfl) rfl fun p7 v7 H7 l7 o7=> ?_
   simp only[cA,nA]
   exact⟨(j+1,v7),by show k-(j+1)<k-j;omega,(a1l rfl (a0r rfl (by omega))),⟨by show i+1<=j+1;omega,hj',l7,by rw[c0Z hj1,<-List.append_assoc];exact o7⟩⟩
  ·replace h2:=of_decide_eq_false h2
   have hjk:j=k:=by omega
   subst hjk
   exact⟨(i+1,v),by show j-(i+1)<j-i;omega,(a1l rfl (a0r rfl (by omega))),⟨hi',l2,by rw[b5K];exact o2⟩⟩
 ·replace h:=of_decide_eq_false h
  have hik:i=k:=by omega
  subst hik
  exact a0c rfl ⟨l1,o1⟩
theorem b5N {o R:List Int} {m:Nat} {y:Int} (h:∀j,o[j]? =if j<m then R[j]? else p[j]?) (hm:m<o.length) (hy:R[m]? =some y):∀j,(o.set m y)[j]? =if j<m+1 then R[j]? else p[j]?:=fun j=>by
 by_cases e:j=m
 ·subst e;rw[List.getElem?_set_self hm,if_pos (by omega),hy]
 ·rw[List.getElem?_set_ne (fun e2=>e e2.symm),h j]
  by_cases h2:j<m
  ·rw[if_pos h2,if_pos (by omega)]
  ·rw[if_neg h2,if_neg (by omega)]
theorem d0f {o R:List Int} {m:Nat} (h:∀j,o[j]? =if j<m then R[j]? else p[j]?) (hy:R[m]? =p[m]?):∀j,o[j]? =if j<m+1 then R[j]? else p[j]?:=fun j=>by
 rw[h j]
 by_cases e:j=m
 ·subst e;rw[if_neg (by omega),if_pos (by omega),hy]
 ·by_cases h2:j<m
  ·rw[if_pos h2,if_pos (by omega)]
  ·rw[if_neg h2,if_neg (by omega)]
theorem d3C {o R:List Int} (h:∀j,o[j]? =if j<p.length then R[j]? else p[j]?) (hl:R.length=p.length):o=R:=List.ext_getElem? fun j=>by
 rw[h j]
 by_cases h2:j<p.length
 ·rw[if_pos h2]
 ·rw[if_neg h2,List.getElem?_eq_none (by omega),List.getElem?_eq_none (by omega)]
theorem c5a {i k a:Nat} (hu:SI H u p) (hL:LabOk p 8) (hi:i<8) (hk:k<8) (ha:a<M64):Con prog 116 [u,ii (i:Nat),ii (k:Nat),uv a] H fun r H'=>PH.le H H'/\SI H' r (a0m (a4m p (i:Nat) (k:Nat) a)):=by
 refine a0b mixed c8R (by kernel_rfl) rfl ?_
 have hl:=hu.len
 have hp64:=hL.2.2
 have hRl:=a1N p (i:Nat) (k:Nat) a
 refine a0d (c4Y hu (by omega)) rfl ?_
 rintro v4 H1 ⟨l1,o1⟩
 refine⟨fun h=>(nomatch h),?_⟩
 simp only[cA,nA]
 refine a0g el_plan rfl rfl (hu.mono l1) rfl ?_
 refine a0k (α:=Nat×List Int) (fun⟨m,o⟩=>[ii (m:Nat)]) (fun⟨m,o⟩=>fun H'=>m<=p.length/\o.length=p.length/\(∀j,o[j]? =if j<m then(a4m p (i:Nat) (k:Nat) a)[j]? else p[j]?)/\PH.le H H'/\OI H H' v4 o) (fun⟨m,o⟩=>p.length-m) ((0,p)) rfl (⟨Nat.zero_le _,rfl,fun j=>by rw[if_neg (Nat.not_lt_zero _)],l1,o1⟩) fun⟨m,o⟩ H' hQ=> ?_
 simp only[cA,nA]
 obtain⟨hm,hol,hoj,l2,o2⟩:=hQ
 refine a0a ⟨_,rfl⟩ ?_
 refine a0a ⟨_,rfl⟩ ?_
 refine a0e (b:=decide (((m:Nat):Int)<(p.length:Nat))) rfl (fun h=> ?_) (fun h=> ?_)
 ·replace h:=of_decide_eq_true h
  have hm':m<p.length:=by omega
  obtain⟨y,hy,_⟩:=a0u hm'
  have hR:=b0x (i:=(i:Int)) (k:=(k:Int)) (a:=a) hy
  refine a0i el_plan rfl rfl rfl rfl (fun _=>rfl) (hu.mono l2) hy rfl (fun _=>rfl) fun _=> ?_
  simp only[cA,nA]
  refine a0a ⟨_,rfl⟩ ?_
  refine a0a ⟨_,rfl⟩ ?_
  refine a0e (b:=decide (y≠(i:Nat))) (bN _ _) (fun h1=> ?_) (fun h1=> ?_)
  ·replace h1:=of_decide_eq_true h1
   refine a0a ⟨_,rfl⟩ ?_
   refine a0e (b:=decide (y≠(k:Nat))) (bN _ _) (fun h2=> ?_) (fun h2=> ?_)
   ·replace h2:=of_decide_eq_true h2
    have hv:rcV (i:Nat) (k:Nat) a m y=y:=if_neg (fun e=>e.elim h1 h2)
    exact⟨(m+1,o),by show p.length-(m+1)<p.length-m;omega,(a3k (a0r rfl (by omega))),⟨hm',hol,d0f hoj (by rw[hR,hv,hy]),l2,o2⟩⟩
   ·replace h2:=of_decide_eq_false h2
    have hik:y=(i:Nat)\/y=(k:Nat):= .inr (Classical.byContradiction h2)
    refine a0O el_plan (a:=((k:Nat):Int)) rfl rfl rfl rfl (fun _=>rfl) (fun _=>rfl) l2 o2 (show m<o.length by omega) rfl (fun _=>rfl) rfl fun q3 u3 H3 l3 o3 _=> ?_
    simp only[cA,nA]
    refine a0a ⟨_,rfl⟩ ?_
    refine a0a ⟨_,_,rfl⟩ ?_
    refine a0a (by show(0:Int)<=((m:Nat):Int);omega) ?_
    refine a0e (b:=bit a m) (b6T rfl ha rfl (by omega)) (fun b1=> ?_) (fun b1=> ?_)
    ·skip
     refine a0O el_plan (a:=((i:Nat):Int)) rfl rfl rfl rfl (fun _=>rfl) (fun _=>rfl) l3 o3 (show m<(o.set m (k:Nat)).length by rw[List.length_set];omega) rfl (fun _=>rfl) rfl fun q5 u5 H5 l5 o5 _=> ?_
     simp only[cA,nA]
     rw[List.set_set]at o5
     exact⟨(m+1,o.set m (i:Nat)),by show p.length-(m+1)<p.length-m;omega,(a3k (a0r rfl (by omega))),⟨hm',by rw[List.length_set];exact hol,b5N hoj (by omega) (by rw[hR];unfold rcV;rw[if_pos hik,if_pos b1]),l5,o5⟩⟩
    ·skip
     exact⟨(m+1,o.set m (k:Nat)),by show p.length-(m+1)<p.length-m;omega,(a3k (a0r rfl (by omega))),⟨hm',by rw[List.length_set];exact hol,b5N hoj (by omega) (by rw[hR];unfold rcV;rw[if_pos hik,if_neg (by rw[b1];simp)]),l3,o3⟩⟩
  ·replace h1:=of_decide_eq_false h1
   have hik:y=(i:Nat)\/y=(k:Nat):= .inl (Classical.byContradiction h1)
   refine a0O el_plan (a:=((k:Nat):Int)) rfl rfl rfl rfl (fun _=>rfl) (fun _=>rfl) l2 o2 (show m<o.length by omega) rfl (fun _=>rfl) rfl fun q3 u3 H3 l3 o3 _=> ?_
   simp only[cA,nA]
   refine a0a ⟨_,rfl⟩ ?_
   refine a0a ⟨_,_,rfl⟩ ?_
   refine a0a (by show(0:Int)<=((m:Nat):Int);omega) ?_
   refine a0e (b:=bit a m) (b6T rfl ha rfl (by omega)) (fun b1=> ?_) (fun b1=> ?_)
   ·skip
    refine a0O el_plan (a:=((i:Nat):Int)) rfl rfl rfl rfl (fun _=>rfl) (fun _=>rfl) l3 o3 (show m<(o.set m (k:Nat)).length by rw[List.length_set];omega) rfl (fun _=>rfl) rfl fun q5 u5 H5 l5 o5 _=> ?_
    simp only[cA,nA]
    rw[List.set_set]at o5
    exact⟨(m+1,o.set m (i:Nat)),by show p.length-(m+1)<p.length-m;omega,(a3k (a0r rfl (by omega))),⟨hm',by rw[List.length_set];exact hol,b5N hoj (by omega) (by rw[hR];unfold rcV;rw[if_pos hik,if_pos b1]),l5,o5⟩⟩
   ·skip
    exact⟨(m+1,o.set m (k:Nat)),by show p.length-(m+1)<p.length-m;omega,(a3k (a0r rfl (by omega))),⟨hm',by rw[List.length_set];exact hol,b5N hoj (by omega) (by rw[hR];unfold rcV;rw[if_pos hik,if_neg (by rw[b1];simp)]),l3,o3⟩⟩
 ·replace h:=of_decide_eq_false h
  have he:m=p.length:=by omega
  subst he
  obtain rfl:=d3C hoj hRl
  refine a0d (a5l o2.se (b0y hL (by omega) (by omega))) rfl ?_
  rintro r H5 ⟨l5,z,rfl,hz⟩
  refine⟨fun h=>(nomatch h),?_⟩
  simp only[cA,nA]
  refine a0a ⟨_,rfl,by simp⟩ ?_
  refine a0a ⟨_,rfl,by simp⟩ ?_
  exact a0c rfl ⟨l2.trans l5,hz.se⟩
end
end Go.Proofs.YtmannekkmdockaaGreatDoor
/- Chapter 32: parts of the reference's step. -/
namespace Go.Proofs.YtmannekkmdockaaGreatDoor
open Go.Proofs.Tryz
open Go.RowKit Go.RX Go.GS
section
variable {H H0:PH} {u v w wts:Value} {p q wl t l m:List Int} {n a b:Nat} {es:List (Nat×Nat)} {lo hi ds k:Int} {set x:Nat}
theorem b7k (hu:SI H u l) (hv:SI H v m):Asks prog 57 [u,v] H (.bool (decide (l=m))):=by
 refine a0b mixed b9X (by kernel_rfl) rfl ?_
 have h1:=hu.len
 have h2:=hv.len
 refine a0g el_plan rfl rfl hu rfl ?_
 refine a0g el_plan rfl rfl hv rfl ?_
 refine a0a ⟨_,rfl⟩ ?_
 refine a0a ⟨_,rfl⟩ ?_
 refine a0e (b:=decide (l.length≠m.length)) (by show Value.bool (((l.length:Nat):Int) !=((m.length:Nat):Int))=_;rw[bN];congr 1;apply decide_eq_decide.2;omega) (fun h=> ?_) (fun h=> ?_)
 ·replace h:=of_decide_eq_true h
  exact a0c rfl ⟨rfl,by rw[decide_eq_false (fun e=>h (by rw[e]))];rfl⟩
 ·replace h:=of_decide_eq_false h
  have hlm:l.length=m.length:=by omega
  refine a0E (α:=Nat×Value) (fun⟨i,z⟩=>[z,ii (i:Nat)]) (fun⟨i,z⟩=>i<=l.length/\∀j,j<i->l[j]? =m[j]?) (fun⟨i,z⟩=>l.length-i) ((0,.bool false)) rfl (⟨Nat.zero_le _,fun j hj=>absurd hj (Nat.not_lt_zero _)⟩) fun⟨i,z⟩ hQ=> ?_
  simp only[cA,nA]
  obtain⟨hi,hq⟩:=hQ
  refine a0g el_plan rfl rfl hu rfl ?_
  refine a0a ⟨_,rfl⟩ ?_
  refine a0a ⟨_,rfl⟩ ?_
  refine a0e (b:=decide (((i:Nat):Int)<(l.length:Nat))) rfl (fun h3=> ?_) (fun h3=> ?_)
  ·replace h3:=of_decide_eq_true h3
   obtain⟨y,hy,_⟩:=a0u (l:=l) (i:=i) (by omega)
   obtain⟨z2,hz,_⟩:=a0u (l:=m) (i:=i) (by omega)
   refine a0i el_plan rfl rfl rfl rfl (fun _=>rfl) hu hy rfl (fun _=>rfl) fun _=> ?_
   simp only[cA,nA]
   refine a0i el_plan rfl rfl rfl rfl (fun _=>rfl) hv hz rfl (fun _=>rfl) fun _=> ?_
   simp only[cA,nA]
   refine a0a ⟨_,rfl⟩ ?_
   refine a0a ⟨_,rfl⟩ ?_
   refine a0e (b:=decide (y≠z2)) (bN _ _) (fun h4=> ?_) (fun h4=> ?_)
   ·replace h4:=of_decide_eq_true h4
    exact a0c rfl ⟨rfl,by rw[decide_eq_false (fun e=>by subst e;rw[hy]at hz;exact h4 (Option.some.inj hz))];rfl⟩
   ·replace h4:=of_decide_eq_false h4
    have h4':y=z2:=Classical.byContradiction h4
    exact⟨(i+1,z),by show l.length-(i+1)<l.length-i;omega,(a1l rfl (a0r rfl (by omega))),⟨⟨by show i+1<=l.length;omega,fun j hj=>by
     by_cases e:j=i
     ·subst e;rw[hy,hz,h4']
     ·exact hq j (by have:j<i+1:=hj;omega)⟩,rfl⟩⟩
  ·replace h3:=of_decide_eq_false h3
   have he:i=l.length:=by omega
   subst he
   have hlm2:l=m:=List.ext_getElem? fun j=>by
    by_cases hj:j<l.length
    ·exact hq j hj
    ·rw[List.getElem?_eq_none (by omega),List.getElem?_eq_none (by omega)]
   exact a0c rfl ⟨rfl,by rw[decide_eq_true hlm2];rfl⟩
end
end Go.Proofs.YtmannekkmdockaaGreatDoor

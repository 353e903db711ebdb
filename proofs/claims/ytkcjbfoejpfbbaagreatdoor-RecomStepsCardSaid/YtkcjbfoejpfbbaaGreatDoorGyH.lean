/- Chapter 32: parts of a step. -/
import Derived.Test.YtkcjbfoejpfbbaaGreatDoorGsR
import Derived.Test.YtkcjbfoejpfbbaaGreatDoorGyE
import Derived.Test.YtkcjbfoejpfbbaaGreatDoorGcC
import Derived.Test.YtkcjbfoejpfbbaaGreatDoorGdG
import Derived.Test.YtkcjbfoejpfbbaaGreatDoorGyT
import Derived.Test.YtkcjbfoejpfbbaaGreatDoorGdI
namespace Go.GS
open Go.RowKit Go.RX
theorem b6Z (s n:Nat):(s&&&2^n≠0)↔bit s n=true:=by
 have h:=b2Q (s:=s) (a:=n) (b:=n)
 rw[Nat.or_self]at h
 cases hb:bit s n with
 |false=>simp[h.2 ⟨hb,hb⟩]
 |true=>simp only[iff_true];exact fun e=>by have:=(h.1 e).1;rw[hb]at this;cases this
theorem a8Q {P:Program} {ρ:List Value} {a b:SV} {A n:Nat} {k:IntKind} (ha:D P ρ a=uv A) (hA:A<M64) (hb:D P ρ b= .int k (n:Nat)) (hn:n<64):D P ρ (.op2 .neq .u64 (.op2 .and .u64 a (.op2 .shl .u64 (.k (.int .u64 1)) b)) (.k (.int .u64 0)))= .bool (bit A n):=by
 show a1y .neq .u64 (intOf (D P ρ (.op2 .and .u64 a (.op2 .shl .u64 (.k (.int .u64 1)) b)))) 0=_
 rw[a2H ha (a2R hb hn) hA (a0R hn)]
 show Value.bool (((A&&&2^n:Nat):Int) !=0)=_
 have:=b6Z A n
 cases h:bit A n with
 |true=>have h2:=this.2 h;simp;omega
 |false=>
  have h2:A&&&2^n=0:=Classical.byContradiction fun e=>by rw[this.1 e]at h;cases h
  rw[h2];rfl
end Go.GS
namespace Go.Proofs.YtkcjbfoejpfbbaaGreatDoor
open Go.Proofs.Tryz
open Go.RowKit Go.RX Go.GS
section
variable {H H0:PH} {u v w wts:Value} {p wl t:List Int} {n:Nat} {es:List (Nat×Nat)} {lo hi ds k:Int} {set x:Nat}
theorem a8R (hT:Tb H) (hw:SG H w es) (hg:GV n es) (hu:SI H u t) (h0:set≠0/\set<2^n) (hk:k∈t):a3Z prog 38 [gv n w,uv set,u,ii k] H (.tuple #[uv (sdP es set t k).1,uv (sdP es set t k).2,ii (sdE es set t)]):=by
 by_cases ht:TreeOk es set t
 ·rw[show sdP es set t k=(a3X es set t k,sdf set (a3X es set t k))from if_pos ht,show sdE es set t=0 from if_pos ht]
  exact c3K hT hw hg hu h0 ht hk
 rw[show sdP es set t k=(0,0)from if_neg ht,show sdE es set t=300 from if_neg ht]
 refine a0j a0n b3j ?_
 have hs:=a0V hg.n64 h0.2
 refine a0c (a0G hw) ?_
 refine a0v (b1R hw hg hs hu) rfl fun H1 l1=> ?_
 rw[a5F h0 ht]
 refine a0a ?_
 refine a4D (bT (p:=(300:Int)≠0) (by decide)) ?_
 exact a0b rfl ⟨l1,rfl⟩
theorem c4E (hc:Chn H n w wts es wl) (hu:SI H u t) (h0:set≠0/\set<2^n) (htl:t.length<=1000):Con prog 65 [chv wts lo hi ds n w,uv set,u] H fun r H'=>PH.le H H'/\SI H' r (a7C es wl lo hi set t t):=by
 refine a0j a0n c0D ?_
 have hl:=hu.len
 have hs:=a0V hc.ok.n64 h0.2
 refine a0c (a9N (a0T hc.wt) (a0T hc.gr) _ _ _ _) ?_
 refine a0p el_int hu ?_
 refine a0i (α:=Nat×Value) (fun⟨i,v⟩=>[v,ii (i:Nat)]) (fun⟨i,v⟩=>fun H'=>i<=t.length/\PH.le H H'/\SO H H' 3 1 (fun z:Int=>[ii z]) v (a7C es wl lo hi set t (t.take i))) (fun⟨i,v⟩=>t.length-i) ((0,.slice none 0 0)) rfl (⟨Nat.zero_le _,PH.le.refl _,SO.nil _ _ _ _ _⟩) fun⟨i,v⟩ H' hQ=> ?_
 obtain⟨hi',l1,o1⟩:=hQ
 refine a0a ?_
 refine a0a ?_
 refine a0e (b:=decide (((i:Nat):Int)<(t.length:Nat))) rfl (fun h=> ?_) (fun h=> ?_)
 ·replace h:=of_decide_eq_true h
  have hi'':i<t.length:=by omega
  obtain⟨x,hx,hdx⟩:=a0q hi''
  have hlen:(a7C es wl lo hi set t (t.take i)).length<=i:=Nat.le_trans (List.length_filter_le _ _) (by rw[List.length_take];omega)
  obtain⟨hA,hB⟩:=b5J (es:=es) (t:=t) hc.ok.n64 h0 x
  have hst:a7C es wl lo hi set t (t.take (i+1))=if alB es wl lo hi (sdP es set t x).1&&alB es wl lo hi (sdP es set t x).2 then a7C es wl lo hi set t (t.take i)++[x]else a7C es wl lo hi set t (t.take i):=by
   rw[take_snoc hx];unfold a7C;rw[List.filter_append,List.filter_cons,List.filter_nil]
   split
   ·rfl
   ·rw[List.append_nil]
  refine a0t el_int (hu.mono l1) hx fun _=> ?_
  refine a0v (a8R (k:=x) (hc.tb.mono l1) (hc.gr.mono l1) hc.ok (hu.mono l1) h0 (List.mem_of_getElem? hx)) rfl fun H2 l2=> ?_
  refine a0m ?_
  refine a0m ?_
  refine a0m ?_
  refine a0v (a7g (lo:=lo) (hi:=hi) (ds:=ds) (hc.mono (l1.trans l2)) hA) rfl fun H3 l3=> ?_
  refine a0a ?_
  refine a0e (b:=alB es wl lo hi (sdP es set t x).1) rfl (fun b1=> ?_) (fun b1=> ?_)
  ·skip
   refine a0v (a7g (lo:=lo) (hi:=hi) (ds:=ds) (hc.mono ((l1.trans l2).trans l3)) hB) rfl fun H4 l4=> ?_
   refine a0a ?_
   refine a0e (b:=alB es wl lo hi (sdP es set t x).2) rfl (fun b2=> ?_) (fun b2=> ?_)
   ·skip
    refine a0B el_int rfl rfl rfl (fun _=>rfl) (fun _=>rfl) (((l1.trans l2).trans l3).trans l4) (o1.mono ((l2.trans l3).trans l4)) (by omega) rfl (fun _=>rfl) rfl fun q v2 H5 l5 o5=> ?_
    exact⟨(i+1,v2),by show t.length-(i+1)<t.length-i;omega,(a0F rfl (a0k rfl (by omega))),⟨hi'',l5,by rw[hst,b1,b2];exact o5⟩⟩
   ·skip
    exact⟨(i+1,v),by show t.length-(i+1)<t.length-i;omega,(a0F rfl (a0k rfl (by omega))),⟨hi'',((l1.trans l2).trans l3).trans l4,by rw[hst,b1,b2];exact o1.mono ((l2.trans l3).trans l4)⟩⟩
  ·skip
   exact⟨(i+1,v),by show t.length-(i+1)<t.length-i;omega,(a0F rfl (a0k rfl (by omega))),⟨hi'',(l1.trans l2).trans l3,by rw[hst,b1];exact o1.mono (l2.trans l3)⟩⟩
 ·replace h:=of_decide_eq_false h
  rw[List.take_of_length_le (by omega)]at o1
  exact a0b rfl ⟨l1,o1.se⟩
theorem a5N (hw:SG H w es) (hg:GV n es) (hu:SI H u t) (h0:set≠0/\set<2^n) (hk:k∈t):a3Z prog 75 [gv n w,uv set,u,ii k] H (.tuple #[uv (sdP es set t k).1,uv (sdP es set t k).2,ii (sdE es set t)]):=by
 by_cases ht:TreeOk es set t
 ·rw[show sdP es set t k=(a3X es set t k,sdf set (a3X es set t k))from if_pos ht,show sdE es set t=0 from if_pos ht]
  exact b3l hw hg hu h0 ht hk
 rw[show sdP es set t k=(0,0)from if_neg ht,show sdE es set t=300 from if_neg ht]
 refine a0j a0n b1E ?_
 have hs:=a0V hg.n64 h0.2
 refine a0c (a0G hw) ?_
 refine a0s (a8I hw hg hs hu) rfl ?_
 rw[a5F h0 ht]
 refine a0a ?_
 refine a4D (bT (p:=(300:Int)≠0) (by decide)) ?_
 exact a0b rfl ⟨PH.le.refl _,rfl⟩
theorem b3s (hc:Chn H n w wts es wl) (hu:SI H u t) (h0:set≠0/\set<2^n) (htl:t.length<=1000):Con prog 67 [gv n w,bv wts lo hi ds,uv set,u] H fun r H'=>PH.le H H'/\SI H' r (a7C es wl lo hi set t t):=by
 refine a0j a0n c1F ?_
 have hl:=hu.len
 have hs:=a0V hc.ok.n64 h0.2
 refine a0c (a0G hc.gr) ?_
 refine a0c (a2L (a0T hc.wt) _ _ _) ?_
 refine a0i (α:=Nat×Value) (fun⟨i,v⟩=>[v,ii (i:Nat)]) (fun⟨i,v⟩=>fun H'=>i<=t.length/\PH.le H H'/\SO H H' 3 1 (fun z:Int=>[ii z]) v (a7C es wl lo hi set t (t.take i))) (fun⟨i,v⟩=>t.length-i) ((0,.slice none 0 0)) rfl (⟨Nat.zero_le _,PH.le.refl _,SO.nil _ _ _ _ _⟩) fun⟨i,v⟩ H' hQ=> ?_
 obtain⟨hi',l1,o1⟩:=hQ
 refine a0p el_int (hu.mono l1) ?_
 refine a0a ?_
 refine a0a ?_
 refine a0e (b:=decide (((i:Nat):Int)<(t.length:Nat))) rfl (fun h=> ?_) (fun h=> ?_)
 ·replace h:=of_decide_eq_true h
  have hi'':i<t.length:=by omega
  obtain⟨x,hx,hdx⟩:=a0q hi''
  have hlen:(a7C es wl lo hi set t (t.take i)).length<=i:=Nat.le_trans (List.length_filter_le _ _) (by rw[List.length_take];omega)
  obtain⟨hA,hB⟩:=b5J (es:=es) (t:=t) hc.ok.n64 h0 x
  have hst:a7C es wl lo hi set t (t.take (i+1))=if alB es wl lo hi (sdP es set t x).1&&alB es wl lo hi (sdP es set t x).2 then a7C es wl lo hi set t (t.take i)++[x]else a7C es wl lo hi set t (t.take i):=by
   rw[take_snoc hx];unfold a7C;rw[List.filter_append,List.filter_cons,List.filter_nil]
   split
   ·rfl
   ·rw[List.append_nil]
  refine a0t el_int (hu.mono l1) hx fun _=> ?_
  refine a0v (a5N (k:=x) (hc.gr.mono l1) hc.ok (hu.mono l1) h0 (List.mem_of_getElem? hx)) rfl fun H2 l2=> ?_
  refine a0m ?_
  refine a0m ?_
  refine a0m ?_
  refine a0v (a4u (lo:=lo) (hi:=hi) (ds:=ds) (hc.gr.mono (l1.trans l2)) hc.ok (hc.wt.mono (l1.trans l2)) hc.len hc.wok hA) rfl fun H3 l3=> ?_
  refine a0a ?_
  refine a0e (b:=alB es wl lo hi (sdP es set t x).1) rfl (fun b1=> ?_) (fun b1=> ?_)
  ·skip
   refine a0v (a4u (lo:=lo) (hi:=hi) (ds:=ds) (hc.gr.mono ((l1.trans l2).trans l3)) hc.ok (hc.wt.mono ((l1.trans l2).trans l3)) hc.len hc.wok hB) rfl fun H4 l4=> ?_
   refine a0a ?_
   refine a0e (b:=alB es wl lo hi (sdP es set t x).2) rfl (fun b2=> ?_) (fun b2=> ?_)
   ·skip
    refine a0I el_int rfl rfl rfl rfl (fun _=>rfl) (hu.mono (((l1.trans l2).trans l3).trans l4)) hx rfl (fun _=>rfl) fun _=> ?_
    refine a0B el_int rfl rfl rfl (fun _=>rfl) (fun _=>rfl) (((l1.trans l2).trans l3).trans l4) (o1.mono ((l2.trans l3).trans l4)) (by omega) rfl (fun _=>rfl) rfl fun q v2 H5 l5 o5=> ?_
    exact⟨(i+1,v2),by show t.length-(i+1)<t.length-i;omega,(a0F rfl (a0k rfl (by omega))),⟨hi'',l5,by rw[hst,b1,b2];exact o5⟩⟩
   ·skip
    exact⟨(i+1,v),by show t.length-(i+1)<t.length-i;omega,(a0F rfl (a0k rfl (by omega))),⟨hi'',((l1.trans l2).trans l3).trans l4,by rw[hst,b1,b2];exact o1.mono ((l2.trans l3).trans l4)⟩⟩
  ·skip
   exact⟨(i+1,v),by show t.length-(i+1)<t.length-i;omega,(a0F rfl (a0k rfl (by omega))),⟨hi'',(l1.trans l2).trans l3,by rw[hst,b1];exact o1.mono (l2.trans l3)⟩⟩
 ·replace h:=of_decide_eq_false h
  rw[List.take_of_length_le (by omega)]at o1
  exact a0b rfl ⟨l1,o1.se⟩
theorem SO.putM {α:Type} {e:TypeId} {sz:Nat} {ce:α->List Value} {v:Value} {l:List α} {X H:PH} {r:Nat} {E:Array MapEntry} {c:Nat} (h:SO X H e sz ce v l) (hr:H r=some (.map E c)) (ob:Obj):SO X (H.put r ob) e sz ce v l:=by
 obtain⟨hlen,hv⟩:=h
 refine⟨hlen,hv.imp id ?_⟩
 rintro⟨g,cap,cur,h3,hg0,hg,h4⟩
 exact⟨g,cap,cur,h3,hg0,by rw[PH.put_ne _ _ (fun e=>by subst e;rw[hr]at hg;cases hg)];exact hg,h4⟩
theorem SO.splitM {α:Type} {e:TypeId} {sz:Nat} {ce:α->List Value} {v:Value} {l:List α} {B H:PH} (h:SO B H e sz ce v l) (hl:PH.le B H):∃Bi,PH.le Bi H/\SO Bi H e sz ce v l/\PH.le B Bi/\∀r E c,H r=some (.map E c)->Bi r=some (.map E c):=by
 obtain⟨hlen,hv⟩:=h
 rcases hv with⟨rfl,h0⟩|⟨g,cap,cur,rfl,hg0,hg,h4⟩
 ·exact⟨H,PH.le.refl _,⟨hlen,.inl ⟨rfl,h0⟩⟩,hl,fun _ _ _ h=>h⟩
 ·refine⟨a1W H g,a5L _ _,⟨hlen,.inr ⟨g,cap,cur,rfl,by unfold a1W;rw[if_pos rfl],hg,h4⟩⟩,fun k o hk=> ?_,fun r E c hr=> ?_⟩
  ·unfold a1W;rw[if_neg (fun e=>by subst e;rw[hg0]at hk;cases hk)];exact hl _ _ hk
  ·unfold a1W;rw[if_neg (fun e=>by subst e;rw[hg]at hr;cases hr)];exact hr
theorem MO.tr {B H H2:PH} {m:Value} {L:List (Int×Int)} (h:MO B H m L) (h2:∀r E c,H r=some (.map E c)->H2 r=some (.map E c)):MO B H2 m L:=by
 obtain⟨h0,r,es,c,h1,h4,h3,h5⟩:=h
 exact⟨h0,r,es,c,h1,h4,h2 _ _ _ h3,h5⟩
theorem c4F {done r:List Int} {i:Nat} {y z:Int} (h:done.length=i):(done++z::r).set i y=(done++[y])++r:=by
 subst h
 rw[List.set_append_right _ _ (Nat.le_refl _),Nat.sub_self];simp
theorem b5L (hu:SI H u p) (hL:LabOk p 8):Con prog 68 [u] H fun r H'=>PH.le H H'/\∃z,r= .tuple #[z,ii 0]/\OI H H' z (canon p):=by
 refine a0j a0n c0n ?_
 have hl:=hu.len
 have hp64:=hL.2.2
 refine a0s (a9M hu 8) rfl ?_
 refine a0a ?_
 refine a0l (by show Value.bool (!decide (LabOk p 8))=_;rw[decide_eq_true hL];rfl) ?_
 refine a0H (b2c rfl) rfl ?_
 rintro v2 H1 ⟨l1,m1⟩
 refine⟨fun h=>(nomatch h),?_⟩
 refine a0p el_plan (hu.mono l1) ?_
 refine a3m el_plan (z:=(0:Int)) c0s rfl rfl rfl (by omega) rfl fun v4 H2 l2 o2 _=> ?_
 refine a0p el_plan (hu.mono (l1.trans l2)) ?_
 refine a0i (α:=Nat×List Int×List (Int×Int)×List Int) (fun⟨i,F,L,done⟩=>[ii (i:Nat)]) (fun⟨i,F,L,done⟩=>fun H'=>i<=p.length/\done.length=i/\done++b5E F (p.drop i)=canon p/\L.length=F.length/\F.Nodup/\(∀a b:Int,(a,b)∈L↔∃j:Nat,F[j]? =some a/\b=j)/\PH.le H H'/\MO H H' v2 L/\OI H H' v4 (done++List.replicate (p.length-i) 0)) (fun⟨i,F,L,done⟩=>p.length-i) ((0,[],[],[])) rfl (⟨Nat.zero_le _,rfl,rfl,rfl,List.nodup_nil,fun a b=>by simp,l1.trans l2,m1.mono l2,SO.less o2 l1⟩) fun⟨i,F,L,done⟩ H' hQ=> ?_
 obtain⟨hi,hdl,hR,hLF,hF,hL2,l3,m3,o3⟩:=hQ
 refine a0a ?_
 refine a0a ?_
 refine a0e (b:=decide (((i:Nat):Int)<(p.length:Nat))) rfl (fun h=> ?_) (fun h=> ?_)
 ·replace h:=of_decide_eq_true h
  have hi':i<p.length:=by omega
  obtain⟨x,hx,hdx⟩:=a0q hi'
  have hrep:List.replicate (p.length-i) (0:Int)=0::List.replicate (p.length-(i+1)) 0:=by rw[show p.length-i=(p.length-(i+1))+1 by omega,List.replicate_succ]
  refine a0t el_plan (hu.mono l3) hx fun _=> ?_
  have hmF:∀y:Int,y∈F↔y∈L.map (·.1):=fun y=>by
   constructor
   ·intro h
    obtain⟨j,hj⟩:=List.mem_iff_getElem?.1 h
    exact List.mem_map.2 ⟨(y,(j:Int)),(hL2 _ _).2 ⟨j,hj,rfl⟩,rfl⟩
   ·intro h
    obtain⟨q,hq,rfl⟩:=List.mem_map.1 h
    obtain⟨j,hj,_⟩:=(hL2 q.1 q.2).1 hq
    exact List.mem_of_getElem? hj
  have hub:(decide (x∈F)=false/\((if x∈F then F.idxOf x else 0:Nat):Int)=0/\x∉L.map (·.1))\/(decide (x∈F)=true/\(x,((if x∈F then F.idxOf x else 0:Nat):Int))∈L):=by
   by_cases hxF:x∈F
   ·obtain⟨j,hj⟩:=List.mem_iff_getElem?.1 hxF
    have hjl:=(List.getElem?_eq_some_iff.1 hj).1
    have hidx:F.idxOf x=j:=by
     obtain⟨_,e⟩:=List.getElem?_eq_some_iff.1 hj
     rw[<-e];exact List.Nodup.idxOf_getElem hF j hjl
    exact .inr ⟨decide_eq_true hxF,by rw[if_pos hxF,hidx];exact(hL2 _ _).2 ⟨j,hj,rfl⟩⟩
   ·exact .inl ⟨decide_eq_false hxF,by rw[if_neg hxF];rfl,fun h=>hxF ((hmF x).2 h)⟩
  refine a0u (c8g (vs:=[v2,ii x]) (m:=v2) (k:=x) rfl rfl rfl a7x b0k c9u m3.mi hub) rfl ?_
  refine a0m ?_
  refine a0m ?_
  refine a0a ?_
  refine a0e (b:= !decide (x∈F)) rfl (fun hb=> ?_) (fun hb=> ?_)
  ·skip
   have hxF:x∉F:=by simpa using hb
   refine a0u (c8h (m:=v2) rfl rfl a7x m3.mi) rfl ?_
   refine a0H (b5K (B:=H) (vs:=[v2,ii x,ii (L.length:Nat)]) (m:=v2) (k:=x) (v:=(L.length:Nat)) rfl rfl rfl rfl a7x b0k l3 m3) rfl ?_
   rintro u4 H4 ⟨rfl,l4,m4,g,ob,E,cc,hgB,hgm,rfl⟩
   refine⟨fun h=>(nomatch h),?_⟩
   have o4:=SO.putM o3 hgm ob
   obtain⟨Bi,g1,g2,g3,g4⟩:=SO.splitM o4 l4
   refine a0U el_plan (a:=((L.length:Nat):Int)) rfl rfl rfl rfl (fun _=>rfl) (fun _=>rfl) g1 g2 (by rw[List.length_append,List.length_replicate];omega) rfl (fun _=>rfl) rfl fun q u' H5 l5 o5 _=> ?_
   have hxL:x∉L.map (·.1):=fun h=>hxF ((hmF x).2 h)
   rw[hrep,c4F hdl,hLF]at o5
   exact⟨(i+1,F++[x],c4p L x (L.length:Nat),done++[((F.length:Nat):Int)]),by show p.length-(i+1)<p.length-i;omega,(a2S (a0k rfl (by omega))),⟨hi',by rw[List.length_append,hdl];rfl,by rw[<-hR,hdx];simp only[b5E,if_neg hxF];rw[List.append_assoc];rfl,by unfold c4p;rw[if_neg hxL];simp[hLF],List.nodup_append.2 ⟨hF,by simp,fun a ha b hb=>by obtain rfl:=List.mem_singleton.1 hb;exact fun e=>hxF (e ▸ ha)⟩,by
    intro a b
    unfold c4p;rw[if_neg hxL,List.mem_append,hL2,List.mem_singleton,Prod.mk.injEq,hLF]
    constructor
    ·rintro(⟨j,h1,h2⟩|⟨rfl,rfl⟩)
     ·exact⟨j,by rw[List.getElem?_append_left (List.getElem?_eq_some_iff.1 h1).1];exact h1,h2⟩
     ·exact⟨F.length,by simp,rfl⟩
    ·rintro⟨j,h1,h2⟩
     by_cases hj:j<F.length
     ·rw[List.getElem?_append_left hj]at h1;exact .inl ⟨j,h1,h2⟩
     ·have hj2:=(List.getElem?_eq_some_iff.1 h1).1
      simp only[List.length_append,List.length_cons,List.length_nil]at hj2
      have e:j=F.length:=by omega
      subst e
      rw[List.getElem?_append_right (Nat.le_refl _),Nat.sub_self]at h1
      simp only[List.getElem?_cons_zero,Option.some.injEq]at h1
      exact .inr ⟨h1.symm,h2⟩,g3.trans l5,MO.tr m4 fun r E c hr=>l5 _ _ (g4 r E c hr),SO.less o5 g3⟩⟩
  ·skip
   have hxF:x∈F:=by simpa using hb
   obtain⟨Bi,g1,g2,g3,g4⟩:=SO.splitM o3 l3
   rw[if_pos hxF]
   refine a0U el_plan (a:=((F.idxOf x:Nat):Int)) rfl rfl rfl rfl (fun _=>rfl) (fun _=>rfl) g1 g2 (by rw[List.length_append,List.length_replicate];omega) rfl (fun _=>rfl) rfl fun q u' H5 l5 o5 _=> ?_
   rw[hrep,c4F hdl]at o5
   exact⟨(i+1,F,L,done++[((F.idxOf x:Nat):Int)]),by show p.length-(i+1)<p.length-i;omega,(a2S (a0k rfl (by omega))),⟨hi',by rw[List.length_append,hdl];rfl,by rw[<-hR,hdx];simp only[b5E,if_pos hxF];rw[List.append_assoc];rfl,hLF,hF,hL2,g3.trans l5,MO.tr m3 fun r E c hr=>l5 _ _ (g4 r E c hr),SO.less o5 g3⟩⟩
 ·replace h:=of_decide_eq_false h
  have he:i=p.length:=by omega
  subst he
  rw[List.drop_length]at hR
  simp only[b5E,List.append_nil]at hR
  rw[Nat.sub_self,List.replicate_zero,List.append_nil,hR]at o3
  exact a0b rfl ⟨l3,v4,rfl,o3⟩
end
end Go.Proofs.YtkcjbfoejpfbbaaGreatDoor
/- Chapter 32: parts of a step, on both sides. -/
namespace Go.Proofs.YtkcjbfoejpfbbaaGreatDoor
open Go.Proofs.Tryz
open Go.RowKit Go.RX Go.GS
section
variable {H H0:PH} {u v w wts:Value} {p q wl t:List Int} {n a b:Nat} {es:List (Nat×Nat)} {lo hi ds k:Int} {set x:Nat}
abbrev OE (H0 H:PH) (v:Value) (l:List (Nat×Nat)):Prop:=SO H0 H 100 2 ec v l
theorem b5M {k:Nat} (hk:k<=8):Con prog 132 [ii (k:Nat)] H fun r H'=>PH.le H H'/\OE H H' r (a2D k):=by
 refine a0j a0n c0L ?_
 refine a0i (α:=Nat×Value) (fun⟨i,v⟩=>[v,ii (i:Nat)]) (fun⟨i,v⟩=>fun H'=>i<=k/\PH.le H H'/\OE H H' v (prI k i)) (fun⟨i,v⟩=>k-i) ((0,.slice none 0 0)) rfl (⟨Nat.zero_le _,PH.le.refl _,SO.nil _ _ _ _ _⟩) fun⟨i,v⟩ H' hQ=> ?_
 obtain⟨hi,l1,o1⟩:=hQ
 refine a0a ?_
 refine a0a ?_
 refine a0e (b:=decide (((i:Nat):Int)<(k:Nat))) rfl (fun h=> ?_) (fun h=> ?_)
 ·replace h:=of_decide_eq_true h
  have hi':i<k:=by omega
  refine a0i (α:=Nat×Value) (fun⟨j,v⟩=>[v,ii (j:Nat)]) (fun⟨j,v⟩=>fun H2=>i+1<=j/\j<=k/\PH.le H H2/\OE H H2 v (prI k i++b7t i j)) (fun⟨j,v⟩=>k-j) ((i+1,v)) (a0F rfl (a0k rfl (by omega))) (⟨Nat.le_refl _,hi',l1,by rw[b5G,List.append_nil];exact o1⟩) fun⟨j,v⟩ H2 hQ2=> ?_
  obtain⟨hj1,hj2,l2,o2⟩:=hQ2
  refine a0a ?_
  refine a0e (b:=decide (((j:Nat):Int)<(k:Nat))) rfl (fun h2=> ?_) (fun h2=> ?_)
  ·replace h2:=of_decide_eq_true h2
   have hj':j<k:=by omega
   have hpl:=b0j k i
   have hpl2:i*k<=64:=Nat.mul_le_mul (show i<=8 by omega) hk
   refine a0c (el_int.vcells _) ?_
   refine a0c (el_int.vcells _) ?_
   refine a0B el_edge rfl rfl rfl (fun _=>rfl) (fun _=>rfl) l2 o2 (by rw[List.length_append,b0i];omega) (a2S (c9l (a:=i) (b:=j) rfl rfl)) (fun _=>rfl) rfl fun p7 v7 H7 l7 o7=> ?_
   exact⟨(j+1,v7),by show k-(j+1)<k-j;omega,(a0F rfl (a0k rfl (by omega))),⟨by show i+1<=j+1;omega,hj',l7,by rw[b1Z hj1,<-List.append_assoc];exact o7⟩⟩
  ·replace h2:=of_decide_eq_false h2
   have hjk:j=k:=by omega
   subst hjk
   exact⟨(i+1,v),by show j-(i+1)<j-i;omega,(a0F rfl (a0k rfl (by omega))),⟨hi',l2,by rw[b0h];exact o2⟩⟩
 ·replace h:=of_decide_eq_false h
  have hik:i=k:=by omega
  subst hik
  exact a0b rfl ⟨l1,o1⟩
theorem b7a {k:Nat} (hk:k<=8):Con prog 71 [ii (k:Nat)] H fun r H'=>PH.le H H'/\OE H H' r (a2D k):=by
 refine a0j a0n c4A ?_
 refine a0i (α:=Nat×Value) (fun⟨i,v⟩=>[v,ii (i:Nat)]) (fun⟨i,v⟩=>fun H'=>i<=k/\PH.le H H'/\OE H H' v (prI k i)) (fun⟨i,v⟩=>k-i) ((0,.slice none 0 0)) rfl (⟨Nat.zero_le _,PH.le.refl _,SO.nil _ _ _ _ _⟩) fun⟨i,v⟩ H' hQ=> ?_
 obtain⟨hi,l1,o1⟩:=hQ
 refine a0a ?_
 refine a0a ?_
 refine a0e (b:=decide (((i:Nat):Int)<(k:Nat))) rfl (fun h=> ?_) (fun h=> ?_)
 ·replace h:=of_decide_eq_true h
  have hi':i<k:=by omega
  refine a0i (α:=Nat×Value) (fun⟨j,v⟩=>[v,ii (j:Nat)]) (fun⟨j,v⟩=>fun H2=>i+1<=j/\j<=k/\PH.le H H2/\OE H H2 v (prI k i++b7t i j)) (fun⟨j,v⟩=>k-j) ((i+1,v)) (a0F rfl (a0k rfl (by omega))) (⟨Nat.le_refl _,hi',l1,by rw[b5G,List.append_nil];exact o1⟩) fun⟨j,v⟩ H2 hQ2=> ?_
  obtain⟨hj1,hj2,l2,o2⟩:=hQ2
  refine a0a ?_
  refine a0e (b:=decide (((j:Nat):Int)<(k:Nat))) rfl (fun h2=> ?_) (fun h2=> ?_)
  ·replace h2:=of_decide_eq_true h2
   have hj':j<k:=by omega
   have hpl:=b0j k i
   have hpl2:i*k<=64:=Nat.mul_le_mul (show i<=8 by omega) hk
   refine a0c (el_int.vcells _) ?_
   refine a0c (el_int.vcells _) ?_
   refine a0B el_edge rfl rfl rfl (fun _=>rfl) (fun _=>rfl) l2 o2 (by rw[List.length_append,b0i];omega) (a2S (c9l (a:=i) (b:=j) rfl rfl)) (fun _=>rfl) rfl fun p7 v7 H7 l7 o7=> ?_
   exact⟨(j+1,v7),by show k-(j+1)<k-j;omega,(a0F rfl (a0k rfl (by omega))),⟨by show i+1<=j+1;omega,hj',l7,by rw[b1Z hj1,<-List.append_assoc];exact o7⟩⟩
  ·replace h2:=of_decide_eq_false h2
   have hjk:j=k:=by omega
   subst hjk
   exact⟨(i+1,v),by show j-(i+1)<j-i;omega,(a0F rfl (a0k rfl (by omega))),⟨hi',l2,by rw[b0h];exact o2⟩⟩
 ·replace h:=of_decide_eq_false h
  have hik:i=k:=by omega
  subst hik
  exact a0b rfl ⟨l1,o1⟩
theorem c8l (hw:SG H w es) (hg:GV n es) (hwt:SI H wts wl) (ha:a<M64) (hb:b<M64):Asks prog 134 [chv wts lo hi ds n w,uv a,uv b] H (ii (a4c es a b:Nat)):=by
 refine a0j a0n c0J ?_
 have hl:=hw.len
 have h64:=hg.n64
 have hlen:=hg.len
 refine a0c (a9N (a0T hwt) (a0T hw) _ _ _ _) ?_
 refine a0p el_edge hw ?_
 refine a0A (α:=Nat) (fun i=>[ii (a4c (es.take i) a b:Nat),ii (i:Nat)]) (fun i=>i<=es.length) (fun i=>es.length-i) (0) rfl (Nat.zero_le _) fun i hQ=> ?_
 refine a0a ?_
 refine a0a ?_
 refine a0e (b:=decide (((i:Nat):Int)<(es.length:Nat))) rfl (fun h=> ?_) (fun h=> ?_)
 ·replace h:=of_decide_eq_true h
  have hi':i<es.length:=by omega
  obtain⟨e,he,hde⟩:=a0q hi'
  obtain⟨he1,he2⟩:=hg.mem he
  have hst:a4c (es.take (i+1)) a b=if btB a b e=true then a4c (es.take i) a b+1 else a4c (es.take i) a b:=by rw[take_snoc he,b1Y]
  have hle:a4c (es.take i) a b<=i:=Nat.le_trans (List.length_filter_le _ _) (by rw[List.length_take];omega)
  refine a0t el_edge hw he fun _=> ?_
  refine a0c (el_edge.vcells e) ?_
  refine a0c ⟨_,_,rfl⟩ ?_
  refine a0c (by show(0:Int)<=((e.1:Nat):Int);omega) ?_
  refine a0c ⟨_,_,rfl⟩ ?_
  refine a0c (by show(0:Int)<=((e.2:Nat):Int);omega) ?_
  refine a0a ?_
  refine a0e (b:=bit a e.1) (a8Q rfl ha rfl (by omega)) (fun b1=> ?_) (fun b1=> ?_)
  ·skip
   refine a0a ?_
   refine a0e (b:=bit b e.2) (a8Q rfl hb rfl (by omega)) (fun b2=> ?_) (fun b2=> ?_)
   ·skip
    refine a0a ?_
    exact⟨i+1,by omega,(a0F (by rw[hst,if_pos (by simp[btB,b1,b2])];exact a0k rfl (by omega)) (a0k rfl (by omega))),⟨hi',rfl⟩⟩
   ·skip
    refine a0e (b:=bit a e.2) (a8Q rfl ha rfl (by omega)) (fun b3=> ?_) (fun b3=> ?_)
    ·skip
     refine a0e (b:=bit b e.1) (a8Q rfl hb rfl (by omega)) (fun b4=> ?_) (fun b4=> ?_)
     ·skip
      refine a0a ?_
      exact⟨i+1,by omega,(a0F (by rw[hst,if_pos (by simp[btB,b1,b2,b3,b4])];exact a0k rfl (by omega)) (a0k rfl (by omega))),⟨hi',rfl⟩⟩
     ·skip
      exact⟨i+1,by omega,(a0F (by rw[hst,if_neg (by simp[btB,b1,b2,b3,b4])];rfl) (a0k rfl (by omega))),⟨hi',rfl⟩⟩
    ·skip
     exact⟨i+1,by omega,(a0F (by rw[hst,if_neg (by simp[btB,b1,b2,b3])];rfl) (a0k rfl (by omega))),⟨hi',rfl⟩⟩
  ·skip
   refine a0e (b:=bit a e.2) (a8Q rfl ha rfl (by omega)) (fun b3=> ?_) (fun b3=> ?_)
   ·skip
    refine a0a ?_
    refine a0e (b:=bit b e.1) (a8Q rfl hb rfl (by omega)) (fun b4=> ?_) (fun b4=> ?_)
    ·skip
     refine a0a ?_
     exact⟨i+1,by omega,(a0F (by rw[hst,if_pos (by simp[btB,b1,b3,b4])];exact a0k rfl (by omega)) (a0k rfl (by omega))),⟨hi',rfl⟩⟩
    ·skip
     exact⟨i+1,by omega,(a0F (by rw[hst,if_neg (by simp[btB,b1,b3,b4])];rfl) (a0k rfl (by omega))),⟨hi',rfl⟩⟩
   ·skip
    exact⟨i+1,by omega,(a0F (by rw[hst,if_neg (by simp[btB,b1,b3])];rfl) (a0k rfl (by omega))),⟨hi',rfl⟩⟩
 ·replace h:=of_decide_eq_false h
  have he:i=es.length:=by omega
  subst he
  rw[List.take_length]
  exact a0b rfl ⟨rfl,rfl⟩
theorem b7b (hw:SG H w es) (hg:GV n es) (ha:a<M64) (hb:b<M64):Asks prog 76 [gv n w,uv a,uv b] H (ii (a4c es a b:Nat)):=by
 refine a0j a0n c4z ?_
 have hl:=hw.len
 have h64:=hg.n64
 have hlen:=hg.len
 refine a0c (a0G hw) ?_
 refine a0A (α:=Nat) (fun i=>[ii (a4c (es.take i) a b:Nat),ii (i:Nat)]) (fun i=>i<=es.length) (fun i=>es.length-i) (0) rfl (Nat.zero_le _) fun i hQ=> ?_
 simp only[cA,nA]
 refine a0p el_edge hw ?_
 refine a0a ?_
 refine a0a ?_
 refine a0e (b:=decide (((i:Nat):Int)<(es.length:Nat))) rfl (fun h=> ?_) (fun h=> ?_)
 ·replace h:=of_decide_eq_true h
  have hi':i<es.length:=by omega
  obtain⟨e,he,hde⟩:=a0q hi'
  obtain⟨he1,he2⟩:=hg.mem he
  have hst:a4c (es.take (i+1)) a b=if btB a b e=true then a4c (es.take i) a b+1 else a4c (es.take i) a b:=by rw[take_snoc he,b1Y]
  have hle:a4c (es.take i) a b<=i:=Nat.le_trans (List.length_filter_le _ _) (by rw[List.length_take];omega)
  refine a2A rfl rfl rfl rfl rfl (fun _=>rfl) (fun _=>rfl) (fun _=>rfl) hw he rfl (fun _=>rfl) (fun _ _=>rfl) fun _ _=> ?_
  simp only[cA,nA]
  refine a2U rfl rfl rfl rfl rfl (fun _=>rfl) (fun _=>rfl) (fun _=>rfl) hw he rfl (fun _=>rfl) (fun _ _=>rfl) fun _ _=> ?_
  simp only[cA,nA]
  refine a0x (a0y (s:=a) (n:=e.1) ha (by omega)) rfl ?_
  simp only[cA,nA]
  refine a0a ?_
  refine a0e (b:=bit a e.1) rfl (fun b1=> ?_) (fun b1=> ?_)
  ·skip
   refine a0x (a0y (s:=b) (n:=e.2) hb (by omega)) rfl ?_
   simp only[cA,nA]
   refine a0a ?_
   refine a0e (b:=bit b e.2) rfl (fun b2=> ?_) (fun b2=> ?_)
   ·skip
    refine a0a ?_
    exact⟨i+1,by omega,(a0F (by rw[hst,if_pos (by simp[btB,b1,b2])];exact a0k rfl (by omega)) (a0k rfl (by omega))),⟨hi',rfl⟩⟩
   ·skip
    refine a0x (a0y (s:=a) (n:=e.2) ha (by omega)) rfl ?_
    simp only[cA,nA]
    refine a0a ?_
    refine a0e (b:=bit a e.2) rfl (fun b3=> ?_) (fun b3=> ?_)
    ·skip
     refine a0x (a0y (s:=b) (n:=e.1) hb (by omega)) rfl ?_
     simp only[cA,nA]
     refine a0a ?_
     refine a0e (b:=bit b e.1) rfl (fun b4=> ?_) (fun b4=> ?_)
     ·skip
      refine a0a ?_
      exact⟨i+1,by omega,(a0F (by rw[hst,if_pos (by simp[btB,b1,b2,b3,b4])];exact a0k rfl (by omega)) (a0k rfl (by omega))),⟨hi',rfl⟩⟩
     ·skip
      exact⟨i+1,by omega,(a0F (by rw[hst,if_neg (by simp[btB,b1,b2,b3,b4])];rfl) (a0k rfl (by omega))),⟨hi',rfl⟩⟩
    ·skip
     exact⟨i+1,by omega,(a0F (by rw[hst,if_neg (by simp[btB,b1,b2,b3])];rfl) (a0k rfl (by omega))),⟨hi',rfl⟩⟩
  ·skip
   refine a0x (a0y (s:=a) (n:=e.2) ha (by omega)) rfl ?_
   simp only[cA,nA]
   refine a0a ?_
   refine a0e (b:=bit a e.2) rfl (fun b3=> ?_) (fun b3=> ?_)
   ·skip
    refine a0x (a0y (s:=b) (n:=e.1) hb (by omega)) rfl ?_
    simp only[cA,nA]
    refine a0a ?_
    refine a0e (b:=bit b e.1) rfl (fun b4=> ?_) (fun b4=> ?_)
    ·skip
     refine a0a ?_
     exact⟨i+1,by omega,(a0F (by rw[hst,if_pos (by simp[btB,b1,b3,b4])];exact a0k rfl (by omega)) (a0k rfl (by omega))),⟨hi',rfl⟩⟩
    ·skip
     exact⟨i+1,by omega,(a0F (by rw[hst,if_neg (by simp[btB,b1,b3,b4])];rfl) (a0k rfl (by omega))),⟨hi',rfl⟩⟩
   ·skip
    exact⟨i+1,by omega,(a0F (by rw[hst,if_neg (by simp[btB,b1,b3])];rfl) (a0k rfl (by omega))),⟨hi',rfl⟩⟩
 ·replace h:=of_decide_eq_false h
  have he:i=es.length:=by omega
  subst he
  rw[List.take_length]
  exact a0b rfl ⟨rfl,rfl⟩
theorem b5N {o R:List Int} {m:Nat} {y:Int} (h:∀j,o[j]? =if j<m then R[j]? else p[j]?) (hm:m<o.length) (hy:R[m]? =some y):∀j,(o.set m y)[j]? =if j<m+1 then R[j]? else p[j]?:=fun j=>by
 by_cases e:j=m
 ·subst e;rw[List.getElem?_set_self hm,if_pos (by omega),hy]
 ·rw[List.getElem?_set_ne (fun e2=>e e2.symm),h j]
  by_cases h2:j<m
  ·rw[if_pos h2,if_pos (by omega)]
  ·rw[if_neg h2,if_neg (by omega)]
theorem d2s {o R:List Int} {m:Nat} (h:∀j,o[j]? =if j<m then R[j]? else p[j]?) (hy:R[m]? =p[m]?):∀j,o[j]? =if j<m+1 then R[j]? else p[j]?:=fun j=>by
 rw[h j]
 by_cases e:j=m
 ·subst e;rw[if_neg (by omega),if_pos (by omega),hy]
 ·by_cases h2:j<m
  ·rw[if_pos h2,if_pos (by omega)]
  ·rw[if_neg h2,if_neg (by omega)]
theorem d5k {o R:List Int} (h:∀j,o[j]? =if j<p.length then R[j]? else p[j]?) (hl:R.length=p.length):o=R:=List.ext_getElem? fun j=>by
 rw[h j]
 by_cases h2:j<p.length
 ·rw[if_pos h2]
 ·rw[if_neg h2,List.getElem?_eq_none (by omega),List.getElem?_eq_none (by omega)]
theorem c8m {i k a:Nat} (hu:SI H u p) (hL:LabOk p 8) (hi:i<8) (hk:k<8) (ha:a<M64):Con prog 135 [u,ii (i:Nat),ii (k:Nat),uv a] H fun r H'=>PH.le H H'/\SI H' r (canon (b6Y p (i:Nat) (k:Nat) a)):=by
 refine a0j a0n c0H ?_
 have hl:=hu.len
 have hp64:=hL.2.2
 have hRl:=a6i p (i:Nat) (k:Nat) a
 refine a0f (b5v hu (by omega)) rfl ?_
 rintro v4 H1 ⟨l1,o1⟩
 refine⟨fun h=>(nomatch h),?_⟩
 refine a0p el_plan (hu.mono l1) ?_
 refine a0i (α:=Nat×List Int) (fun⟨m,o⟩=>[ii (m:Nat)]) (fun⟨m,o⟩=>fun H'=>m<=p.length/\o.length=p.length/\(∀j,o[j]? =if j<m then(b6Y p (i:Nat) (k:Nat) a)[j]? else p[j]?)/\PH.le H H'/\OI H H' v4 o) (fun⟨m,o⟩=>p.length-m) ((0,p)) rfl (⟨Nat.zero_le _,rfl,fun j=>by rw[if_neg (Nat.not_lt_zero _)],l1,o1⟩) fun⟨m,o⟩ H' hQ=> ?_
 obtain⟨hm,hol,hoj,l2,o2⟩:=hQ
 refine a0a ?_
 refine a0a ?_
 refine a0e (b:=decide (((m:Nat):Int)<(p.length:Nat))) rfl (fun h=> ?_) (fun h=> ?_)
 ·replace h:=of_decide_eq_true h
  have hm':m<p.length:=by omega
  obtain⟨y,hy,_⟩:=a0q hm'
  have hR:=c4n (i:=(i:Int)) (k:=(k:Int)) (a:=a) hy
  refine a0t el_plan (hu.mono l2) hy fun _=> ?_
  refine a0a ?_
  refine a0a ?_
  refine a0o (p:=(y≠(i:Nat))) (bN _ _) (fun h1=> ?_) fun h1=> ?_
  ·refine a0a ?_
   refine a0o (p:=(y≠(k:Nat))) (bN _ _) (fun h2=> ?_) fun h2=> ?_
   ·have hv:rcV (i:Nat) (k:Nat) a m y=y:=if_neg (fun e=>e.elim h1 h2)
    exact⟨(m+1,o),by show p.length-(m+1)<p.length-m;omega,(a2S (a0k rfl (by omega))),⟨hm',hol,d2s hoj (by rw[hR,hv,hy]),l2,o2⟩⟩
   ·have hik:y=(i:Nat)\/y=(k:Nat):= .inr (Classical.byContradiction h2)
    refine a0U el_plan (a:=((k:Nat):Int)) rfl rfl rfl rfl (fun _=>rfl) (fun _=>rfl) l2 o2 (show m<o.length by omega) rfl (fun _=>rfl) rfl fun q3 u3 H3 l3 o3 _=> ?_
    refine a0a ?_
    refine a0c ⟨_,_,rfl⟩ ?_
    refine a0c (by show(0:Int)<=((m:Nat):Int);omega) ?_
    refine a0e (b:=bit a m) (b6h rfl ha rfl (by omega)) (fun b1=> ?_) (fun b1=> ?_)
    ·skip
     refine a0U el_plan (a:=((i:Nat):Int)) rfl rfl rfl rfl (fun _=>rfl) (fun _=>rfl) l3 o3 (show m<(o.set m (k:Nat)).length by rw[List.length_set];omega) rfl (fun _=>rfl) rfl fun q5 u5 H5 l5 o5 _=> ?_
     rw[List.set_set]at o5
     exact⟨(m+1,o.set m (i:Nat)),by show p.length-(m+1)<p.length-m;omega,(a2S (a0k rfl (by omega))),⟨hm',by rw[List.length_set];exact hol,b5N hoj (by omega) (by rw[hR];unfold rcV;rw[if_pos hik,if_pos b1]),l5,o5⟩⟩
    ·skip
     exact⟨(m+1,o.set m (k:Nat)),by show p.length-(m+1)<p.length-m;omega,(a2S (a0k rfl (by omega))),⟨hm',by rw[List.length_set];exact hol,b5N hoj (by omega) (by rw[hR];unfold rcV;rw[if_pos hik,if_neg (by rw[b1];simp)]),l3,o3⟩⟩
  ·have hik:y=(i:Nat)\/y=(k:Nat):= .inl (Classical.byContradiction h1)
   refine a0U el_plan (a:=((k:Nat):Int)) rfl rfl rfl rfl (fun _=>rfl) (fun _=>rfl) l2 o2 (show m<o.length by omega) rfl (fun _=>rfl) rfl fun q3 u3 H3 l3 o3 _=> ?_
   refine a0a ?_
   refine a0c ⟨_,_,rfl⟩ ?_
   refine a0c (by show(0:Int)<=((m:Nat):Int);omega) ?_
   refine a0e (b:=bit a m) (b6h rfl ha rfl (by omega)) (fun b1=> ?_) (fun b1=> ?_)
   ·skip
    refine a0U el_plan (a:=((i:Nat):Int)) rfl rfl rfl rfl (fun _=>rfl) (fun _=>rfl) l3 o3 (show m<(o.set m (k:Nat)).length by rw[List.length_set];omega) rfl (fun _=>rfl) rfl fun q5 u5 H5 l5 o5 _=> ?_
    rw[List.set_set]at o5
    exact⟨(m+1,o.set m (i:Nat)),by show p.length-(m+1)<p.length-m;omega,(a2S (a0k rfl (by omega))),⟨hm',by rw[List.length_set];exact hol,b5N hoj (by omega) (by rw[hR];unfold rcV;rw[if_pos hik,if_pos b1]),l5,o5⟩⟩
   ·skip
    exact⟨(m+1,o.set m (k:Nat)),by show p.length-(m+1)<p.length-m;omega,(a2S (a0k rfl (by omega))),⟨hm',by rw[List.length_set];exact hol,b5N hoj (by omega) (by rw[hR];unfold rcV;rw[if_pos hik,if_neg (by rw[b1];simp)]),l3,o3⟩⟩
 ·replace h:=of_decide_eq_false h
  have he:m=p.length:=by omega
  subst he
  obtain rfl:=d5k hoj hRl
  refine a0f (b5L o2.se (b5F hL (by omega) (by omega))) rfl ?_
  rintro r H5 ⟨l5,z,rfl,hz⟩
  refine⟨fun h=>(nomatch h),?_⟩
  refine a0m ?_
  refine a0m ?_
  exact a0b rfl ⟨l2.trans l5,hz.se⟩
end
end Go.Proofs.YtkcjbfoejpfbbaaGreatDoor
/- Chapter 32: parts of the reference's step. -/
namespace Go.Proofs.YtkcjbfoejpfbbaaGreatDoor
open Go.Proofs.Tryz
open Go.RowKit Go.RX Go.GS
section
variable {H H0:PH} {u v w wts:Value} {p q wl t l m:List Int} {n a b:Nat} {es:List (Nat×Nat)} {lo hi ds k:Int} {set x:Nat}
theorem b7c (hu:SI H u l) (hv:SI H v m):Asks prog 78 [u,v] H (.bool (decide (l=m))):=by
 refine a0j a0n b1D ?_
 have h1:=hu.len
 have h2:=hv.len
 refine a0p el_plan hu ?_
 refine a0p el_plan hv ?_
 refine a0a ?_
 refine a0a ?_
 refine a0o (p:=(l.length≠m.length)) (by show Value.bool (((l.length:Nat):Int) !=((m.length:Nat):Int))=_;rw[bN];congr 1;apply decide_eq_decide.2;omega) (fun h=> ?_) fun h=> ?_
 ·exact a0b rfl ⟨rfl,by rw[decide_eq_false (fun e=>h (by rw[e]))];rfl⟩
 ·have hlm:l.length=m.length:=by omega
  refine a0A (α:=Nat×Value) (fun⟨i,z⟩=>[z,ii (i:Nat)]) (fun⟨i,z⟩=>i<=l.length/\∀j,j<i->l[j]? =m[j]?) (fun⟨i,z⟩=>l.length-i) ((0,.bool false)) rfl (⟨Nat.zero_le _,fun j hj=>absurd hj (Nat.not_lt_zero _)⟩) fun⟨i,z⟩ hQ=> ?_
  obtain⟨hi,hq⟩:=hQ
  refine a0p el_plan hu ?_
  refine a0a ?_
  refine a0a ?_
  refine a0e (b:=decide (((i:Nat):Int)<(l.length:Nat))) rfl (fun h3=> ?_) (fun h3=> ?_)
  ·replace h3:=of_decide_eq_true h3
   obtain⟨y,hy,_⟩:=a0q (l:=l) (i:=i) (by omega)
   obtain⟨z2,hz,_⟩:=a0q (l:=m) (i:=i) (by omega)
   refine a0t el_plan hu hy fun _=> ?_
   refine a0t el_plan hv hz fun _=> ?_
   refine a0a ?_
   refine a0a ?_
   refine a0o (p:=(y≠z2)) (bN _ _) (fun h4=> ?_) fun h4=> ?_
   ·exact a0b rfl ⟨rfl,by rw[decide_eq_false (fun e=>by subst e;rw[hy]at hz;exact h4 (Option.some.inj hz))];rfl⟩
   ·have h4':y=z2:=Classical.byContradiction h4
    exact⟨(i+1,z),by show l.length-(i+1)<l.length-i;omega,(a0F rfl (a0k rfl (by omega))),⟨⟨by show i+1<=l.length;omega,fun j hj=>by
     by_cases e:j=i
     ·subst e;rw[hy,hz,h4']
     ·exact hq j (by have:j<i+1:=hj;omega)⟩,rfl⟩⟩
  ·replace h3:=of_decide_eq_false h3
   have he:i=l.length:=by omega
   subst he
   have hlm2:l=m:=List.ext_getElem? fun j=>by
    by_cases hj:j<l.length
    ·exact hq j hj
    ·rw[List.getElem?_eq_none (by omega),List.getElem?_eq_none (by omega)]
   exact a0b rfl ⟨rfl,by rw[decide_eq_true hlm2];rfl⟩
def Sep (H H':PH) (v2:Value) (l2:List Int) (v4:Value) (l4:List Int):Prop:=∃X,PH.le H X/\PH.le X H'/\OI H X v2 l2/\OI X H' v4 l4
theorem d2t {H':PH} {v2 v4:Value} {l2 l4:List Int} (hS:Sep H H' v2 l2 v4 l4) (hpos:0<l2.length):∃Bi,PH.le Bi H'/\OI Bi H' v2 l2/\∀H'' l2',PH.le Bi H''->OI Bi H'' v2 l2'->Sep H H'' v2 l2' v4 l4:=by
 obtain⟨X,hX,hXH,⟨hlen,hv⟩,o4⟩:=hS
 rcases hv with⟨_,h0⟩|⟨g,cap,cur,rfl,hg0,hg,h4⟩
 ·omega
 ·refine⟨a1W H' g,a5L _ _,⟨hlen,.inr ⟨g,cap,cur,rfl,by unfold a1W;rw[if_pos rfl],hXH _ _ hg,h4⟩⟩,fun H'' l2' hl ho=> ?_⟩
  obtain⟨hlen',hv'⟩:=ho
  rcases hv' with⟨e,_⟩|⟨g',cap',cur',e,_,hg',h4'⟩
  ·cases e
  ·have eg:g'=g:=by injection e with e;injection e with e;injection e with e;exact e.symm
   subst eg
   refine⟨fun k=>if k=g' then H'' g' else X k,fun k o hk=> ?_,fun k o hk=> ?_,⟨hlen',.inr ⟨g',cap',cur',e,hg0,by simp only[if_true];exact hg',h4'⟩⟩,SO.tr o4 fun g2 ob h5 h6=> ?_⟩
   ·have:k≠g':=fun e=>by subst e;rw[hg0]at hk;cases hk
    simp only[if_neg this];exact hX _ _ hk
   ·by_cases e2:k=g'
    ·subst e2;simpa using hk
    ·simp only[if_neg e2]at hk
     exact hl k o (by unfold a1W;rw[if_neg e2];exact hXH _ _ hk)
   ·have e2:g2≠g':=fun e=>by subst e;rw[hg]at h5;cases h5
    exact⟨by simp only[if_neg e2];exact h5,hl _ _ (by unfold a1W;rw[if_neg e2];exact h6)⟩
def nmV (F:List Int) (d:Nat):Int:=if((d:Nat):Int)∈F then((F.idxOf ((d:Nat):Int):Nat):Int)else -1
theorem a8S (hu:SI H u p) (hL:LabOk p 8):Con prog 70 [u] H fun r H'=>PH.le H H'/\∃z,r= .tuple #[z,ii 0]/\SI H' z (canon p):=by
 refine a0j a0n c1s ?_
 have hl:=hu.len
 have hp64:=hL.2.2
 refine a0s (a8t hu 8) rfl ?_
 simp only[cA,nA]
 refine a0a ?_
 refine a0l (by show Value.bool (!decide (LabOk p 8))=_;rw[decide_eq_true hL];rfl) ?_
 refine a5h el_int (l:=List.replicate 8 (-1)) (N:=8) rfl (by decide) (by decide) rfl rfl rfl fun v2 H1 l1 o1 _=> ?_
 simp only[cA,nA]
 refine a0i (α:=Nat×List Int×List Int×List Int×Value) (fun⟨i,F,nm,done,v4⟩=>[ii (F.length:Nat),v4,ii (i:Nat)]) (fun⟨i,F,nm,done,v4⟩=>fun H'=>i<=p.length/\done.length=i/\done++b5E F (p.drop i)=canon p/\F.Nodup/\F.length<=i/\nm.length=8/\(∀d,d<8->nm[d]? =some (nmV F d))/\Sep H H' v2 nm v4 done) (fun⟨i,F,nm,done,v4⟩=>p.length-i) ((0,[],List.replicate 8 (-1),[],.slice none 0 0)) rfl (⟨Nat.zero_le _,rfl,rfl,List.nodup_nil,Nat.le_refl _,rfl,fun d hd=>by rw[List.getElem?_replicate,if_pos hd];rfl,H1,l1,PH.le.refl _,o1,SO.nil _ _ _ _ _⟩) fun⟨i,F,nm,done,v4⟩ H' hQ=> ?_
 simp only[cA,nA]
 obtain⟨hi,hdl,hR,hF,hFi,hnl,hnm,hS⟩:=hQ
 have hS':=hS
 obtain⟨X,x1,x2,x3,x4⟩:=hS'
 have lH:=x1.trans x2
 refine a0p el_plan (hu.mono lH) ?_
 refine a0a ?_
 refine a0a ?_
 refine a0e (b:=decide (((i:Nat):Int)<(p.length:Nat))) rfl (fun h=> ?_) (fun h=> ?_)
 ·replace h:=of_decide_eq_true h
  have hi':i<p.length:=by omega
  obtain⟨x,hx,hdx⟩:=a0q hi'
  have hx8:=hL.1 x (List.mem_of_getElem? hx)
  obtain⟨d,rfl⟩:∃d:Nat,x=(d:Int):=⟨x.toNat,by omega⟩
  have hd8:d<8:=by omega
  refine a0t el_plan (hu.mono lH) hx fun _=> ?_
  simp only[cA,nA]
  refine a0t el_int (x3.se.mono x2) (hnm d hd8) fun _=> ?_
  simp only[cA,nA]
  refine a0a ?_
  refine a0e (b:=decide (nmV F d<0)) rfl (fun h2=> ?_) (fun h2=> ?_)
  ·replace h2:=of_decide_eq_true h2
   have hdF:((d:Nat):Int)∉F:=fun e=>by unfold nmV at h2;rw[if_pos e]at h2;omega
   refine a0t el_plan (hu.mono lH) hx fun _=> ?_
   simp only[cA,nA]
   obtain⟨Bi,b1,b2,b3⟩:=d2t hS (by omega)
   refine a0U el_int (a:=((F.length:Nat):Int)) rfl rfl rfl rfl (fun _=>rfl) (fun _=>rfl) b1 b2 (show d<nm.length by omega) rfl (fun _=>rfl) rfl fun q3 u3 H3 l3 o3 _=> ?_
   simp only[cA,nA]
   have hS3:=b3 H3 _ l3 o3
   obtain⟨X3,y1,y2,y3,y4⟩:=hS3
   have y5:=y1.trans y2
   have y6:=y3.se.mono y2
   refine a0a ?_
   refine a0t el_plan (hu.mono y5) hx fun _=> ?_
   simp only[cA,nA]
   refine a0I el_int rfl rfl rfl rfl (fun _=>rfl) y6 (show(nm.set d ((F.length:Nat):Int))[d]? =some ((F.length:Nat):Int) by rw[List.getElem?_set_self (by omega)]) rfl (fun _=>rfl) fun _=> ?_
   simp only[cA,nA]
   refine a0B el_plan rfl rfl rfl (fun _=>rfl) (fun _=>rfl) y2 y4 (by omega) rfl (fun _=>rfl) rfl fun q5 v5 H5 l5 o5=> ?_
   simp only[cA,nA]
   exact⟨(i+1,F++[((d:Nat):Int)],nm.set d ((F.length:Nat):Int),done++[((F.length:Nat):Int)],v5),by show p.length-(i+1)<p.length-i;omega,(a5b (by rw[List.length_append];exact a0k rfl (by omega)) rfl (a0k rfl (by omega))),⟨hi',by rw[List.length_append,hdl];rfl,by rw[<-hR,hdx];simp only[b5E,if_neg hdF];rw[List.append_assoc];rfl,List.nodup_append.2 ⟨hF,by simp,fun a ha b hb=>by obtain rfl:=List.mem_singleton.1 hb;exact fun e=>hdF (e ▸ ha)⟩,by rw[List.length_append];simp only[List.length_cons,List.length_nil];omega,by rw[List.length_set];exact hnl,fun d2 hd2=>by
    by_cases e:d2=d
    ·subst e;rw[List.getElem?_set_self (by omega)];unfold nmV;rw[if_pos (by simp),List.idxOf_append,if_neg hdF];simp
    ·rw[List.getElem?_set_ne (fun e2=>e e2.symm),hnm d2 hd2]
     unfold nmV
     have e3:((d2:Nat):Int)≠(d:Nat):=by omega
     by_cases h5:((d2:Nat):Int)∈F
     ·rw[if_pos h5,if_pos (by simp[h5]),b3q h5]
     ·rw[if_neg h5,if_neg (by simp[h5];omega)],X3,y1,l5,y3,o5⟩⟩
  ·replace h2:=of_decide_eq_false h2
   have hdF:((d:Nat):Int)∈F:=Classical.byContradiction fun e=>h2 (by unfold nmV;rw[if_neg e];omega)
   have hnv:nmV F d=((F.idxOf ((d:Nat):Int):Nat):Int):=if_pos hdF
   refine a0t el_plan (hu.mono lH) hx fun _=> ?_
   simp only[cA,nA]
   refine a0t el_int (x3.se.mono x2) (hnm d hd8) fun _=> ?_
   simp only[cA,nA]
   refine a0B el_plan rfl rfl rfl (fun _=>rfl) (fun _=>rfl) x2 x4 (by omega) rfl (fun _=>rfl) rfl fun q5 v5 H5 l5 o5=> ?_
   simp only[cA,nA]
   exact⟨(i+1,F,nm,done++[nmV F d],v5),by show p.length-(i+1)<p.length-i;omega,(a5b rfl rfl (a0k rfl (by omega))),⟨hi',by rw[List.length_append,hdl];rfl,by rw[<-hR,hdx,hnv];simp only[b5E,if_pos hdF];rw[List.append_assoc];rfl,hF,by show F.length<=i+1;omega,hnl,hnm,X,x1,l5,x3,o5⟩⟩
 ·replace h:=of_decide_eq_false h
  have he:i=p.length:=by omega
  subst he
  rw[List.drop_length]at hR
  simp only[b5E,List.append_nil]at hR
  subst hR
  exact a0b rfl ⟨lH,v4,rfl,x4.se⟩
theorem b7d {i k a:Nat} (hu:SI H u p) (hL:LabOk p 8) (hi:i<8) (hk:k<8) (ha:a<M64):Con prog 77 [u,ev2 (i,k),uv a] H fun r H'=>PH.le H H'/\SI H' r (canon (b6Y p (i:Nat) (k:Nat) a)):=by
 refine a0j a0n c4B ?_
 have hl:=hu.len
 have hp64:=hL.2.2
 have hRl:=a6i p (i:Nat) (k:Nat) a
 refine a0c (el_edge.vcells (i,k)) ?_
 refine a0i (α:=Nat×Value) (fun⟨m,v⟩=>[v,ii (m:Nat)]) (fun⟨m,v⟩=>fun H'=>m<=p.length/\PH.le H H'/\OI H H' v ((b6Y p (i:Nat) (k:Nat) a).take m)) (fun⟨m,v⟩=>p.length-m) ((0,.slice none 0 0)) rfl (⟨Nat.zero_le _,PH.le.refl _,SO.nil _ _ _ _ _⟩) fun⟨m,v⟩ H' hQ=> ?_
 simp only[cA,nA]
 obtain⟨hm,l2,o2⟩:=hQ
 refine a0p el_plan (hu.mono l2) ?_
 refine a0a ?_
 refine a0a ?_
 refine a0e (b:=decide (((m:Nat):Int)<(p.length:Nat))) rfl (fun h=> ?_) (fun h=> ?_)
 ·replace h:=of_decide_eq_true h
  have hm':m<p.length:=by omega
  obtain⟨y,hy,_⟩:=a0q hm'
  have hR:=c4n (i:=(i:Int)) (k:=(k:Int)) (a:=a) hy
  have htk:((b6Y p (i:Nat) (k:Nat) a).take m).length=m:=by rw[List.length_take];omega
  refine a0t el_plan (hu.mono l2) hy fun _=> ?_
  simp only[cA,nA]
  refine a0a ?_
  refine a0a ?_
  refine a0o (p:=(y=(i:Nat))) (bE _ _) (fun h1=> ?_) fun h1=> ?_
  ·have hik:y=(i:Nat)\/y=(k:Nat):= .inl h1
   refine a0x (a0y (s:=a) (n:=m) ha (by omega)) rfl ?_
   simp only[cA,nA]
   refine a0a ?_
   refine a0e (b:=bit a m) rfl (fun b1=> ?_) (fun b1=> ?_)
   ·skip
    refine a0B el_plan rfl rfl rfl (fun _=>rfl) (fun _=>rfl) l2 o2 (by omega) rfl (fun _=>rfl) rfl fun q5 v5 H5 l5 o5=> ?_
    simp only[cA,nA]
    exact⟨(m+1,v5),by show p.length-(m+1)<p.length-m;omega,(a0F rfl (a0k rfl (by omega))),⟨hm',l5,by rw[take_snoc hR,show rcV (i:Nat) (k:Nat) a m y=(i:Nat) by unfold rcV;rw[if_pos hik,if_pos b1]];exact o5⟩⟩
   ·skip
    refine a0B el_plan rfl rfl rfl (fun _=>rfl) (fun _=>rfl) l2 o2 (by omega) rfl (fun _=>rfl) rfl fun q5 v5 H5 l5 o5=> ?_
    simp only[cA,nA]
    exact⟨(m+1,v5),by show p.length-(m+1)<p.length-m;omega,(a0F rfl (a0k rfl (by omega))),⟨hm',l5,by rw[take_snoc hR,show rcV (i:Nat) (k:Nat) a m y=(k:Nat) by unfold rcV;rw[if_pos hik,if_neg (by rw[b1];simp)]];exact o5⟩⟩
  ·refine a0a ?_
   refine a0o (p:=(y=(k:Nat))) (bE _ _) (fun h2=> ?_) fun h2=> ?_
   ·have hik:y=(i:Nat)\/y=(k:Nat):= .inr h2
    refine a0x (a0y (s:=a) (n:=m) ha (by omega)) rfl ?_
    simp only[cA,nA]
    refine a0a ?_
    refine a0e (b:=bit a m) rfl (fun b1=> ?_) (fun b1=> ?_)
    ·skip
     refine a0B el_plan rfl rfl rfl (fun _=>rfl) (fun _=>rfl) l2 o2 (by omega) rfl (fun _=>rfl) rfl fun q5 v5 H5 l5 o5=> ?_
     simp only[cA,nA]
     exact⟨(m+1,v5),by show p.length-(m+1)<p.length-m;omega,(a0F rfl (a0k rfl (by omega))),⟨hm',l5,by rw[take_snoc hR,show rcV (i:Nat) (k:Nat) a m y=(i:Nat) by unfold rcV;rw[if_pos hik,if_pos b1]];exact o5⟩⟩
    ·skip
     refine a0B el_plan rfl rfl rfl (fun _=>rfl) (fun _=>rfl) l2 o2 (by omega) rfl (fun _=>rfl) rfl fun q5 v5 H5 l5 o5=> ?_
     simp only[cA,nA]
     exact⟨(m+1,v5),by show p.length-(m+1)<p.length-m;omega,(a0F rfl (a0k rfl (by omega))),⟨hm',l5,by rw[take_snoc hR,show rcV (i:Nat) (k:Nat) a m y=(k:Nat) by unfold rcV;rw[if_pos hik,if_neg (by rw[b1];simp)]];exact o5⟩⟩
   ·have hv:rcV (i:Nat) (k:Nat) a m y=y:=if_neg (fun e=>e.elim h1 h2)
    refine a0B el_plan rfl rfl rfl (fun _=>rfl) (fun _=>rfl) l2 o2 (by omega) rfl (fun _=>rfl) rfl fun q5 v5 H5 l5 o5=> ?_
    simp only[cA,nA]
    exact⟨(m+1,v5),by show p.length-(m+1)<p.length-m;omega,(a0F rfl (a0k rfl (by omega))),⟨hm',l5,by rw[take_snoc hR,hv];exact o5⟩⟩
 ·replace h:=of_decide_eq_false h
  have he:m=p.length:=by omega
  rw[List.take_of_length_le (by omega)]at o2
  refine a0f (a8S o2.se (b5F hL (by omega) (by omega))) rfl ?_
  rintro r H5 ⟨l5,z,rfl,hz⟩
  refine⟨fun h=>(nomatch h),?_⟩
  simp only[cA,nA]
  refine a0m ?_
  refine a0m ?_
  exact a0b rfl ⟨l2.trans l5,hz⟩
theorem b7e {pr:Nat×Nat} (hu:SI H u p) (h64:p.length<=64):Asks prog 73 [u,ev2 pr] H (uv (a1V p pr)):=by
 refine a0j a0n c4C ?_
 refine a0c (el_edge.vcells pr) ?_
 refine a0s (a3Q hu h64 (pr.1:Nat)) rfl ?_
 refine a0s (a3Q hu h64 (pr.2:Nat)) rfl ?_
 refine a0a ?_
 refine a0a ?_
 exact a0b rfl ⟨rfl,a4q rfl rfl (a8e _ _ h64) (a8e _ _ h64)⟩
end
end Go.Proofs.YtkcjbfoejpfbbaaGreatDoor

/- Chapter 32: probabilities of all next plans. -/
import Derived.Test.YtmannekkmdockaaGreatDoorGzE
namespace Go.RX
open Go.RowKit
theorem Rds.opn' {P:Program} {o:Oper} {vs:List Value} {H:PH} {v:Value} (h:Rds P o vs H v):Opn P o vs H fun u H'=>u=v/\H'=H:=fun w hw=>by
 unfold Stp
 have:=h w hw
 rw[this]
 exact⟨_,Step.refl hw,rfl,rfl⟩
def nxV (b:Bool) (x y:Value):Value:=if b then .tuple #[.bool true,x,y]else .tuple #[.bool false]
theorem c2X (b:Bool) (x y:Value):∃vs,nxV b x y= .tuple vs/\0<vs.size:=by cases b<;>exact⟨_,rfl,by simp⟩
theorem a7n (b:Bool) (x y:Value):(match nxV b x y with| .tuple vs=>vs.getD 0 undef|_=>undef)= .bool b:=by cases b<;>rfl
section
variable {κ:Type} {ok:κ->Prop} {ke:κ->Value}
theorem b6T {H H':PH} {v:Value} {q r clock:Nat} {es:List (κ×Value×Nat)} {seen:List Nat} (h:(left es seen=[]/\v= .tuple #[.bool false]/\H'=H)\/∃p∈left es seen,v= .tuple #[.bool true,ke p.1,p.2.1]/\H'=H.put q (.mapIter (some r) clock (seen++[p.2.2]).toArray clock)):
  ∃b x y,v=nxV b x y/\((b=false/\left es seen=[]/\H'=H)\/(b=true/\∃p∈left es seen,x=ke p.1/\y=p.2.1/\H'=H.put q (.mapIter (some r) clock (seen++[p.2.2]).toArray clock))):=by
 rcases h with⟨h1,h2,h3⟩|⟨p,h1,h2,h3⟩
 ·exact⟨false,undef,undef,h2,.inl ⟨rfl,h1,h3⟩⟩
 ·exact⟨true,_,_,h2,.inr ⟨rfl,p,h1,rfl,rfl,h3⟩⟩
theorem c8n {a b:Nat} (h:a≠b):Nat.beq a b=false:=by
 rw[Bool.eq_false_iff];intro e;exact h (Nat.eq_of_beq_eq_true e)
theorem b6U (es:List (κ×Value×Nat)):left es []=es:=by
 unfold left;exact List.filter_eq_self.2 fun x _=>rfl
theorem c2Y (es:List (κ×Value×Nat)) (seen:List Nat) (b:Nat):left es (seen++[b])=(left es seen).filter fun p=> !Nat.beq p.2.2 b:=by
 unfold left
 rw[List.filter_filter]
 refine List.filter_congr fun p _=> ?_
 rw[List.any_append]
 simp[Bool.and_comm]
theorem b3e {es:List (κ×Value×Nat)} {seen:List Nat} {p:κ×Value×Nat} (hn:(es.map (·.2.2)).Nodup) (hp:p∈left es seen):∃a b,left es seen=a++p::b/\left es (seen++[p.2.2])=a++b:=by
 obtain⟨a,b,h⟩:=List.append_of_mem hp
 refine⟨a,b,h,?_⟩
 have hs:(left es seen).map (·.2.2)|>.Nodup:=(List.filter_sublist.map _).nodup hn
 rw[c2Y,h,List.filter_append,List.filter_cons_of_neg (by simp)]
 rw[h,List.map_append,List.map_cons,List.nodup_append,List.nodup_cons]at hs
 obtain⟨h1,⟨h2,h3⟩,h4⟩:=hs
 congr 1
 ·refine List.filter_eq_self.2 fun x hx=> ?_
  have:=h4 _ (List.mem_map.2 ⟨x,hx,rfl⟩) p.2.2 (by simp)
  rw[c8n this];rfl
 ·refine List.filter_eq_self.2 fun x hx=> ?_
  have:x.2.2≠p.2.2:=fun e=>h2 (List.mem_map.2 ⟨x,hx,e⟩)
  rw[c8n this];rfl
end
end Go.RX
namespace Go.Proofs.YtmannekkmdockaaGreatDoor
open Go.Proofs.Tryz
open Go.RowKit Go.RX Go.GS Go.RZ
open Go.WD (BP a1E wd rs toI HM sgI Rb)
set_option maxRecDepth 100000
noncomputable def vO (L:List (List Int×Rat)) (k:List Int):Rat:=((L.find? fun x=>decide (x.1=k)).map (·.2)).getD 0
theorem a5K {L:List (List Int×Rat)} (h:(L.map (·.1)).Nodup) {k:List Int} {q:Rat} (hm:(k,q)∈L):vO L k=q:=by
 have:L.find? (fun x=>decide (x.1=k))=some (k,q):=by
  obtain⟨i,hi⟩:=List.mem_iff_getElem?.1 hm
  rw[List.find?_eq_some_iff_getElem]
  obtain⟨hil,he⟩:=List.getElem?_eq_some_iff.1 hi
  refine⟨by simp,i,hil,he,fun j hj=> ?_⟩
  have h1:=List.pairwise_iff_getElem.1 h j i (by simp;omega) (by simpa using hil) hj
  rw[List.getElem_map,List.getElem_map,he]at h1
  simp
  exact h1
 unfold vO
 rw[this];rfl
theorem d5G {L:List (List Int×Rat)} (h:(L.map (·.1)).Nodup):L.map (fun x=>vO L x.1)=L.map (·.2):=List.map_congr_left fun x hx=>a5K h hx
open Classical in
noncomputable def a1Z (es:List (Nat×Nat)) (wl:List Int) (lo hi:Int) (n k:Nat) (p:List Int):List (List Int×Rat):=
 if 0<1-sQ ((a1J es wl lo hi n k p).map (·.2))then a6Q (a1J es wl lo hi n k p) (a0r p) (1-sQ ((a1J es wl lo hi n k p).map (·.2)))else a1J es wl lo hi n k p
section
variable {H:PH} {u w wts:Value} {p wl:List Int} {n k:Nat} {es:List (Nat×Nat)} {lo hi:Int}
theorem c6W (x d e:Rat) (hd:d≠0) (he:e≠0):x/d=x*e/(d*e):=by grind
theorem a9W (hpl:p.length=n) (hn:n<=64) (pr:Nat×Nat):unP p pr<2^n:=by
 subst hpl
 exact Nat.or_lt_two_pow (a5w p _ hn) (a5w p _ hn)
theorem a8K {S:Nat} (hg:GV n es) (hn:n<=12) (h:S<2^n):(tN es S).natAbs<2^160:=by
 have h1:=d1Y hg hn h
 have h2:=c2N es S
 have:(BP 5:Nat)=2^160:=by unfold BP;rfl
 omega
theorem b1F {J:Nat} (hJ:J=320) (hg:GV n es) (hn:n<=12) (hpl:p.length=n) (hn2:0<(n-1)*(a0A k).length):∀x∈a1J es wl lo hi n k p,Qd (a6r es n (a0A k).length p (a0A k)) (2^J*a6r es n (a0A k).length p (a0A k)) x.2:=fun x hx=>by
 obtain⟨pr,hpr,a,ha,h0,_,_,_,_,hq⟩:=(a7m x hx).ex
 have hS:=a9W hpl (by omega) pr
 have hS0:unP p pr≠0:=fun e=>by rw[e]at ha;simp[a1z,b6f,sdf]at ha
 obtain⟨⟨a0,a2⟩,s0,s2⟩:=a8F hS (by omega) hS0 ha
 obtain⟨e,he⟩:=b6R (es:=es) (n:=n) (m:=(a0A k).length) (p:=p) hpr
 have hd:b8p es n (a0A k).length p pr=(tN es (unP p pr)).natAbs*((n-1)*(a0A k).length):=if_neg h0
 have hnn:=c2N es (unP p pr)
 have hu:c3J es n (a0A k).length (unP p pr)=((b8p es n (a0A k).length p pr:Int):Rat):=by
  rw[hd]
  unfold c3J
  rw[<-Rat.intCast_mul]
  congr 1
  push_cast
  rw[Int.natAbs_of_nonneg hnn]
 have hden:b8p es n (a0A k).length p pr≠0:=by
  rw[hd];exact Nat.ne_of_gt (Nat.mul_pos (by omega) hn2)
 have hD:a6r es n (a0A k).length p (a0A k)≠0:=Nat.ne_of_gt (a5I hn2 _)
 have he0:e≠0:=fun h=>by rw[h,Nat.mul_zero]at he;exact hD he
 refine⟨tN es a*tN es (sdf (unP p pr) a)*(e:Int),?_,?_⟩
 ·rw[hq,hu,he]
  have h1:((b8p es n (a0A k).length p pr:Int):Rat)≠0:=by exact_mod_cast hden
  have h2:((e:Int):Rat)≠0:=by exact_mod_cast he0
  push_cast
  exact c6W _ _ _ h1 h2
 ·rw[Int.natAbs_mul,Int.natAbs_mul,he]
  have b1:=a8K hg hn a2
  have b2:=a8K hg hn s2
  have b3:(tN es a).natAbs*(tN es (sdf (unP p pr) a)).natAbs<=2^160*2^160:=Nat.mul_le_mul (by omega) (by omega)
  have b4:e<=b8p es n (a0A k).length p pr*e:=Nat.le_mul_of_pos_left _ (by omega)
  rw[<-Nat.pow_add,show 160+160=J by omega]at b3
  exact Nat.mul_le_mul b3 b4
theorem a9X {K:Nat} (hK:K=11264) (hg:GV n es) (hn:n<=12) (hpl:p.length=n) (hm:(a0A k).length<=64):a6r es n (a0A k).length p (a0A k)<=2^K:=by
 refine Nat.le_trans (c2T (K:=176) (fun pr=> ?_) _) (Nat.pow_le_pow_right (by decide) (by omega))
 unfold b8p
 split
 ·exact Nat.one_le_two_pow
 ·have h1:=a8K hg hn (a9W hpl (by omega) pr)
  have h2:(n-1)*(a0A k).length<=11*64:=Nat.mul_le_mul (by omega) hm
  have h3:(tN es (unP p pr)).natAbs*((n-1)*(a0A k).length)<=2^160*2^16:=Nat.mul_le_mul (by omega) (by omega)
  rw[<-Nat.pow_add]at h3
  exact h3
theorem d2i (hg:GV n es) (hn:n<=12) (hpl:p.length=n) (hn2:0<(n-1)*(a0A k).length) (hm:(a0A k).length<=64) {l m:List Rat} (hl:∀q∈l,∃x∈a1J es wl lo hi n k p,x.2=q) (hm2:∀q∈m,∃x∈a1J es wl lo hi n k p,x.2=q) (h1:l.length<=2^20) (h2:m.length<=2^20):Rb 12000 (1-sQ l+sQ m):=by
 obtain⟨K,hK⟩:∃K,K=11264:=⟨_,rfl⟩
 have hD:=a9X hK hg hn hpl hm
 obtain⟨J,hJ⟩:∃J,J=320:=⟨_,rfl⟩
 have hD0:a6r es n (a0A k).length p (a0A k)≠0:=Nat.ne_of_gt (a5I hn2 _)
 have q1:=c6S (D:=a6r es n (a0A k).length p (a0A k)) (B:=2^J*a6r es n (a0A k).length p (a0A k)) (l:=l) fun q hq=>by obtain⟨x,hx,rfl⟩:=hl q hq;exact b1F hJ hg hn hpl hn2 x hx
 have q2:=c6S (D:=a6r es n (a0A k).length p (a0A k)) (B:=2^J*a6r es n (a0A k).length p (a0A k)) (l:=m) fun q hq=>by obtain⟨x,hx,rfl⟩:=hm2 q hq;exact b1F hJ hg hn hpl hn2 x hx
 have q3:=((Qd.one hD0).sub q1).add q2
 generalize a6r es n (a0A k).length p (a0A k)=D at*
 obtain⟨K2,hK2⟩:∃K2,K2=12000:=⟨_,rfl⟩
 rw[<-hK2]
 have e1:l.length*(2^J*D)<=2^20*(2^J*2^K):=Nat.mul_le_mul h1 (Nat.mul_le_mul_left _ hD)
 have e2:m.length*(2^J*D)<=2^20*(2^J*2^K):=Nat.mul_le_mul h2 (Nat.mul_le_mul_left _ hD)
 have e3:(2:Nat)^20*(2^J*2^K)=2^(K+J+20):=by rw[<-Nat.pow_add,<-Nat.pow_add];congr 1;omega
 have e4:(2:Nat)^K<=2^(K+J+20):=Nat.pow_le_pow_right (by decide) (by omega)
 have e5:(2:Nat)^(K+J+22)=4*2^(K+J+20):=by rw[show K+J+22=(K+J+20)+2 from rfl,Nat.pow_add];omega
 have e6:(2:Nat)^(K+J+22)<=2^K2:=Nat.pow_le_pow_right (by decide) (by omega)
 have e7:0<(2:Nat)^(K+J+20):=Nat.two_pow_pos _
 rw[e3]at e1 e2
 exact d2c q3 hD0 (by omega) (by omega)
theorem c2Z (hg:GV n es) (hn:n<=12) (hpl:p.length=n) (hn2:0<(n-1)*(a0A k).length) (hm:(a0A k).length<=64) {x:List Int×Rat} (hx:x∈a1J es wl lo hi n k p):Rb 12000 x.2:=by
 obtain⟨K,hK⟩:∃K,K=11264:=⟨_,rfl⟩
 have hD:=a9X hK hg hn hpl hm
 obtain⟨J,hJ⟩:∃J,J=320:=⟨_,rfl⟩
 have hD0:a6r es n (a0A k).length p (a0A k)≠0:=Nat.ne_of_gt (a5I hn2 _)
 have q1:=b1F hJ hg hn hpl hn2 x hx
 generalize a6r es n (a0A k).length p (a0A k)=D at*
 obtain⟨K2,hK2⟩:∃K2,K2=12000:=⟨_,rfl⟩
 rw[<-hK2]
 have e1:2^J*D<=2^J*2^K:=Nat.mul_le_mul_left _ hD
 have e3:(2:Nat)^J*2^K=2^(K+J):=by rw[<-Nat.pow_add];congr 1;omega
 have e4:(2:Nat)^K<=2^(K+J):=Nat.pow_le_pow_right (by decide) (by omega)
 have e5:(2:Nat)^(K+J+1)=2*2^(K+J):=by rw[show K+J+1=(K+J)+1 from rfl,Nat.pow_succ];omega
 have e6:(2:Nat)^(K+J+1)<=2^K2:=Nat.pow_le_pow_right (by decide) (by omega)
 have e7:0<(2:Nat)^(K+J):=Nat.two_pow_pos _
 rw[e3]at e1
 exact d2c q1 hD0 (by omega) (by omega)
theorem d2j {H:PH} {v:Value} {q:Rat} {b:Nat} {ob:Obj} {r:Option Nat} {c d:Nat} {sn:Array Nat} (hr:H b=some (.mapIter r c sn d)) (h:Rp H v q):Rp (H.put b ob) v q:=by
 obtain⟨w1,w2,rfl,⟨l1,h1,h2⟩,⟨l2,h3,h4⟩⟩:=h
 have key:∀{sz n:Nat} {v:Value} {xs:List Value},Sl H sz v n xs->Sl (H.put b ob) sz v n xs:=fun h=>by
  obtain⟨h1,a,c',h2,h3,h4,h5⟩:=h
  refine⟨h1,a,c',h2,h3,h4,h5.imp id ?_⟩
  rintro⟨g,o,cs,T,fz,g1,g2,g3⟩
  exact⟨g,o,cs,T,fz,g1,by rw[PH.put_ne _ _ (fun e=>by subst e;rw[hr]at g2;cases g2)];exact g2,g3⟩
 exact⟨w1,w2,rfl,⟨l1,⟨key h1.1,h1.2⟩,h2⟩,⟨l2,⟨key h3.1,h3.2⟩,h4⟩⟩
theorem numpos {q:Rat}:0<q.num↔0<q:=by
 have h1:0<=q.num↔0<=q:=Rat.num_nonneg
 have h2:q.num=0↔q=0:=Rat.num_eq_zero
 constructor
 ·intro h
  have a:=h1.1 (by omega)
  have b:q≠0:=fun e=>by have:=h2.2 e;omega
  grind
 ·intro h
  have a:=h1.2 (by grind)
  have b:q.num≠0:=fun e=>by have:=h2.1 e;grind
  omega
theorem c3a {H H':PH} {q r clock:Nat} {es:List (List Int×Value×Nat)} {seen:List Nat} (h:IT kV H q r es clock seen) (hl:PH.le H H'):IT kV H' q r es clock seen:=⟨hl _ _ h.1,hl _ _ h.2⟩
theorem sgI_posG {z:Int}:sgI z 0>0↔0<z:=by
 unfold sgI;split
 ·omega
 ·split<;>omega
theorem b3f (hc:Chn H n w wts es wl) (hu:SI H u p) (hn:n<=12) (hkn:k<=n) (hpl:p.length=n) (hk1:1<=k) (hk8:k<=8) (hL:LabOk p (k:Nat)) (hU:a3B p k):
  Con prog 47 [chv wts lo hi (k:Nat) n w,u] H fun r H'=>PH.le H H'/\MR H H' r (a1Z es wl lo hi n k p):=by
 refine a0b mixed c5T (by kernel_rfl) rfl ?_
 have hpz:∀z∈p,0<=z/\z<9223372036854775808:=fun z hz=>by have:=hL.1 z hz;omega
 have hn64:=hc.ok.n64
 have hm64:=c2x k hk8
 have hnd:((a1J es wl lo hi n k p).map (·.1)).Nodup:=b4G
 have hOl:(a1J es wl lo hi n k p).length<=2^20:=by
  refine Nat.le_trans (b6Q (es:=es) (wl:=wl) (lo:=lo) (hi:=hi) (n:=n) (k:=k) (p:=p) fun pr _=>a9W hpl hn64 pr) ?_
  exact Nat.le_trans (Nat.mul_le_mul hm64 (Nat.pow_le_pow_right (by decide) hn)) (by decide)
 obtain⟨L,hLe⟩:∃L,L=a1J es wl lo hi n k p:=⟨_,rfl⟩
 obtain⟨tot,htot⟩:∃tot,tot=sQ (L.map (·.2)):=⟨_,rfl⟩
 have hall:a1Z es wl lo hi n k p=if 0<1-tot then a6Q L (a0r p) (1-tot)else L:=by rw[htot,hLe];rfl
 have hn2:∀x∈L,0<(n-1)*(a0A k).length:=fun x hx=>by
  rw[hLe]at hx
  obtain⟨pr,hpr,_⟩:=(a7m x hx).ex
  have h1:=a5F hpr
  exact Nat.mul_pos (by omega) (List.length_pos_of_mem hpr)
 rw[hall]
 refine a0a (a6h (a0z hc.wt) (a0z hc.gr) _ _ _ _) ?_
 refine a0d (c6R hc hu hn hkn hpl hk1 hk8 hL hU) rfl ?_
 rintro v2 H1 ⟨l1,m1⟩
 refine⟨fun h=>(nomatch h),?_⟩
 simp only[cA,nA]
 refine a0d (a6p 1 (by omega) (by omega)) rfl ?_
 rintro v3 H2 ⟨l2,q3⟩
 refine⟨fun h=>(nomatch h),?_⟩
 simp only[cA,nA]
 refine a0a q3.rq ?_
 rw[<-hLe]at m1 hnd hOl
 obtain⟨V,⟨r,es0,clock,rfl,hHr,hH2r,hE,hkv⟩,hke,hrp⟩:=m1.mono l2
 have hes:es0.map (·.1)=L.map (·.1):=by rw[<-hke,<-hkv];unfold kvN;rw[List.map_map];rfl
 have hva:es0.map (fun e=>vO L e.1)=L.map (·.2):=by rw[<-d5G hnd];have:=congrArg (List.map fun k=>vO L k) hes;rw[List.map_map,List.map_map]at this;exact this
 have hval:∀e∈es0,(e.1,vO L e.1)∈L/\Rp H2 e.2.1 (vO L e.1):=fun e he=>by
  have h1:e.1∈L.map (·.1):=by rw[<-hes];exact List.mem_map.2 ⟨e,he,rfl⟩
  obtain⟨x,hx,hxe⟩:=List.mem_map.1 h1
  have h2:vO L e.1=x.2:=by rw[<-hxe];exact a5K hnd hx
  have h3:(e.1,vO L e.1)∈L:=by rw[h2,<-hxe];exact hx
  exact⟨h3,hrp e.1 _ _ (by rw[<-hkv];exact List.mem_map.2 ⟨e,he,rfl⟩) h3⟩
 refine a0l (a9S (κ:=List Int) (ke:=kV) (vs:=[.map (some r)]) rfl rfl a6q hH2r) rfl ?_
 rintro _ _ ⟨q,hq,rfl,rfl⟩
 refine⟨fun h=>(nomatch h),?_⟩
 simp only[cA,nA]
 have hrq:r≠q:=fun e=>by subst e;rw[hH2r]at hq;cases hq
 have hI0:IT kV (H2.put q (.mapIter (some r) clock #[] clock)) q r es0 clock []:=⟨PH.put_self _ _ _,by rw[PH.put_ne _ _ hrq];exact hH2r⟩
 have hq0:Rp (H2.put q (.mapIter (some r) clock #[] clock)) v3 (1-tot+sQ ((left es0 []).map fun e=>vO L e.1)):=by
  rw[b6U,hva,<-htot,show(1:Rat)-tot+tot=1 from by grind]
  exact q3.mono (PH.le_put hq _)
 refine a0k (α:=List Nat×Value) (fun⟨seen,v5⟩=>[v5]) (fun⟨seen,v5⟩=>fun H'=>PH.le H2 H'/\IT kV H' q r es0 clock seen/\Rp H' v5 (1-tot+sQ ((left es0 seen).map fun e=>vO L e.1))) (fun⟨seen,v5⟩=>(left es0 seen).length) (([],v3)) rfl (⟨PH.le_put hq _,hI0,hq0⟩) fun⟨seen,v5⟩ H4 ⟨l4,it4,q5⟩=> ?_
 simp only[cA,nA]
 refine a0l (b3a (ok:=okK) (ke:=kV) (vs:=[.pointer (some ⟨q,0,none⟩)]) rfl rfl hE it4) rfl ?_
 rintro v6 H5 hnx
 refine⟨fun h=>(nomatch h),?_⟩
 simp only[cA,nA]
 obtain⟨b,x,y,rfl,hb⟩:=b6T hnx
 refine a0a (c2X b x y) ?_
 refine a0a ⟨b,a7n b x y⟩ ?_
 refine a0e (b:=b) (a7n b x y) (fun hb1=> ?_) (fun hb1=> ?_)
 ·skip
  obtain⟨e,he,rfl,rfl,rfl⟩:∃p∈left es0 seen,x=kV p.1/\y=p.2.1/\H5=H4.put q (.mapIter (some r) clock (seen++[p.2.2]).toArray clock):=by
   rcases hb with⟨h,_⟩|⟨_,h⟩
   ·rw[hb1]at h;cases h
   ·exact h
  subst hb1
  have heE:e∈es0:=(List.mem_filter.1 he).1
  obtain⟨hvL,hvq⟩:=hval e heE
  have it5:IT kV (H4.put q (.mapIter (some r) clock (seen++[e.2.2]).toArray clock)) q r es0 clock (seen++[e.2.2]):=⟨PH.put_self _ _ _,by rw[PH.put_ne _ _ hrq];exact it4.2⟩
  have l5:PH.le H2 (H4.put q (.mapIter (some r) clock (seen++[e.2.2]).toArray clock)):=fun b' ob' hbb=>by rw[PH.put_ne _ _ (fun e=>by subst e;rw[hq]at hbb;cases hbb)];exact l4 _ _ hbb
  have q5':Rp (H4.put q (.mapIter (some r) clock (seen++[e.2.2]).toArray clock)) v5 (1-tot+sQ ((left es0 seen).map fun e=>vO L e.1)):=d2j it4.1 q5
  generalize H4.put q (.mapIter (some r) clock (seen++[e.2.2]).toArray clock)=H6 at it5 l5 q5'⊢
  refine a0l (Rds.opn' (a9T (ok:=okK) (ke:=kV) (vs:=[.pointer (some ⟨q,0,none⟩)]) rfl rfl hE heE it5)) rfl ?_
  rintro _ _ ⟨rfl,rfl⟩
  refine⟨fun h=>(nomatch h),?_⟩
  simp only[cA,nA]
  refine a0a ⟨_,rfl,by simp⟩ ?_
  refine a0a (hvq.mono l5).rq ?_
  obtain⟨la,lb,hla,hlb⟩:=b3e (hE.asc.imp fun h=>Nat.ne_of_lt h) he
  have hlf:∀sn,∀z∈(left es0 sn).map (fun e=>vO L e.1),∃x∈a1J es wl lo hi n k p,x.2=z:=fun sn z hz=>by
   obtain⟨e',he',rfl⟩:=List.mem_map.1 hz
   exact⟨_,by rw[<-hLe];exact(hval e' (List.mem_filter.1 he').1).1,rfl⟩
  have hln:∀sn,((left es0 sn).map (fun e=>vO L e.1)).length<=2^20:=fun sn=>by
   rw[List.length_map]
   refine Nat.le_trans (List.length_filter_le _ _) ?_
   have:=congrArg List.length hes
   rw[List.length_map,List.length_map]at this;omega
  have hrb:=d2i (es:=es) (wl:=wl) (lo:=lo) (hi:=hi) (l:=L.map (·.2)) hc.ok hn hpl (hn2 _ hvL) hm64 (fun z hz=>by obtain⟨x,hx,rfl⟩:=List.mem_map.1 hz;exact⟨x,by rw[<-hLe];exact hx,rfl⟩) (hlf seen) (by rw[List.length_map];exact hOl) (hln seen)
  have hrq2:Rb 12000 (vO L e.1):=c2Z (es:=es) (wl:=wl) (lo:=lo) (hi:=hi) (n:=n) (k:=k) (p:=p) hc.ok hn hpl (hn2 _ hvL) hm64 (x:=(e.1,vO L e.1)) (by rw[<-hLe];exact hvL)
  rw[<-htot]at hrb
  refine a0d (b4a q5' (hvq.mono l5) hrb hrq2 (by omega)) (a1s (a9V q5') (a9V hvq)) ?_
  rintro v8 H7 ⟨l7,q8⟩
  refine⟨fun h=>(nomatch h),?_⟩
  simp only[cA,nA]
  refine a0a q8.rq ?_
  exact⟨(seen++[e.2.2],v8),by show(left es0 (seen++[e.2.2])).length<(left es0 seen).length;rw[hla,hlb];simp,rfl,⟨l5.trans l7,c3a it5 l7,by show Rp H7 v8 (1-tot+sQ ((left es0 (seen++[e.2.2])).map fun e=>vO L e.1));rw[hla]at q8;rw[hlb];rw[List.map_append,c2Q]at q8⊢;rw[List.map_cons,sQ]at q8;rw[show(1:Rat)-tot+(sQ (la.map fun e=>vO L e.1)+sQ (lb.map fun e=>vO L e.1))=1-tot+(sQ (la.map fun e=>vO L e.1)+(vO L e.1+sQ (lb.map fun e=>vO L e.1)))-vO L e.1 from by grind];exact q8⟩⟩
 ·skip
  obtain⟨hle0,h54⟩:left es0 seen=[]/\H5=H4:=by
   rcases hb with⟨_,h⟩|⟨h,_⟩
   ·exact h
   ·rw[hb1]at h;cases h
  rw[h54]
  rw[hle0,List.map_nil,sQ,Rat.add_zero]at q5
  have q5c:=q5
  obtain⟨w5,w5',hv5,hl5,-⟩:=q5.out
  subst hv5
  refine a0d (a3g hl5) rfl ?_
  rintro _ H4 ⟨rfl,rfl⟩
  refine⟨fun h=>(nomatch h),?_⟩
  simp only[cA,nA]
  have hmo:MKO okK kV H H4 (.map (some r)) V:=⟨r,es0,clock,rfl,hHr,it4.2,hE,hkv⟩
  have l04:PH.le H H4:=l1.trans (l2.trans l4)
  refine a0a ⟨_,rfl⟩ ?_
  refine a0e (b:=decide (sgI (1-tot).num 0>0)) rfl (fun hps=> ?_) (fun hps=> ?_)
  ·replace hps:=of_decide_eq_true hps
   have hps':0<1-tot:=numpos.1 (sgI_posG.1 hps)
   refine a0d (a4w (hu.mono l04) (by omega)) rfl ?_
   rintro _ H8 ⟨l8,rfl⟩
   refine⟨(fun _=>l8),?_⟩
   simp only[cA,nA]
   refine a0l (b6L b3b (k:=a0r p) (v:= .agg #[.bool (decide ((1-tot).num<0)),w5,.bool false,w5']) (vs:=[.map (some r),kV (a0r p),.agg #[.bool (decide ((1-tot).num<0)),w5,.bool false,w5']]) rfl rfl rfl rfl a6q (b3c (by omega) hpz) (l04.trans l8) (hmo.mono l8)) rfl ?_
   rintro _ _ ⟨rfl,b9,m9,g,ob,E,cc,hmg,-,hgm,rfl⟩
   refine⟨fun h=>(nomatch h),?_⟩
   simp only[cA,nA]
   obtain rfl:r=g:=by injection hmg with hmg;injection hmg
   exact a0c rfl ⟨b9,by rw[if_pos hps'];exact MR.put hgm hke (fun k v q a b=>(hrp k v q a b).mono (l4.trans l8)) (q5c.mono l8) m9⟩
  ·replace hps:=of_decide_eq_false hps
   exact a0c rfl ⟨l04,by rw[if_neg (fun h=>hps (sgI_posG.2 (numpos.2 h)))];exact⟨V,hmo,hke,fun k v q a b=>(hrp k v q a b).mono l4⟩⟩
end
end Go.Proofs.YtmannekkmdockaaGreatDoor

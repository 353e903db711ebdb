/- Chapter 32: walks without loops, and random spanning trees. -/
import Derived.Test.YtkcjbfoejpfbbaaGreatDoorGsR
import Derived.Test.YtkcjbfoejpfbbaaGreatDoorRxZ
import Derived.Test.YtkcjbfoejpfbbaaGreatDoorGdG
namespace Go.Proofs.YtkcjbfoejpfbbaaGreatDoor
open Go.Proofs.Tryz
open Go.RowKit Go.RX Go.GS
theorem a7x:prog.underlying 201=some (.map 3 3):=by kernel_rfl
theorem b0k:prog.underlying 3=some (.int .i64):=by kernel_rfl
theorem c9u:∀w,(zeroValue 3).run prog w= .ok (.int .i64 0) w:=fun w=>by
 have h:(prog.info? 3).bind (·.zero)=some (.int .i64 0):=by kernel_rfl
 cases hi:prog.info? 3 with
 |none=>rw[hi]at h;cases h
 |some i=>
  rw[hi]at h
  simp only[Option.bind_some]at h
  simp[zeroValue,typeInfo,hi,h]
section
variable {H:PH} {u w:Value} {n x c set til left bw m:Nat} {es:List (Nat×Nat)} {l:List Nat}
theorem c8i (hu:SI H u (l.map fun y:Nat=>(y:Int))) (h0:0<l.length) (hl:l.length<=100000):Con prog 186 [u] H fun r H'=>PH.le H H'/\OI H H' r ((a1u l).map fun y:Nat=>(y:Int)):=by
 refine a0j a0n c3a ?_
 have hlen:(l.map fun y:Nat=>(y:Int)).length=l.length:=List.length_map _
 have hat:∀{i y:Nat},l[i]? =some y->(l.map fun y:Nat=>(y:Int))[i]? =some ((y:Nat):Int):=fun h=>by rw[List.getElem?_map,h];rfl
 refine a0H (b2c rfl) rfl ?_
 rintro v1 H1 ⟨l1,m1⟩
 refine⟨fun h=>(nomatch h),?_⟩
 simp only[cA,nA]
 refine a0p el_int (hu.mono l1) ?_
 simp only[cA,nA]
 rw[hlen]
 refine a0i (α:=Nat×List (Int×Int)) (fun⟨i,L⟩=>[ii (i:Nat)]) (fun⟨i,L⟩=>fun H'=>i<=l.length/\PH.le H H'/\MO H H' v1 L/\∀x y:Int,(x,y)∈L↔∃p j:Nat,x=p/\y=j/\a2Y l i p=some j) (fun⟨i,L⟩=>l.length-i) ((0,[])) rfl (⟨Nat.zero_le _,l1,m1,fun x y=>by simp[a2Y]⟩) fun⟨i,L⟩ H' hQ=> ?_
 simp only[cA,nA]
 obtain⟨hi,l2,m2,hL⟩:=hQ
 refine a0a ?_
 refine a0a ?_
 refine a0e (b:=decide (((i:Nat):Int)<(l.length:Nat))) rfl (fun h=> ?_) (fun h=> ?_)
 ·replace h:=of_decide_eq_true h
  have hi':i<l.length:=by omega
  obtain⟨y,hy,_⟩:=a0q hi'
  refine a0t el_int (hu.mono l2) (hat hy) fun _=> ?_
  simp only[cA,nA]
  refine a0H (b5K (B:=H) (vs:=[v1,ii (y:Nat),ii (i:Nat)]) (m:=v1) (k:=(y:Int)) (v:=(i:Int)) rfl rfl rfl rfl a7x b0k l2 m2) rfl ?_
  rintro u3 H3 ⟨rfl,l3,m3,_⟩
  refine⟨fun h=>(nomatch h),?_⟩
  simp only[cA,nA]
  exact⟨(i+1,c4p L (y:Int) (i:Int)),by show l.length-(i+1)<l.length-i;omega,(a2S (a0k rfl (by omega))),⟨hi',l3,m3,fun a b=>by
   rw[c8f m2.1]
   constructor
   ·rintro(⟨rfl,rfl⟩|⟨h1,h2⟩)
    ·exact⟨y,i,rfl,rfl,by simp only[a2Y,if_pos hy]⟩
    ·obtain⟨p,j,rfl,rfl,h3⟩:=(hL a b).1 h2
     exact⟨p,j,rfl,rfl,by simp only[a2Y];rw[if_neg (fun e=>h1 (by rw[hy]at e;rw[Option.some.inj e]))];exact h3⟩
   ·rintro⟨p,j,rfl,rfl,h3⟩
    by_cases e:y=p
    ·subst e;simp only[a2Y,if_pos hy,Option.some.injEq]at h3;subst h3;exact .inl ⟨rfl,rfl⟩
    ·refine .inr ⟨fun e2=>e (by omega),(hL _ _).2 ⟨p,j,rfl,rfl,?_⟩⟩
     simp only[a2Y]at h3;rwa[if_neg (fun e2=>e (by rw[hy]at e2;exact Option.some.inj e2))]at h3⟩⟩
 ·replace h:=of_decide_eq_false h
  have he:i=l.length:=by omega
  subst he
  obtain⟨a0,ha0,_⟩:=a0q h0
  refine a0t el_int (hu.mono l2) (hat ha0) fun _=> ?_
  simp only[cA,nA]
  refine a1Z el_int rfl rfl rfl fun v6 H4 l4 o4 _=> ?_
  simp only[cA,nA]
  refine a0t el_int (hu.mono (l2.trans l4)) (hat ha0) fun _=> ?_
  simp only[cA,nA]
  have hg0:l.getD 0 0=a0:=by rw[List.getD_eq_getElem?_getD,ha0];rfl
  obtain⟨j0,hj0,_⟩:=a4X ha0 h0
  refine a0i (α:=Nat×Nat×List Nat×Value) (fun⟨f,y,out,v⟩=>[ii (y:Nat),v]) (fun⟨f,y,out,v⟩=>fun H5=>out++b7s l f y=a1u l/\out.length+f<=l.length+1/\(∃j,a2Y l l.length y=some j/\l.length<=f+j)/\PH.le H' H5/\OI H' H5 v (out.map fun y:Nat=>(y:Int))) (fun⟨f,y,out,v⟩=>f) ((l.length,a0,[a0],v6)) rfl (⟨by unfold a1u;rw[hg0];rfl,by show 1+l.length<=l.length+1;omega,⟨j0,hj0,by omega⟩,l4,o4⟩) fun⟨f,y,out,v⟩ H5 hQ5=> ?_
  simp only[cA,nA]
  obtain⟨hE,hof,⟨j,hj,hfj⟩,l5,o5⟩:=hQ5
  obtain⟨hj1,hj2,_⟩:=a2b hj
  refine a0p el_int (hu.mono (l2.trans l5)) ?_
  simp only[cA,nA]
  rw[hlen]
  obtain⟨z,hz,_⟩:=a0q (show l.length-1<l.length by omega)
  refine a0a ?_
  refine a0I el_int rfl rfl rfl rfl (fun _=>rfl) (hu.mono (l2.trans l5)) (hat hz) (a0F rfl ((a3s (x:=((l.length:Nat):Int)) (y:=1) rfl rfl (by omega) (by omega)).trans (by show ii _=ii _;congr 1;omega))) (fun _=>rfl) fun _=> ?_
  simp only[cA,nA]
  refine a0a ?_
  refine a0a ?_
  refine a0o (p:=(y≠z)) (by show Value.bool (((y:Nat):Int) !=((z:Nat):Int))=_;rw[bN];congr 1;apply decide_eq_decide.2;omega) (fun hyz=> ?_) fun hyz=> ?_
  ·have hx:l[l.length-1]?≠some y:=fun e=>by rw[hz]at e;exact hyz (Option.some.inj e).symm
   obtain⟨y2,j2,k1,k2,k3,k4⟩:=b0c hx hj
   refine a0u (c4r (vs:=[v1,ii (y:Nat)]) (m:=v1) (k:=(y:Int)) (u:=(j:Int)) rfl rfl rfl a7x b0k c9u (m2.mi.mono l5) ((hL _ _).2 ⟨y,j,rfl,rfl,hj⟩)) rfl ?_
   simp only[cA,nA]
   refine a0a ?_
   refine a0I el_int rfl rfl rfl rfl (fun _=>rfl) (hu.mono (l2.trans l5)) (hat k1) (a0F rfl (a0k rfl (by omega))) (fun _=>rfl) fun _=> ?_
   simp only[cA,nA]
   obtain⟨f,rfl⟩:∃g,f=g+1:=⟨f-1,by omega⟩
   refine a0B el_int rfl rfl rfl (fun _=>rfl) (fun _=>rfl) l5 o5 (by rw[List.length_map];omega) rfl (fun _=>rfl) rfl fun p7 v7 H7 l7 o7=> ?_
   simp only[cA,nA]
   exact⟨(f,y2,out++[y2],v7),by show f<f+1;omega,(a0F rfl rfl),⟨by rw[<-hE,a7v hx hj k2,List.append_assoc];rfl,by show(out++[y2]).length+f<=l.length+1;rw[List.length_append];simp only[List.length_cons,List.length_nil];omega,⟨j2,k3,by show l.length<=f+j2;omega⟩,l7,by rw[List.map_append];exact o7⟩⟩
  ·have hyz2:y=z:=by omega
   rw[b0d (by rw[hz,hyz2]),List.append_nil]at hE
   exact a0b rfl ⟨l2.trans l5,by rw[<-hE];exact SO.less o5 l2⟩
theorem c8j {set:Nat} (hw:SG H w es) (hs:set<M64):Asks prog 184 [gv n w,uv set] H (.bool (decide (set<2^n))):=by
 refine a0j a0n c3i ?_
 refine a0c (a0G hw) ?_
 refine a0x (a2J set hs) rfl ?_
 have hbl:(((Go.WD.blen set:Nat):Int)<=((n:Nat):Int))↔set<2^n:=by
  constructor
  ·intro hh;apply Nat.lt_of_not_le;intro h2;have:=Go.WD.blen_ge h2;omega
  ·intro hh;have:=Go.WD.blen_le hh;omega
 refine a0a ?_
 refine a0a ?_
 exact a0b rfl ⟨rfl,congrArg Value.bool (decide_eq_decide.2 hbl)⟩
end
end Go.Proofs.YtkcjbfoejpfbbaaGreatDoor
/- Chapter 32: random spanning trees. -/
namespace Go.GS
open Go.RowKit Go.RX
theorem d5h {P:Program} {ρ:List Value} {a b:SV} {A n:Nat} {k:IntKind} (ha:D P ρ a=uv A) (hA:A<M64) (hb:D P ρ b= .int k (n:Nat)) (hn:n<=64):D P ρ (.op2 .eql .u64 (.op2 .and .u64 (.op2 .shr .u64 a b) (.k (.int .u64 1))) (.k (.int .u64 0)))= .bool (!bit A n):=by
 show a1y .eql .u64 (intOf (D P ρ (.op2 .and .u64 (.op2 .shr .u64 a b) (.k (.int .u64 1))))) 0=_
 rw[a2H (B:=1) (a3c ha hb hn) rfl (Nat.lt_of_le_of_lt (Nat.div_le_self _ _) hA) (by decide),b8r]
 cases bit A n<;>rfl
theorem d5i {P:Program} {ρ:List Value} {a:SV} {A x:Nat} {r:List Nat} (ha:D P ρ a=uv A) (hA:A<M64) (h:els A=x::r):D P ρ (.op2 .and .u64 a (.op1 .neg .u64 a))=uv (2^x):=by
 rw[<-a6K hA h]
 exact a2H ha (a8d ha hA) hA (Nat.mod_lt _ a2s)
end Go.GS
namespace Go.Proofs.YtkcjbfoejpfbbaaGreatDoor
open Go.Proofs.Tryz
open Go.RowKit Go.RX Go.GS
theorem d2r {ρ:List Value} {a b c d e f g:SV} {x y z u v s t:Value} (h:D prog ρ a=x) (h2:D prog ρ b=y) (h3:D prog ρ c=z) (h4:D prog ρ d=u) (h5:D prog ρ e=v) (h6:D prog ρ f=s) (h7:D prog ρ g=t):[a,b,c,d,e,f,g].map (D prog ρ)=[x,y,z,u,v,s,t]:=by
 rw[List.map_cons,h,List.map_cons,h2,d7q h3 h4 h5 h6 h7]
section
variable {H:PH} {u w:Value} {n x c set til left bw m:Nat} {es:List (Nat×Nat)} {l:List Nat}
theorem SO.split {α:Type} {e:TypeId} {sz:Nat} {ce:α->List Value} {v:Value} {tr:List α} {B H4 H5:PH} (h:SO B H4 e sz ce v tr) (h45:PH.le H4 H5):
  ∃Bi,PH.le Bi H5/\SO Bi H5 e sz ce v tr/\(∀X,PH.le X H5->(∀g,B g=none->X g=none)->PH.le X Bi)/\∀{β:Type} {e2:TypeId} {sz2:Nat} {ce2:β->List Value} {u:Value} {l:List β},SO H4 H5 e2 sz2 ce2 u l->SE Bi sz2 ce2 u l:=by
 obtain⟨hlen,hv⟩:=h
 rcases hv with⟨rfl,h0⟩|⟨g,cap,cur,rfl,hg0,hg,h4⟩
 ·exact⟨H5,PH.le.refl _,⟨hlen,.inl ⟨rfl,h0⟩⟩,fun X hX _=>hX,fun h=>h.se⟩
 ·refine⟨a1W H5 g,a5L _ _,⟨hlen,.inr ⟨g,cap,cur,rfl,by unfold a1W;rw[if_pos rfl],h45 _ _ hg,h4⟩⟩,fun X hX hB k o hk=> ?_,fun h=> ?_⟩
  ·unfold a1W
   rw[if_neg (fun e=>by subst e;rw[hB _ hg0]at hk;cases hk)]
   exact hX _ _ hk
  ·exact SO.se (h.tr fun g2 ob g3 g4=>⟨g3,by unfold a1W;rw[if_neg (fun e=>by subst e;rw[hg]at g3;cases g3)];exact g4⟩)
theorem WkR.case {H H':PH} {r:Value} {R:Nat ⊕ (List Nat×Nat×Nat)} (h:WkR H H' bw n w set r R):∃v e,r= .tuple #[v,ii (e:Nat)]/\((e≠0/\R= .inl e/\PH.le (a1W H bw) H')\/(e=0/\∃l c left,R= .inr (l,c,left)/\c<M64/\PH.le (H.put bw (WkO c n w set left)) H'/\OI H H' v (l.map fun y:Nat=>(y:Int)))):=by
 cases R with
 |inl e=>obtain⟨h1,h2,v,h3⟩:=h;exact⟨v,e,h3,.inl ⟨h2,rfl,h1⟩⟩
 |inr p=>
  obtain⟨l,c,left⟩:=p
  obtain⟨h1,h2,v,h3,h4⟩:=h
  exact⟨v,0,h3,.inr ⟨rfl,l,c,left,rfl,h1,h2,h4⟩⟩
def DraR (H':PH) (r:Value):Nat ⊕ (List Int×Nat)->Prop
 | .inl e=>e≠0/\r= .tuple #[.slice none 0 0,chV 0,ii (e:Nat)]
 | .inr (tr,c)=>c<M64/\∃v,r= .tuple #[v,chV c,ii 0]/\SI H' v (a5M tr)
def DraO (H H':PH) (r:Value):Nat ⊕ (List Int×Nat)->Prop
 | .inl e=>e≠0/\r= .tuple #[.slice none 0 0,chV 0,ii (e:Nat)]
 | .inr (tr,c)=>c<M64/\∃v,r= .tuple #[v,chV c,ii 0]/\OI H H' v (a5M tr)
set_option maxHeartbeats 1000000 in
theorem c8k {x0:Nat} {r0:List Nat} (hT:Tb H) (hw:SG H w es) (hg:GV n es) (hn:n<=9) (h0:set≠0) (hs:set<2^n) (hcn:cnB es set=true) (hc:c<M64) (hel:els set=x0::r0):Con prog 133 [gv n w,uv set,chV c] H fun r H'=>PH.le H H'/\DraO H H' r (a2l es set n n (2^x0) [] c 10000):=by
 refine a0j a0n c2W ?_
 have h64:n<=64:=by omega
 have hs':=a0V h64 hs
 obtain⟨hb0,hx0,_⟩:=a2w hel
 have hx0n:=b3c hs hb0
 refine a0c (a0G hw) ?_
 refine a0c (a0W c) ?_
 refine a0v (a3B hw hg) rfl fun H1 l1=> ?_
 simp only[cA,nA]
 refine a0a ?_
 refine a0l (bF (p:=(0:Int)≠0) (by simp)) ?_
 refine a0a ?_
 refine a0l (by show Value.bool (((set:Nat):Int)==0)=_;rw[bE0,decide_eq_false h0]) ?_
 refine a0s (c8j (hw.mono l1) hs') rfl ?_
 simp only[cA,nA]
 refine a0a ?_
 refine a0l (by show Value.bool (!decide (set<2^n))=_;rw[decide_eq_true hs];rfl) ?_
 refine a0v (a7f (hT.mono l1) (hw.mono l1) hg hs') rfl fun H2 l2=> ?_
 simp only[cA,nA]
 rw[show d2E n es set= .tuple #[.bool (cnB es set),ii 0]from if_pos hs,hcn]
 refine a0m ?_
 refine a0m ?_
 refine a0a ?_
 refine a0l rfl ?_
 refine a0c (el_u64.vcells set) ?_
 refine a2i (cs:=wkc c n w set 10000) (by show(Value.agg ((chV c).cells++(Value.agg ((gv n w).cells++(Value.agg (spl (Value.agg ((uv set).cells++(a0O prog 3).cells)).cells 1 (ii 10000).cells.toList)).cells)).cells)).cells=_;rw[c0s];rfl) fun bw hbw=> ?_
 simp only[cA,nA]
 have l12:=l1.trans l2
 have hB:∃B:PH,H2.put bw (WkO c n w set 10000)=B/\B bw=some (WkO c n w set 10000)/\PH.le H2 (a1W B bw):=⟨_,rfl,PH.put_self _ _ _,fun k o hk=>by
  unfold a1W
  have e:k≠bw:=fun e=>by subst e;rw[hbw]at hk;cases hk
  rw[if_neg e,PH.put_ne _ _ e];exact hk⟩
 obtain⟨B,hBe,hBb,hBc⟩:=hB
 show den prog _ _ _ _ (H2.put bw (WkO c n w set 10000))
 rw[hBe]
 have hBn:B bw≠none:=by rw[hBb];exact fun h=>nomatch h
 have hBB:B.put bw (WkO c n w set 10000)=B:=by rw[<-hBe,PH.put_put]
 have hcar0:1<=card (2^x0):=by
  have:=a4Y [x0] 0 (by simp) (fun y hy=>by obtain rfl:=List.mem_singleton.1 hy;exact⟨a0P _,hx0⟩)
  have e:orL 0 [x0]=2^x0:=by unfold orL;simp
  rw[e]at this;simp at this;omega
 refine a0i (α:=Nat×Nat×List Int×Nat×Nat×Value) (fun⟨i,d,tr,cc,left,vt⟩=>[ii 0,uv d,vt,ii (i:Nat),gv n w,chV c,chV 0]) (fun⟨i,d,tr,cc,left,vt⟩=>fun H'=>a2l es set n (n-i) d tr cc left=a2l es set n n (2^x0) [] c 10000/\i<=n/\d<2^n/\tr.length+1<=card d/\cc<M64/\left<=10000/\PH.le (B.put bw (WkO cc n w set left)) H'/\OI B H' vt tr) (fun⟨i,d,tr,cc,left,vt⟩=>n-i) ((0,2^x0,[],c,10000,.slice none 0 0)) (d2r rfl (d5i rfl hs' hel) rfl rfl rfl rfl a3e) (⟨rfl,Nat.zero_le _,Nat.pow_lt_pow_right (by decide) hx0n,hcar0,hc,Nat.le_refl _,by rw[hBB];exact PH.le.refl _,SO.nil _ _ _ _ _⟩) fun⟨i,d,tr,cc,left,vt⟩ H' hQ=> ?_
 simp only[cA,nA]
 obtain⟨hR,hi,hd,htl,hcc,hleft,l3,o3⟩:=hQ
 have hd':=a0V h64 hd
 obtain⟨lc,hb3⟩:=a0K l3
 have lH:PH.le H2 H':=hBc.trans lc
 refine a0a ?_
 refine a0a ?_
 refine a0e (b:=decide (((i:Nat):Int)<(n:Nat))) rfl (fun h=> ?_) (fun h=> ?_)
 ·replace h:=of_decide_eq_true h
  have hi':i<n:=by omega
  obtain⟨k,hk⟩:∃k,n-i=k+1:=⟨n-i-1,by omega⟩
  have hki:n-(k+1)=i:=by omega
  have hk':n-(i+1)=k:=by omega
  refine a0a ?_
  refine a0c ⟨_,_,rfl⟩ ?_
  refine a0c (by show(0:Int)<=((i:Nat):Int);omega) ?_
  refine a0e (b:= !(bit set i&& !bit d i)) ((d5h (b0V rfl rfl hs' hd') (sdf_lt hs') rfl (by omega)).trans (by rw[a1K])) (fun h2=> ?_) (fun h2=> ?_)
  ·skip
   have hsk:¬(bit set i=true/\bit d i=false):=fun⟨e1,e2⟩=>by rw[e1,e2]at h2;cases h2
   exact⟨(i+1,d,tr,cc,left,vt),by show n-(i+1)<n-i;omega,(d2r rfl rfl rfl (a0k rfl (by omega)) rfl rfl rfl),⟨by show a2l es set n (n-(i+1)) d tr cc left=_;rw[hk',<-hR,hk];simp only[a2l,hki,if_neg hsk],hi',hd,htl,hcc,hleft,l3,o3⟩⟩
  ·skip
   have hsk:bit set i=true/\bit d i=false:=by
    cases e1:bit set i<;>cases e2:bit d i<;>simp[e1,e2]at h2<;>exact⟨rfl,rfl⟩
   have hcutH:PH.le H2 (a1W H' bw):=fun k o hk=>by
    have e:k≠bw:=fun e=>by subst e;rw[hbw]at hk;cases hk
    unfold a1W;rw[if_neg e];exact lH _ _ hk
   have hH'n:H' bw≠none:=by rw[hb3];exact fun h=>nomatch h
   refine a0f (c8b hb3 (hw.mono (l12.trans hcutH)) hg h64 (hT.mono (l12.trans hcutH)) hs' hd' hcc hi' hleft) rfl ?_
   rintro r14 H4 hR4
   refine⟨fun h=>(nomatch h),?_⟩
   simp only[cA,nA]
   obtain⟨v,e,rfl,hcase⟩:=WkR.case hR4
   refine a0m ?_
   refine a0m ?_
   refine a0a ?_
   refine a0o (p:=(e≠0)) (bN0 e) (fun h5=> ?_) fun h5=> ?_
   ·obtain⟨-,hW,lcut⟩:=hcase.resolve_right (fun h=>h5 h.1)
    exact a0b (by show Value.tuple #[.slice none 0 0,a0O prog _,ii (e:Nat)]=_;rw[a3e]) (by
     rw[hk]at hR
     simp only[a2l,hki,if_pos hsk,hW]at hR
     rw[<-hR]
     exact⟨(l12.trans hcutH).trans lcut,h5,rfl⟩)
   ·obtain⟨he0,W0,c',left',hW,hc',l4,o4⟩:=hcase.resolve_left (fun h=>h5 (by omega)|>.elim)
    subst he0
    obtain⟨hWl,hWk,hWn,hWc,hWd⟩:=c4l hg h64 hs' hi' hd hW
    refine a0f (c8i (o4.se) hWl (by omega)) rfl ?_
    rintro v15 H5 ⟨l5,o5⟩
    refine⟨fun h=>(nomatch h),?_⟩
    simp only[cA,nA]
    have hl4:=a4v l3 l4
    have o4t:OI B H4 vt tr:=SO.kp hBn o3 l4
    obtain⟨Bi,lBi,oBi,hmin,hrd⟩:=SO.split o4t l5
    have hWi:=hrd o5
    have hBbi:PH.le (B.put bw (WkO c' n w set left')) Bi:=hmin _ (hl4.trans l5) fun g hg=>by
     have e:g≠bw:=fun e=>by subst e;exact hBn hg
     rw[PH.put_ne _ _ e];exact hg
    have hlenW:((a1u W0).map fun y:Nat=>(y:Int)).length=(a1u W0).length:=List.length_map _
    have hcW:=b0f hWd h64
    have hwBi:SG Bi w es:=hw.mono (l12.trans (hBc.trans ((b0b _ _ _).trans hBbi)))
    refine a0p el_int (hWi.mono lBi) ?_
    simp only[cA,nA]
    rw[hlenW]
    refine a0i (α:=Nat×Value) (fun⟨j,vt2⟩=>[uv (orL d ((a1u W0).take j)),vt2,ii (j:Nat)]) (fun⟨j,vt2⟩=>fun H6=>j<=(a1u W0).length/\PH.le Bi H6/\OI Bi H6 vt2 (tr++edW es (a1u W0) j)) (fun⟨j,vt2⟩=>(a1u W0).length-j) ((0,vt)) rfl (⟨Nat.zero_le _,lBi,by show OI Bi H5 vt (tr++[]);rw[List.append_nil];exact oBi⟩) fun⟨j,vt2⟩ H6 hQ6=> ?_
    simp only[cA,nA]
    obtain⟨hj,l6,o6⟩:=hQ6
    refine a0a ?_
    refine a0a ?_
    refine a0e (b:=decide (((j:Nat):Int)<((a1u W0).length:Nat))) rfl (fun h6=> ?_) (fun h6=> ?_)
    ·replace h6:=of_decide_eq_true h6
     have hj':j<(a1u W0).length:=by omega
     obtain⟨y,hy,_⟩:=a0q hj'
     have hyn:y<n:=hWn y (List.mem_of_getElem? hy)
     have hgy:(a1u W0).getD j 0=y:=by rw[List.getD_eq_getElem?_getD,hy];rfl
     have hor:orL d ((a1u W0).take j)<M64:=a0V h64 (c4j _ _ hd fun z hz=>hWn z (List.mem_of_mem_take hz))
     have hornx:orL d ((a1u W0).take (j+1))=orL d ((a1u W0).take j)|||2^y:=by rw[take_snoc hy,a2Z]
     refine a0I el_int rfl rfl rfl rfl (fun _=>rfl) (hWi.mono l6) (show((a1u W0).map fun y:Nat=>(y:Int))[j]? =some (y:Int) by rw[List.getElem?_map,hy];rfl) rfl (fun _=>rfl) fun _=> ?_
     simp only[cA,nA]
     refine a0c ⟨_,_,rfl⟩ ?_
     refine a0c (by show(0:Int)<=((y:Nat):Int);omega) ?_
     refine a0a ?_
     refine a0e (b:=decide (((j:Nat):Int)>0)) rfl (fun h7=> ?_) (fun h7=> ?_)
     ·replace h7:=of_decide_eq_true h7
      obtain⟨q,rfl⟩:∃q,j=q+1:=⟨j-1,by omega⟩
      obtain⟨z,hz,_⟩:=a0q (show q<(a1u W0).length by omega)
      have hzn:z<n:=hWn z (List.mem_of_getElem? hz)
      have hgz:(a1u W0).getD (q+1-1) 0=z:=by rw[show q+1-1=q by omega,List.getD_eq_getElem?_getD,hz];rfl
      have hzi:((a1u W0).map fun y:Nat=>(y:Int))[q]? =some (z:Int):=by rw[List.getElem?_map,hz];rfl
      refine a0I el_int rfl rfl rfl rfl (fun _=>rfl) (hWi.mono l6) hzi (a0F rfl (a4V rfl (by omega))) (fun _=>rfl) fun _=> ?_
      simp only[cA,nA]
      refine a0u ((a9o (a:=(y:Int)) (b:=(z:Int)) rfl rfl rfl).rds _) rfl ?_
      simp only[cA,nA]
      rw[show(if((z:Nat):Int)<((y:Nat):Int)then((z:Nat):Int)else((y:Nat):Int))=((min y z:Nat):Int) by split<;>omega]
      refine a0I el_int rfl rfl rfl rfl (fun _=>rfl) (hWi.mono l6) hzi (a0F rfl (a4V rfl (by omega))) (fun _=>rfl) fun _=> ?_
      simp only[cA,nA]
      refine a0u ((Go.RZ.yld_imax (a:=(y:Int)) (b:=(z:Int)) rfl rfl rfl).rds _) rfl ?_
      simp only[cA,nA]
      rw[show(if((y:Nat):Int)<((z:Nat):Int)then((z:Nat):Int)else((y:Nat):Int))=((max y z:Nat):Int) by split<;>omega]
      refine a0c (el_int.vcells _) ?_
      refine a0c (el_int.vcells _) ?_
      refine a0s (c7T (a:=min y z) (b:=max y z) (hwBi.mono l6) hg h64 (by omega) (by omega)) (a0F rfl (c9l rfl rfl)) ?_
      simp only[cA,nA]
      refine a0B el_int rfl rfl rfl (fun _=>rfl) (fun _=>rfl) l6 o6 (by rw[List.length_append,a5u];omega) rfl (fun _=>rfl) rfl fun p8 vt3 H7 l7 o7=> ?_
      simp only[cA,nA]
      exact⟨(q+1+1,vt3),by show(a1u W0).length-(q+1+1)<(a1u W0).length-(q+1);omega,(a5b (by rw[hornx];exact a4q rfl (a2R rfl (by omega)) hor (a0R (by omega))) rfl (a0k rfl (by omega))),⟨hj',l7,by show OI Bi H7 vt3 (tr++edW es (a1u W0) (q+1+1));rw[a4Z,if_neg (by omega),<-List.append_assoc,hgy,hgz];exact o7⟩⟩
     ·replace h7:=of_decide_eq_false h7
      have hj0:j=0:=by omega
      subst hj0
      exact⟨(0+1,vt2),by show(a1u W0).length-(0+1)<(a1u W0).length-0;omega,(a5b (by rw[hornx];exact a4q rfl (a2R rfl (by omega)) hor (a0R (by omega))) rfl (a0k rfl (by omega))),⟨hj',l6,by show OI Bi H6 vt2 (tr++edW es (a1u W0) (0+1));rw[a4Z,if_pos rfl,List.append_nil];exact o6⟩⟩
    ·replace h6:=of_decide_eq_false h6
     have hje:j=(a1u W0).length:=by omega
     subst hje
     rw[List.take_length]
     exact⟨(i+1,orL d (a1u W0),tr++edW es (a1u W0) (a1u W0).length,c',left',vt2),by show n-(i+1)<n-i;omega,(d2r rfl rfl rfl (a0k rfl (by omega)) rfl rfl rfl),⟨by show a2l es set n (n-(i+1)) _ _ _ _=_;rw[hk',<-hR,hk];simp only[a2l,hki,if_pos hsk,hW],hi',hWd,by show(tr++edW es (a1u W0) (a1u W0).length).length+1<=card (orL d (a1u W0));rw[List.length_append,a5u];have hpos:0<(a1u W0).length:=(by unfold a1u;simp);omega,hc',by show left'<=10000;omega,hBbi.trans l6,SO.unbase (SO.less o6 hBbi)⟩⟩
 ·replace h:=of_decide_eq_false h
  have hin:i=n:=by omega
  subst hin
  rw[Nat.sub_self]at hR
  have hcd:=b0f hd h64
  refine a0f (c7S l3 (SO.base (WkO cc i w set left) hBn o3) (by omega)) rfl ?_
  rintro _ H7 ⟨l7,m,hp,hpw,o7⟩
  refine⟨fun h=>(nomatch h),?_⟩
  simp only[cA,nA]
  have hb7:=(a0K l7).2
  refine a1a ?_
  simp only[cA,nA]
  refine a0z d2n ?_
  simp only[cA,nA]
  refine a1D (vs:=[uv cc]) a4U rfl rfl hb7 rfl (show 1<=5 by omega) rfl ?_
  simp only[cA,nA]
  refine a0c (a0W cc) ?_
  exact a0b rfl (by
   rw[<-hR]
   refine⟨l12.trans (hBc.trans (a0K l7).1),hcc,vt,rfl,?_⟩
   rw[show a5M tr=m from c4a (a7w tr).2 hpw ((a7w tr).1.trans hp.symm)]
   exact SO.less o7 (l12.trans (hBc.trans (b0b _ _ _))))
end
end Go.Proofs.YtkcjbfoejpfbbaaGreatDoor

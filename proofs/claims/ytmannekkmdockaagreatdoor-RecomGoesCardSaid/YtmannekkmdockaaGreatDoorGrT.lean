/- Chapter 32: walks at random. -/
import Derived.Test.YtmannekkmdockaaGreatDoorGyB
open List renaming getD_eq_getElem?_getD->aB,length_map->aR
namespace Go.RX
open Go.RowKit
theorem SO.tr {α:Type} {e:TypeId} {sz:Nat} {ce:α->List Value} {v:Value} {l:List α} {H0 H H0' H2:PH} (h:SO H0 H e sz ce v l) (h2:∀g ob,H0 g=none->H g=some ob->H0' g=none/\H2 g=some ob):SO H0' H2 e sz ce v l:=by
 obtain⟨pR,hv⟩:=h;refine⟨pR,hv.imp id ?_⟩;rintro⟨g,cap,cur,h3,sN,hg,h4⟩;obtain⟨h5,h6⟩:=h2 g _ sN hg;exact⟨g,cap,cur,h3,h5,h6,h4⟩
section
variable {P:Program} {o:Oper}
theorem jj {fn:Fn} {t:Nat} {v:Value} (ho:o.op= .makeFunc fn #[.tmp t] #[]):Run P o [v] (.func fn #[v] #[]):=fun w=>by
 have pZ:o.op.operands.toList=[.tmp t]:=by rw[ho];rfl
 unfold Stp;rw[pZ];simp only[execOp,ho,Sem.run_bind,Instr.makeFunc,Sem.run_pure,Result.andThen_ok];exact⟨by simp[g9,Ky],Ext.refl _⟩
variable {G:Value->PH->Prop} {nx:List (List Value->PH->Prop)} {ρ:List Value} {H:PH} {t:Tree} {id i b q:Nat} {x y:Operand} {T T':TypeId} {cs:Array Value} {args:List SV} {pf:Bool}
theorem yl {vs:List Value} (hT:Ag P T vs.length) (ho:o.op= .store T x y) (hx:g9 [x,y] [.pointer (some ⟨b,q,none⟩),.agg vs.toArray] x= .pointer (some ⟨b,q,none⟩)) (hy:g9 [x,y] [.pointer (some ⟨b,q,none⟩),.agg vs.toArray] y= .agg vs.toArray) (hH:H b=some (.cells cs T' (0,0))) (hq:q+vs.length<=cs.size) (h1:∀c∈vs,Dx c=true) (ha:args.map (D P ρ)=[.pointer (some ⟨b,q,none⟩),.agg vs.toArray]) (vB:pf=false)
  (n:den P G t nx (ρ++[undef]) (H.put b (.cells (spl cs q vs) T' (0,0)))):den P G (.eff pf id i o args t) nx ρ H:=by
 refine r4 (Ug ho hx hy hH hT.has (by rw[hT.cel];omega) (by rw[hT.cel];rfl) (fun c hc=>h1 c (by simpa[It]using hc))) ha ?_;rintro v H' ⟨rfl,rfl⟩;exact⟨fun h=>(by rw[vB]at h;cases h),n⟩
end
end Go.RX
namespace Go.GS
open Go.RowKit Go.RX
def j9 (s n:Nat):Nat×Nat×Nat:=if n=0 then(0,0,2)else match Du n 200 s with
 |some (x,t)=>(x,t,0)
 |none=>(0,0,9)
theorem Na {s n:Nat} (h:(j9 s n).2.2=0):(j9 s n).1<n:=by
 unfold j9 at h⊢;split at h
 ·cases h
 ·rename_i hn;rw[if_neg hn];cases hf:Du n 200 s with
  |none=>rw[hf]at h;cases h
  |some p=>exact(ja (by omega) hf).1
theorem Vr (s n:Nat):(j9 s n).2.1<M64:=by
 unfold j9;split
 ·exact Jy
 ·rename_i hn;cases hf:Du n 200 s with
  |none=>exact Jy
  |some p=>exact(ja (by omega) hf).2
def Dj (es:List (Nat×Nat)) (set til:Nat):Nat->List Nat->Nat->Nat->Nat ⊕ (List Nat×Nat×Nat)
 |0,out,x,c=>if bit til x=true then .inr (out,c,0)else .inl 9
 |k+1,out,x,c=>if bit til x=true then .inr (out,c,k+1)else
  if(j9 c (nbl es set x).length).2.2=0 then
   Dj es set til k (out++[(nbl es set x).getD (j9 c (nbl es set x).length).1 0]) ((nbl es set x).getD (j9 c (nbl es set x).length).1 0) (j9 c (nbl es set x).length).2.1
  else .inl (j9 c (nbl es set x).length).2.2
theorem ym {es:List (Nat×Nat)} {set til x:Nat} (h:bit til x=true) (k:Nat) (out:List Nat) (c:Nat):Dj es set til k out x c= .inr (out,c,k):=by
 cases k<;>simp only[Dj,h,if_true]
theorem LY {es:List (Nat×Nat)} {set til x:Nat} (h:bit til x=false) (out:List Nat) (c:Nat):Dj es set til 0 out x c= .inl 9:=by
 simp only[Dj,h];rfl
theorem LZ (es:List (Nat×Nat)) (set x:Nat):(nbl es set x).length<=64:=Me _
theorem MA {n:Nat} {es:List (Nat×Nat)} (hg:GV n es) (qK:n<=64) {set x y:Nat} (hs:set<M64) (h:y∈nbl es set x):y<n:=by
 have h1:=(Gf (Nat.lt_of_le_of_lt Nat.and_le_right hs)).1 h;have h2:bit (nb es x) y=true:=by
  have:bit (nb es x&&&set) y=(bit (nb es x) y&&bit set y):=Nat.testBit_and _ _ _;rw[this,Bool.and_eq_true]at h1;exact h1.1
 obtain⟨e,he,h3⟩:=(JW es x y).1 h2;have:=hg.ed e he;rcases h3 with⟨_,h⟩|⟨_,_,h⟩<;>omega
end Go.GS
namespace Go.Proofs.Z
open Go.Proofs.Tryz
open Go.RowKit Go.RX Go.GS
theorem MC (s n:Nat):Vh s (n:Nat)= .tuple #[ii ((j9 s n).1:Nat),chV (j9 s n).2.1,ii ((j9 s n).2.2:Nat)]:=by
 unfold Vh j9;by_cases h:n=0
 ·subst h;rfl
 ·rw[if_neg (by omega),if_neg h,Int.toNat_natCast];cases Du n 200 s with
  |none=>rfl
  |some p=>rfl
theorem jl (H:PH) (b:Nat) (ob:Obj):PH.le (j1 H b) (H.put b ob):=fun k o hk=>by
 unfold j1 at hk;by_cases e:k=b
 ·rw[if_pos e]at hk;cases hk
 ·rw[if_neg e]at hk;rw[PH.put_ne _ _ e];exact hk
theorem Jb (H:PH) (b:Nat):PH.le (j1 H b) H:=fun k o hk=>by
 unfold j1 at hk;by_cases e:k=b
 ·rw[if_pos e]at hk;cases hk
 ·rw[if_neg e]at hk;exact hk
theorem MD {H H1:PH} {b:Nat} (h:PH.le H H1) (ob:Obj):PH.le (j1 H b) (H1.put b ob):=fun k o hk=>by
 unfold j1 at hk;by_cases e:k=b
 ·rw[if_pos e]at hk;cases hk
 ·rw[if_neg e]at hk;rw[PH.put_ne _ _ e];exact h _ _ hk
theorem Ah {H H':PH} {b:Nat} {ob:Obj} (h:PH.le (H.put b ob) H'):PH.le (j1 H b) H'/\H' b=some ob:=⟨(jl H b ob).trans h,h _ _ (PH.put_self _ _ _)⟩
theorem Vs {H H':PH} {b:Nat} {ob:Obj} (h:PH.le (j1 H b) H') (hb:H' b=some ob):PH.le (H.put b ob) H':=fun k o hk=>by
 by_cases e:k=b
 ·subst e;rw[PH.put_self]at hk;rw[hb];exact hk
 ·rw[PH.put_ne _ _ e]at hk;exact h k o (by unfold j1;rw[if_neg e];exact hk)
theorem Si {H H1 H2:PH} {b:Nat} {o1 o2:Obj} (h1:PH.le (H.put b o1) H1) (h2:PH.le (H1.put b o2) H2):PH.le (H.put b o2) H2:=by
 obtain⟨a1,a2⟩:=Ah h1;obtain⟨c1,c2⟩:=Ah h2;refine Vs (fun k o hk=> ?_) c2;have tH:=a1 k o hk;refine c1 k o ?_;unfold j1 at hk⊢;by_cases e:k=b
 ·rw[if_pos e]at hk;cases hk
 ·rw[if_neg e];exact tH
theorem Pm {H H1 H2:PH} {b:Nat} {o1:Obj} (h1:PH.le (H.put b o1) H1) (h2:PH.le H1 H2):PH.le (H.put b o1) H2:=h1.trans h2
theorem SO.kp {α:Type} {e:TypeId} {sz:Nat} {ce:α->List Value} {v:Value} {l:List α} {X H H2:PH} {b:Nat} {o2:Obj} (hX:X b≠none) (h:SO X H e sz ce v l) (h2:PH.le (H.put b o2) H2):SO X H2 e sz ce v l:=
 h.tr fun g ob h3 h4=>⟨h3,(Ah h2).1 g ob (by unfold j1;rw[if_neg (fun e=>by subst e;exact hX h3)];exact h4)⟩
theorem SO.base {α:Type} {e:TypeId} {sz:Nat} {ce:α->List Value} {v:Value} {l:List α} {X H:PH} {b:Nat} (o2:Obj) (hX:X b≠none) (h:SO X H e sz ce v l):SO (X.put b o2) H e sz ce v l:=
 h.tr fun g ob h3 h4=>⟨by rw[PH.put_ne _ _ (fun e=>by subst e;exact hX h3)];exact h3,h4⟩
theorem SO.unbase {α:Type} {e:TypeId} {sz:Nat} {ce:α->List Value} {v:Value} {l:List α} {X H:PH} {b:Nat} {o2:Obj} (h:SO (X.put b o2) H e sz ce v l):SO X H e sz ce v l:=
 h.tr fun g ob h3 h4=>⟨by
  have e:g≠b:=fun e=>by subst e;rw[PH.put_self]at h3;cases h3
  rwa[PH.put_ne _ _ e]at h3,h4⟩
theorem c7V:Au prog 225=true:=by kernel_rfl
def fwb (bw:Nat):Value:= .func (.func 225) #[.pointer (some ⟨bw,0,none⟩)] #[]
section
variable {H:PH} {u w:Value} {n x c set til left bw m:Nat} {es:List (Nat×Nat)} {l:List Nat}
theorem c7W (hb:H bw=some (WkO c n w set left)) (hc:c<M64) (hm:m<9223372036854775808):Con prog 225 [.pointer (some ⟨bw,0,none⟩),ii (m:Nat)] H fun u H'=>u= .tuple #[ii ((j9 c m).1:Nat),ii ((j9 c m).2.2:Nat)]/\PH.le (H.put bw (WkO (j9 c m).2.1 n w set left)) H':=by
 refine j3 mixed d2W ?_;have qF:=Vr c m;refine As ?_;refine s6 yj ?_;refine Fj (vs:=[uv c]) Md rfl rfl hb rfl (show 1<=5 by omega) rfl ?_;refine x9 ((MC c m ▸ KT (s:=c) (z:=(m:Nat)) hc (by omega))) rfl fun H1 l1=> ?_;refine i8 (i8 (i8 ?_));refine d9 (Hf _) ?_;refine As ?_;refine s6 yj ?_;refine yl (vs:=[uv (j9 c m).2.1]) Md rfl rfl rfl (l1 _ _ hb) (by show 0+1<=5;omega) (by intro c hc;simp at hc;subst hc;rfl) rfl rfl ?_;exact g8 rfl ⟨rfl,Vs (MD l1 _) (PH.put_self _ _ _)⟩
theorem c7X (hb:H bw=some (WkO c n w set left)) (hc:c<M64) (hu:SI (j1 H bw) u (l.map fun y:Nat=>(y:Int))) (hl:l.length<=64):Con prog 226 [u,fwb bw] H fun r H'=>r= .tuple #[ii ((if(j9 c l.length).2.2=0 then l.getD (j9 c l.length).1 0 else 0:Nat):Int),ii ((j9 c l.length).2.2:Nat)]/\PH.le (H.put bw (WkO (j9 c l.length).2.1 n w set left)) H':=by
 refine j3 mixed d2V ?_;have a5m:PH.le (j1 H bw) H:=Jb H bw;have pR:(l.map fun y:Nat=>(y:Int)).length=l.length:=aR _;refine j7 el_int (hu.mono a5m) ?_;rw[pR];refine r4 (Go.RZ.opn_callw (P:=prog) (ws:=[ii (l.length:Nat)]) (bs:= #[.pointer (some ⟨bw,0,none⟩)]) (caps:= #[]) (vs:=[fwb bw,ii (l.length:Nat)]) rfl rfl rfl c7V (c7W (m:=l.length) hb hc (by omega))) rfl ?_;rintro v H1 ⟨rfl,l1⟩;refine nmI ?_;have rN:=hu.mono (Ah l1).1;refine i8 (i8 (d4 ?_));refine r9 (p:=((j9 c l.length).2.2≠0)) (bN0 _) (fun h=> ?_) fun h=> ?_
 ·exact g8 rfl ⟨by rw[if_neg h];rfl,l1⟩
 ·have h0:(j9 c l.length).2.2=0:=by omega
  have hk:=Na h0;obtain⟨y,hy,_⟩:=t7 hk;refine Do el_int rfl rfl rfl rfl (fun _=>rfl) rN (show(l.map fun y:Nat=>(y:Int))[(j9 c l.length).1]? =some (y:Int) by rw[List.getElem?_map,hy];rfl) rfl (fun _=>rfl) fun _=> ?_;exact g8 rfl ⟨by rw[if_pos h0,h0,aB,hy];rfl,l1⟩
def WkR (H H':PH) (bw n:Nat) (w:Value) (set:Nat) (r:Value):Nat ⊕ (List Nat×Nat×Nat)->Prop
 | .inl e=>PH.le (j1 H bw) H'/\e≠0/\∃v,r= .tuple #[v,ii (e:Nat)]
 | .inr (l,c,left)=>c<M64/\PH.le (H.put bw (WkO c n w set left)) H'/\∃v,r= .tuple #[v,ii 0]/\OI H H' v (l.map fun y:Nat=>(y:Int))
theorem c7Y (hb:H bw=some (WkO c n w set left)) (hw:SG (j1 H bw) w es) (hg:GV n es) (qK:n<=64) (hT:Tb (j1 H bw)) (hs:set<M64) (ht:til<M64) (hc:c<M64) (hx:x<n) (zJ:left<=10000):
  Con prog 184 [.pointer (some ⟨bw,0,none⟩),ii (x:Nat),uv til] H fun r H'=>WkR H H' bw n w set r (Dj es set til left [x] x c):=by
 refine j3 mixed d2T ?_;have yC:H bw≠none:=by rw[hb];exact fun h=>nomatch h
 refine On el_int rfl rfl rfl fun v3 H1 l1 o1 _=> ?_;simp only[cA,nA];refine He (jj rfl) rfl ?_;simp only[cA,nA];refine s9 (α:=List Nat×Nat×Nat×Nat×Value) (fun⟨out,y,d,k,v⟩=>[.slice none 0 0,ii 0,ii (y:Nat),v]) (fun⟨out,y,d,k,v⟩=>fun H'=>Dj es set til k out y d=Dj es set til left [x] x c/\y<n/\d<M64/\out.length+k<=10001/\PH.le (H.put bw (WkO d n w set k)) H'/\OI H H' v (out.map fun y:Nat=>(y:Int))) (fun⟨out,y,d,k,v⟩=>k) (([x],x,c,left,v3)) rfl (⟨rfl,hx,hc,by show 1+left<=10001;omega,Vs ((Jb H bw).trans l1) (l1 _ _ hb),o1⟩) fun⟨out,y,d,k,v⟩ H' hQ=> ?_;simp only[cA,nA];obtain⟨hR,hy,hd,hlk,l2,o2⟩:=hQ;obtain⟨lc,qR⟩:=Ah l2;refine d4 ?_;refine d9 ⟨_,_,rfl⟩ ?_;refine d9 (by show(0:Int)<=((y:Nat):Int);omega) ?_;refine i0 (b:=bit til y) (Rm rfl ht rfl (by omega)) (fun h=> ?_) (fun h=> ?_)
 ·skip
  rw[ym h]at hR;exact g8 rfl (by rw[<-hR];exact⟨hd,l2,v,rfl,o2⟩)
 ·skip
  refine As ?_;simp only[cA,nA];refine s6 yk ?_;simp only[cA,nA];refine w9 sc_int rfl rfl qR rfl rfl ?_;simp only[cA,nA];refine d4 ?_;refine r9 (p:=(k=0)) (bE0 _) (fun hk=> ?_) fun hk=> ?_
  ·subst hk;rw[LY (by simpa using h)]at hR;exact g8 rfl (by rw[<-hR];exact⟨lc,by decide,_,rfl⟩)
  ·obtain⟨k,rfl⟩:∃j,k=j+1:=⟨k-1,by omega⟩;refine As ?_;simp only[cA,nA];refine s6 yk ?_;simp only[cA,nA];refine w9 sc_int rfl rfl qR rfl rfl ?_;simp only[cA,nA];refine d4 ?_;refine As ?_;simp only[cA,nA];refine s6 yk ?_;simp only[cA,nA];refine Oq (u:=ii (k:Nat)) sc_int rfl rfl rfl qR (by show 4<5;omega) rfl rfl (j4 rfl (Ou rfl (by omega))) (fun h=>(nomatch h)) ?_;simp only[cA,nA];have l3:PH.le (H.put bw (WkO d n w set k)) (H'.put bw (WkO d n w set k)):=Si l2 (PH.le.refl _);have o3:OI H (H'.put bw (WkO d n w set k)) v (out.map fun y:Nat=>(y:Int)):=SO.kp yC o2 (PH.le.refl _);show den prog _ _ _ _ (H'.put bw (WkO d n w set k));generalize hH3:H'.put bw (WkO d n w set k)=H3 at l3 o3⊢;obtain⟨lc3,uC⟩:=Ah l3;have vD:=c7S (H:=H3) (bw:=bw) (x:=y);refine i6 (vD) rfl ?_;rintro f H4 ⟨b,j,tL,rfl,xH,rfl⟩;refine nmI ?_;simp only[cA,nA];refine i6 (c7U (L:=(nbl es set y).map fun y:Nat=>(y:Int)) (b9l tL uC (hw.mono lc3) hg qK hs (hT.mono lc3)) c2N xH (PH.le.refl _) (by rw[aR];have:=LZ es set y;omega)) rfl ?_;rintro v5 H5 ⟨l5,o5⟩;refine nmI ?_;simp only[cA,nA];have vE:=l5 _ _ uC;have h3n:H3 bw≠none:=by rw[uC];exact fun h=>nomatch h
   have o5':SI (j1 H5 bw) v5 ((nbl es set y).map fun y:Nat=>(y:Int)):=SO.se (H0:=H3) (o5.tr fun g ob h3 h4=>⟨h3,by unfold j1;rw[if_neg (fun e=>by subst e;exact h3n h3)];exact h4⟩);refine i6 (c7X vE hd o5' (LZ es set y)) rfl ?_;rintro r6 H6 ⟨rfl,l6⟩;refine nmI ?_;simp only[cA,nA];have l6':=Si (l3.trans l5) l6;have o6:=SO.kp yC (o3.mono l5) l6;refine i8 (i8 (d4 ?_));refine r9 (p:=((j9 d (nbl es set y).length).2.2≠0)) (bN0 _) (fun h5=> ?_) fun h5=> ?_
   ·rw[show Dj es set til (k+1) out y d= .inl (j9 d (nbl es set y).length).2.2 by simp only[Dj,h,if_neg h5];rfl]at hR;exact g8 rfl (by rw[<-hR];exact⟨(Ah l6').1,h5,_,rfl⟩)
   ·have h0:(j9 d (nbl es set y).length).2.2=0:=by omega
    rw[if_pos h0];have qS:(nbl es set y).getD (j9 d (nbl es set y).length).1 0<n:=by
     rw[aB,List.getElem?_eq_getElem (Na h0)];exact MA hg qK hs (List.getElem_mem _)
    refine Iz el_int rfl rfl rfl (fun _=>rfl) (fun _=>rfl) l6' (SO.base (WkO (j9 d (nbl es set y).length).2.1 n w set k) yC o6) (by rw[aR];omega) rfl (fun _=>rfl) rfl fun p7 v7 H7 l7 o7=> ?_;simp only[cA,nA];have ho7:=SO.unbase o7;exact⟨(out++[(nbl es set y).getD (j9 d (nbl es set y).length).1 0],(nbl es set y).getD (j9 d (nbl es set y).length).1 0,(j9 d (nbl es set y).length).2.1,k,v7),by show k<k+1;omega,(Ot rfl rfl rfl rfl),⟨by rw[<-hR];simp only[Dj,h,if_pos h0];rfl,qS,Vr _ _,by show(out++[_]).length+k<=10001;rw[List.length_append];simp only[List.length_cons,List.length_nil];omega,l7,by rw[List.map_append];exact ho7⟩⟩
end
end Go.Proofs.Z
/- MADE BY rxgen.py (mkGT.py): trees of chapter 32. -/
namespace Go.Proofs.Z
open Go.Proofs.Tryz
open Go.RowKit Go.RX
set_option maxRecDepth 100000
theorem c2Q:tree prog [] [] [] [] 139=some (.ri V1
(.ru V0
(.rq (.nn (.cv .u64 V1)) (.ret [(.uo .eql (.uo .and (.uo .shr V0 (.cv .u64 V1)) (kU 1)) (kU 1))])))):=by kernel_rfl
theorem c2R:tree prog [] [] [] [] 40=some (.ri V0
(.rq (.nn (.cv .u64 V0)) (.ret [(.uo .shl (kU 1) (.cv .u64 V0))]))):=by kernel_rfl
theorem c2S:tree prog [] [] [⟨0,3,[],[]⟩] [] 141=some (.loop [(.ki 0),(.ki 0)]
(.ri V2
(.br (.io .lss V2 (.ki 64)) (.call false 139 [V0,V2]
(.rq (.bool V3) (.br V3
(.ri V1
(.next 0 [(.io .add V1 (.ki 1)),(.io .add V2 (.ki 1))])) (.next 0 [V1,(.io .add V2 (.ki 1))])))) (.ret [V1])))):=by kernel_rfl
theorem c2T:tree prog [] [] [⟨0,3,[],[]⟩,⟨0,5,[],[]⟩] [⟨7,[0,1,0,7,15,31,0,64,0,448,960,1984,63,8191],[0,5,0,1,1,1,0,5,0,1,1,1,0,0],[0,0,0,0,0,0,0,0,0,0,0,0,0,0],[0,1,2,3,4,5,6,7,8,9,10,11,12,13],[]⟩] 140=some (.rq (.cells 2 V0) (.call false 40 [V2]
(.pm f140 2 2 [(.cell V0 1 0 noI)]
(.loop [V4,(.ki 0)]
(.ri V7
(.ri V5
(.br (.io .lss V7 V5) (.loop [V6,(.ki 0)]
(.pm f140 5 3 [(.cell V0 1 0 noI)]
(.ri V9
(.ri V10
(.br (.io .lss V9 V10)
(.pm f140 7 3 [(.cell V0 1 0 noI),V9]
(.pm f140 7 4 [V11,(.ki 0)]
(.pm f140 7 5 [V12]
(.pm f140 7 9 [(.cell V0 1 0 noI),V9]
(.pm f140 7 10 [V14,(.ki 1)]
(.pm f140 7 11 [V15]
(.ri V3
(.br (.io .neq V9 V3) (.call false 139 [V1,V13]
(.rq (.bool V17) (.br V17
(.call false 139 [V1,V16]
(.rq (.bool V18) (.br V18
(.call false 139 [V8,V13]
(.rq (.bool V19) (.br V19
(.call false 40 [V13]
(.ru V8
(.ru V20
(.call false 40 [V16]
(.ru V21
(.next 1 [(.uo .or (.uo .or V8 V20) V21),(.io .add V9 (.ki 1))])))))) (.call false 139 [V8,V16]
(.rq (.bool V20) (.br V20
(.call false 40 [V13]
(.ru V8
(.ru V21
(.call false 40 [V16]
(.ru V22
(.next 1 [(.uo .or (.uo .or V8 V21) V22),(.io .add V9 (.ki 1))])))))) (.next 1 [V8,(.io .add V9 (.ki 1))]))))))) (.next 1 [V8,(.io .add V9 (.ki 1))])))) (.next 1 [V8,(.io .add V9 (.ki 1))])))) (.next 1 [V8,(.io .add V9 (.ki 1))]))))))))) (.next 0 [V8,(.io .add V7 (.ki 1))])))))) (.ret [V6])))))))):=by kernel_rfl
theorem c2U:tree prog [] [] [⟨0,4,[],[]⟩] [] 85=some (.rq (.cells 2 V0) (.loop [(.k (.slice none 0 0)),(kU 0),(.ki 0)]
(.ri V4
(.rq (.int .i64 (.cell V0 0 0 noI)) (.br (.io .lss V4 (.cell V0 0 0 noI)) (.call false 139 [V1,V4]
(.rq (.bool V5) (.br V5
(.call false 139 [V3,V4]
(.rq (.bool V6) (.br (.nt V6) (.call false 140 [(.ag V0),V1,V4,(kI (-1))]
(.ef false f85 8 2 [V7]
(.ef false f85 8 3 [V2,V8]
(.ru V3
(.ru V7
(.next 0 [V9,(.uo .or V3 V7),(.io .add V4 (.ki 1))])))))) (.next 0 [V2,V3,(.io .add V4 (.ki 1))])))) (.next 0 [V2,V3,(.io .add V4 (.ki 1))])))) (.ret [V2])))))):=by kernel_rfl
theorem c2V:tree prog [] [] [] [] 41=some (.rq (.cells 2 V0) (.call false 85 [(.ag V0),V1]
(.pm f41 1 3 [V2]
(.ri V3
(.ret [(.io .eql V3 (.ki 1))]))))):=by kernel_rfl
@[reducible] def z7_:SV:= .io .add (.ki 1) (.cv .i64 (.op2 .rem .u8 (.cell V0 0 0 noI) (kB 4)))
@[reducible] def z8_:SV:= .io .rem (.cv .i64 V17) (.cell V8 0 0 noI)
@[reducible] def z9_:SV:= .io .rem (.cv .i64 V20) (.cell V8 0 0 noI)
theorem c2W:tree prog [] [] [⟨3,10,[9],[]⟩,⟨2,58,[6,9],[]⟩,⟨3,12,[72],[]⟩,⟨2,72,[9],[]⟩,⟨3,16,[83],[]⟩,⟨3,19,[9],[]⟩,⟨0,5,[],[0,1,2]⟩,⟨0,8,[],[2]⟩,⟨0,16,[],[]⟩] [⟨1,[0,1,3,7,15,0,32,96,224,480,31,2047],[0,5,0,0,0,0,5,0,0,0,0,0],[0,0,0,0,0,0,0,0,0,0,0,0],[0,1,2,3,4,5,6,7,8,9,10,11],[]⟩,⟨18,[0,1,0,7,15,31,63,0,128,511,0,1024,0,7168,15360,31744,64512,0,131072,523264,1023,2097151],[0,5,0,1,1,1,0,0,5,0,0,5,0,1,1,1,0,0,5,0,0,0],[0,0,0,0,0,0,0,0,2,0,0,0,0,0,0,0,0,0,2,0,0,0],[0,1,2,3,4,5,6,7,8,9,10,11,12,13,14,15,16,17,18,19,20,21],[]⟩] 39=some (.rq (.cells 4 V0) (.rq (.int .u8 (.cell V0 0 0 noI)) (.rq (.int .u8 (.cell V0 1 0 noI)) (.loop [(.ki 0),(.ki 0),V0,(.z 37),(.cat (.io .mul z7_ (.io .add (.ki 1) (.cv .i64 (.op2 .rem .u8 (.cell V0 1 0 noI) (kB 3))))) 1 (.z 35))]
(.ri V2
(.rq (.int .i64 (.cell V5 0 0 noI)) (.br (.io .lss V2 (.cell V5 0 0 noI)) (.loop [V1,(.io .add V2 (.ki 1)),V5]
(.ri V7
(.rq (.int .i64 (.cell V8 0 0 noI)) (.br (.io .lss V7 (.cell V8 0 0 noI)) (.join 1
(.br (.io .eql V7 (.io .add V2 z7_)) (.next 2 [(.k (.bool true))]) (.br (.io .eql V7 (.io .add V2 (.ki 1))) (.rq (.nz z7_) (.next 2 [(.io .neq (.io .rem V7 z7_) (.ki 0))])) (.next 2 [(.k (.bool false))]))) (.join 2
(.rq (.bool V9) (.br V9
(.join 1
(.ri V6
(.br (.io .eql (.io .rem V6 (.ki 2)) (.ki 1)) (.rq (.int .u16 (.cell V3 2 0 noI)) (.rq (.nn (.cv .u64 (.io .rem (.io .quo V6 (.ki 2)) (.ki 16)))) (.next 3 [(.op2 .eql .u16 (.op2 .and .u16 (.op2 .shr .u16 (.cell V3 2 0 noI) (.cv .u64 (.io .rem (.io .quo V6 (.ki 2)) (.ki 16)))) (.k (.int .u16 (1)))) (.k (.int .u16 (1))))]))) (.next 3 [(.k (.bool false))]))) (.join 1
(.rq (.bool V10) (.br V10
(.next 3 [(.k (.bool false))]) (.next 3 [V9])))
(.ri V6
(.next 2 [(.io .add V6 (.ki 1)),V11])))) (.next 2 [V6,V9]))) (.loop [V11,(.ki 0)]
(.join 1
(.pm f39 16 3 [(.cell V3 3 0 noI)]
(.ri V13
(.ri V14
(.br (.io .lss V13 V14) (.next 3 [(.io .lss V13 (.ki 3))]) (.next 3 [(.k (.bool false))]))))) (.rq (.bool V14) (.br V14
(.pm f39 18 3 [(.cell V3 3 0 noI),V13]
(.pm f39 18 4 [V15,(.ki 0)]
(.pm f39 18 5 [V16]
(.rq (.int .u8 V17) (.rq (.nz (.cell V8 0 0 noI))
(.pm f39 18 13 [(.cell V3 3 0 noI),V13]
(.pm f39 18 14 [V18,(.ki 1)]
(.pm f39 18 15 [V19]
(.rq (.int .u8 V20) (.join 1
(.rq (.bool V12) (.br V12
(.next 3 [(.k (.bool true))]) (.br (.io .eql z8_ V2) (.br (.io .eql z9_ V7) (.next 3 [(.k (.bool true))]) (.br (.io .eql z8_ V7) (.next 3 [(.io .eql z9_ V2)]) (.next 3 [(.k (.bool false))]))) (.br (.io .eql z8_ V7) (.next 3 [(.io .eql z9_ V2)]) (.next 3 [(.k (.bool false))])))))
(.ri V13
(.next 2 [V21,(.io .add V13 (.ki 1))])))))))))))) (.rq (.bool V12) (.br V12
(.rq (.cells 1 V2) (.rq (.cells 1 V7)
(.ef false f39 21 5 [(.put (.put (.z 99) 0 1 V2 0 noI) 1 1 V7 0 noI)]
(.ef false f39 21 6 [(.cell V8 1 0 noI),V15]
(.rq (.cells 1 V16) (.next 1 [V10,(.io .add V7 (.ki 1)),(.cat (.sub V8 0 1 0 noI) 1 V16)])))))) (.next 1 [V10,(.io .add V7 (.ki 1)),V8]))))))))) (.next 0 [V6,(.io .add V2 (.ki 1)),V3,V4,V8]))))) (.ret [(.ag V5)])))))))):=by kernel_rfl
theorem c2X:tree prog [] [] [⟨0,4,[],[]⟩] [⟨6,[0,0,3,7,0,0,48,112,255],[0,0,1,1,0,0,1,1,0],[0,0,0,0,0,0,0,0,0],[0,1,2,3,4,5,6,7,8],[]⟩] 57=some (.pm f57 1 1 [V0]
(.pm f57 1 3 [V1]
(.ri V2
(.ri V3
(.br (.io .neq V2 V3) (.ret [(.k (.bool false))]) (.loop [(.k (.bool false)),(.ki 0)]
(.pm f57 4 2 [V0]
(.ri V5
(.ri V6
(.br (.io .lss V5 V6)
(.pm f57 6 2 [V0,V5]
(.pm f57 6 3 [V7]
(.pm f57 6 6 [V1,V5]
(.pm f57 6 7 [V9]
(.ri V8
(.ri V10
(.br (.io .neq V8 V10) (.ret [(.k (.bool false))]) (.next 0 [V4,(.io .add V5 (.ki 1))])))))))) (.ret [(.k (.bool true))]))))))))))):=by kernel_rfl
theorem c2Y:tree prog [] [] [] [] 142=some (.rq (.cells 2 V0)
(.ri V2
(.br (.io .geq V2 (.ki 0))
(.pm f142 1 6 [(.cell V0 1 0 noI)]
(.ri V3
(.br (.io .lss V2 V3)
(.pm f142 1 14 [(.cell V0 1 0 noI),V2]
(.pm f142 1 15 [V4,(.ki 0)]
(.pm f142 1 16 [V5]
(.call false 139 [V1,V6]
(.rq (.bool V7) (.br V7
(.pm f142 1 24 [(.cell V0 1 0 noI),V2]
(.pm f142 1 25 [V8,(.ki 1)]
(.pm f142 1 26 [V9]
(.call false 139 [V1,V10]
(.ret [V11]))))) (.ret [(.k (.bool false))]))))))) (.ret [(.k (.bool false))])))) (.ret [(.k (.bool false))])))):=by kernel_rfl
theorem c2Z:tree prog [] [] [⟨0,3,[],[]⟩,⟨0,6,[],[]⟩] [⟨8,[0,1,0,0,12,28,63,127,255,0,512,0,0,6144,14336,32256,65024,130560,511,524287],[0,5,0,0,1,1,1,1,1,0,5,0,0,1,1,1,1,1,0,0],[0,0,0,0,0,0,0,0,0,0,0,0,0,0,0,0,0,0,0,0],[0,1,2,3,4,5,6,7,8,9,10,11,12,13,14,15,16,17,18,19],[]⟩] 143=some (.rq (.cells 2 V0) (.call false 40 [V2]
(.loop [V3,(.ki 0)]
(.ri V5
(.br (.io .lss V5 (.ki 64)) (.loop [V4,(.ki 0)]
(.pm f143 6 2 [V1]
(.ri V7
(.ri V8
(.br (.io .lss V7 V8)
(.pm f143 8 4 [V1,V7]
(.pm f143 8 5 [V9]
(.pm f143 8 6 [(.cell V0 1 0 noI),V10]
(.pm f143 8 7 [V11,(.ki 0)]
(.pm f143 8 8 [V12]
(.pm f143 8 13 [V1,V7]
(.pm f143 8 14 [V14]
(.pm f143 8 15 [(.cell V0 1 0 noI),V15]
(.pm f143 8 16 [V16,(.ki 1)]
(.pm f143 8 17 [V17]
(.call false 139 [V6,V13]
(.rq (.bool V19) (.br V19
(.call false 40 [V13]
(.ru V6
(.ru V20
(.call false 40 [V18]
(.ru V21
(.next 1 [(.uo .or (.uo .or V6 V20) V21),(.io .add V7 (.ki 1))])))))) (.call false 139 [V6,V18]
(.rq (.bool V20) (.br V20
(.call false 40 [V13]
(.ru V6
(.ru V21
(.call false 40 [V18]
(.ru V22
(.next 1 [(.uo .or (.uo .or V6 V21) V22),(.io .add V7 (.ki 1))])))))) (.next 1 [V6,(.io .add V7 (.ki 1))]))))))))))))))))) (.next 0 [V6,(.io .add V5 (.ki 1))])))))) (.ret [V4])))))):=by kernel_rfl
theorem c3a:tree prog [64,68,999998] [] [⟨0,8,[],[]⟩] [⟨10,[0,0,0,7,15,31,63,63,63,319,63,1855,3903,7999,16383,63,32831,63,229439,491583,1015871,2097151,4194303],[5,0,0,2,0,0,5,0,0,5,0,1,1,1,2,0,5,0,1,1,1,8,0],[0,0,0,0,0,0,0,0,0,0,0,0,0,0,0,0,0,0,0,0,0,0,0],[0,1,2,3,4,5,6,7,8,9,10,11,12,13,15,16,17,18,19,20,14],[21,22]⟩,⟨11,[0,0,0,0,0,24,0,64,248,510,1023,2047],[0,5,0,3,0,2,0,3,8,8,8,0],[0,0,0,0,0,0,0,0,0,0,0,0],[0,1,2,4,6,3,5,7],[8,9,10,11]⟩] 86=some (.rq (.cells 2 V0)
(.pm f86 1 1 [V2]
(.call false 141 [V1]
(.ri V4
(.ri V3
(.br (.io .eql V3 (.io .sub V4 (.ki 1)))
(.ef false f86 2 0 []
(.ef false f86 2 2 [V5,V2]
(.ef false f86 2 3 [V6]
(.ret [V7]))))
(.pm f86 4 1 [V2]
(.ri V5
(.br (.io .gtr V5 (.ki 0))
(.pm f86 5 2 [V2]
(.ri V6
(.pm f86 5 4 [V2,(.io .sub V6 (.ki 1))]
(.pm f86 5 5 [V7]
(.ri V8
(.loop [(.k (.slice none 0 0)),(.io .add V8 (.ki 1))]
(.pm f86 8 3 [(.cell V0 1 0 noI)]
(.ri V10
(.ri V11
(.br (.io .lss V10 V11) (.call true 142 [(.ag V0),V1,V10]
(.rq (.bool V12) (.br (.nt V12) (.next 0 [V9,(.io .add V10 (.ki 1))])
(.pm f86 10 11 [(.cell V0 1 0 noI),V10]
(.pm f86 10 12 [V13,(.ki 0)]
(.pm f86 10 13 [V14]
(.pm f86 10 18 [(.cell V0 1 0 noI),V10]
(.pm f86 10 19 [V16,(.ki 1)]
(.pm f86 10 20 [V17]
(.call true 143 [(.ag V0),V2,V15]
(.call false 139 [V19,V18]
(.rq (.bool V20) (.br V20
(.next 0 [V9,(.io .add V10 (.ki 1))])
(.mq f86 11 3 []
(.ef true f86 11 5 [V21,V2]
(.mq f86 11 7 [V10]
(.ef false f86 11 8 [V22,V23]
(.call false 86 [(.ag V0),V1,V24]
(.ef false f86 11 10 [V9,V25]
(.next 0 [V26,(.io .add V10 (.ki 1))])))))))))))))))))))) (.ret [V9]))))))))))) (.loop [(.k (.slice none 0 0)),(.ki 0)]
(.pm f86 8 3 [(.cell V0 1 0 noI)]
(.ri V7
(.ri V8
(.br (.io .lss V7 V8) (.call true 142 [(.ag V0),V1,V7]
(.rq (.bool V9) (.br (.nt V9) (.next 0 [V6,(.io .add V7 (.ki 1))])
(.pm f86 10 11 [(.cell V0 1 0 noI),V7]
(.pm f86 10 12 [V10,(.ki 0)]
(.pm f86 10 13 [V11]
(.pm f86 10 18 [(.cell V0 1 0 noI),V7]
(.pm f86 10 19 [V13,(.ki 1)]
(.pm f86 10 20 [V14]
(.call true 143 [(.ag V0),V2,V12]
(.call false 139 [V16,V15]
(.rq (.bool V17) (.br V17
(.next 0 [V6,(.io .add V7 (.ki 1))])
(.mq f86 11 3 []
(.ef true f86 11 5 [V18,V2]
(.mq f86 11 7 [V7]
(.ef false f86 11 8 [V19,V20]
(.call false 86 [(.ag V0),V1,V21]
(.ef false f86 11 10 [V6,V22]
(.next 0 [V23,(.io .add V7 (.ki 1))])))))))))))))))))))) (.ret [V6]))))))))))))))):=by kernel_rfl
theorem c3b:tree prog [] [] [] [] 42=some (.rq (.cells 2 V0) (.call false 86 [(.ag V0),V1,(.k (.slice none 0 0))]
(.ret [V2]))):=by kernel_rfl
end Go.Proofs.Z

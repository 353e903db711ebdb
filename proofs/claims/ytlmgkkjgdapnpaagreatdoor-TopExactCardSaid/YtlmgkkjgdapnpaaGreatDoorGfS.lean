/- Enumeration: all plans. -/
import Derived.Test.YtlmgkkjgdapnpaaGreatDoorGeC
import Derived.Ground.NamesProg
import Derived.Shelf.Strings.SlTrimAscii
import Derived.Test.YtlmgkkjgdapnpaaGreatDoorProg
namespace Go.GS
theorem c0t {cs:List Nat} {v l n:Nat} (h:∀c∈cs,c<2^n) (hv:v<n):∀c∈a2Z cs v l,c<2^n:=by
 have hp:2^v<2^n:=Nat.pow_lt_pow_right (by decide) hv
 intro c hc
 unfold a2Z at hc
 split at hc
 ·rename_i hl
  obtain⟨j,hj⟩:=List.getElem?_of_mem hc
  rw[List.getElem?_modify]at hj
  cases e:cs[j]? with
  |none=>rw[e]at hj;cases hj
  |some d=>
   rw[e]at hj
   have hd:=h d (List.mem_of_getElem? e)
   simp only[Functor.map,Option.map_some,Option.some.injEq]at hj
   subst hj
   split
   ·exact Nat.or_lt_two_pow hd hp
   ·exact hd
 ·rcases List.mem_append.1 hc with hc|hc
  ·exact h c hc
  ·rw[List.mem_singleton.1 hc];exact hp
theorem d4V {ft:Nat->Bool} {n k i:Nat}:∀v,v<=n->(∀c∈(stN ft n k i v).2.1,c<2^n)/\(stN ft n k i v).2.1.length<=v:=by
 intro v
 induction v with
 |zero=>intro _;exact⟨(fun c h=>nomatch h),Nat.le_refl _⟩
 |succ v ih=>
  intro hv
  obtain⟨h1,h2⟩:=ih (by omega)
  refine⟨c0t h1 (by omega),?_⟩
  show(a2Z _ _ _).length<=_
  rw[a2M]
  split<;>omega
def b1T (ft:Nat->Bool) (n k i:Nat):List Int:=(b9H ft n k i).map fun x:Nat=>(x:Int)
def a3j (ft:Nat->Bool) (n k:Nat):Nat:=a2L ft [] (a1r n 0) k
theorem b1U {ft:Nat->Bool} {n k:Nat} (hn:n<=6) (hk:k<=8):a3j ft n k<=400:=by
 have h:a3j ft n k<=a4C (fun _=>true) k (a1r n 0):=b9I (fun _ _=>rfl) k _
 refine Nat.le_trans h ?_
 have:∀n,n<7->∀k,k<9->a4C (fun _=>true) k (a1r n 0)<=400:=by decide+kernel
 exact this n (by omega) k (by omega)
end Go.GS
namespace Go.Proofs.YtlmgkkjgdapnpaaGreatDoor
open Go.Proofs.Tryz
open Go.RowKit Go.RX Go.GS
set_option maxRecDepth 100000
section
variable {B H:PH} {n:Nat} {ft:Nat->Bool} {q pm pF pd:Nat} {m:Value}
theorem Fld.mono {B':PH} (h:Fld B n ft q pm pF pd m) (hl:PH.le B B'):Fld B' n ft q pm pF pd m:=by
 obtain⟨h1,⟨w,T,h2,h3⟩,⟨T1,h4⟩,⟨T2,h5⟩,⟨T3,h6⟩⟩:=h
 exact⟨h1,⟨w,T,hl _ _ h2,h3.mono hl⟩,⟨T1,hl _ _ h4⟩,⟨T2,hl _ _ h5⟩,⟨T3,hl _ _ h6⟩⟩
theorem Mem.less {B':PH} (h:Mem B' H ft m) (hl:PH.le B B'):Mem B H ft m:=by
 obtain⟨h1,L,⟨r,es,c,h2,h3,h4⟩,h5⟩:=h
 refine⟨hl.trans h1,L,⟨r,es,c,h2,?_,h4⟩,h5⟩
 cases e:B r with
 |none=>rfl
 |some o=>rw[hl _ _ e]at h3;cases h3
theorem Mem.base {X:PH} {e:TypeId} (h:Mem B H ft m) (hX:PH.le B X) (hk:∀k,(∀cs,H k≠some (.cells cs e (0,0)))->X k=H k):Mem B X ft m:=by
 obtain⟨h1,L,⟨r,es,c,h2,h3,h4,h6⟩,h5⟩:=h
 exact⟨hX,L,⟨r,es,c,h2,h3,by rw[hk r (fun cs e=>by rw[h4]at e;cases e)];exact h4,h6⟩,h5⟩
theorem Mem.cut (h:Mem B H ft m):∃r,B r=none/\(∀cs T fz,H r≠some (.cells cs T fz))/\Mem (H.cut r) H ft m/\PH.le B (H.cut r):=by
 obtain⟨h1,L,⟨r,es,c,h2,h3,h4,h6⟩,h5⟩:=h
 exact⟨r,h3,(fun cs T fz e=>by rw[h4]at e;cases e),⟨PH.cut_le _ _,L,⟨r,es,c,h2,PH.cut_self _ _,h4,h6⟩,h5⟩,PH.le_cut h1 h3⟩
theorem c5X (hF:Fld B n ft q pm pF pd m) (hM:Mem B H ft m) {k:Nat} (hk:k<=8):Con prog 29 [pt q,ii (k:Nat)] H fun r H'=>r=ii ((a3j ft n k:Nat):Int)/\Mem B H' ft m:=by
 refine a0b mixed d0K (by kernel_rfl) rfl ?_
 obtain⟨w,Tq,hq,hw⟩:=hF.fld
 have hn:=hF.n6
 refine a0u (ad:=⟨q,0,none⟩) rfl rfl rfl ?_
 simp only[cA,nA]
 refine a0i c5N rfl rfl rfl ?_
 simp only[cA,nA]
 refine a0g b4Q rfl rfl (hM.1 _ _ hq) rfl rfl ?_
 simp only[cA,nA]
 refine a0u (ad:=⟨q,0,none⟩) rfl rfl rfl ?_
 simp only[cA,nA]
 refine a0i d0Z rfl rfl rfl ?_
 simp only[cA,nA]
 refine a0g sc_int rfl rfl (hM.1 _ _ hq) rfl rfl ?_
 simp only[cA,nA]
 refine a0a ⟨_,_,rfl⟩ ?_
 refine a0a (show(0:Int)<=((n:Nat):Int) by omega) ?_
 refine a0n (a0D (f:=83) (caps:= #[pt pd,pt pF]) (vs:=[.slice none 0 0,GS.uv (a1r n 0),ii (k:Nat)]) rfl rfl rfl a8c (b1O hF [] (.slice none 0 0) (a1r n 0) k H (SO.nil B B 57 1 _).se (fun c h=>nomatch h) (by decide) (a6O n 0) hk hM)) (b6Z rfl rfl (a9e (B:=1) (a6C rfl (by omega)) rfl (a2z (by omega)) (Nat.two_pow_pos n)) rfl) ?_
 rintro _ X2 ⟨rfl,hM2⟩
 refine⟨fun h=>(nomatch h),?_⟩
 simp only[cA,nA]
 exact a0c rfl ⟨rfl,hM2⟩
theorem c5Y (hF:Fld B n ft q pm pF pd m) (hM:Mem B H ft m) {k i:Nat} (hk:k<=8) (hi:i<a3j ft n k):Con prog 30 [pt q,ii (k:Nat),ii (i:Nat)] H fun r H'=>Mem B H' ft m/\SO B H' 3 1 (fun z:Int=>[ii z]) r (b1T ft n k i):=by
 refine a0b mixed d0J (by kernel_rfl) rfl ?_
 obtain⟨w,Tq,hq,hw⟩:=id hF.fld
 have hn:=hF.n6
 have hbig:∀cs R,R<2^n->a2L ft cs R k<9223372036854775807:=fun cs R hR=>Nat.lt_of_le_of_lt (b9E cs R k hR) (b9W hn hk)
 have h6:(2:Nat)^n<M64:=a2z (by omega)
 refine a0u (ad:=⟨q,0,none⟩) rfl rfl rfl ?_
 simp only[cA,nA]
 refine a0i d0Z rfl rfl rfl ?_
 simp only[cA,nA]
 refine a0g sc_int rfl rfl (hM.1 _ _ hq) rfl rfl ?_
 simp only[cA,nA]
 refine a0o (α:=Nat×Value×Value) (fun⟨v,vp,vc⟩=>[vp,vc,ii (((stN ft n k i v).2.2:Nat):Int),ii (v:Nat)]) (fun⟨v,vp,vc⟩=>fun H'=>v<=n/\Mem B H' ft m/\SO B H' 3 1 (fun z:Int=>[ii z]) vp ((stN ft n k i v).1.map fun x:Nat=>(x:Int))/\SO B H' 57 1 (fun s:Nat=>[GS.uv s]) vc (stN ft n k i v).2.1) (fun⟨v,vp,vc⟩=>n-v) ((0,.slice none 0 0,.slice none 0 0)) rfl (⟨Nat.zero_le _,hM,SO.nil _ _ _ _ _,SO.nil _ _ _ _ _⟩) fun⟨v,vp,vc⟩ H' hQ=> ?_
 simp only[cA,nA]
 obtain⟨hv,hM1,op,oc⟩:=hQ
 refine a0a ⟨_,rfl⟩ ?_
 refine a0a ⟨_,rfl⟩ ?_
 refine a0f (b:=decide (((v:Nat):Int)<(n:Nat))) rfl (fun hvn=> ?_) (fun hvn=> ?_)
 ·replace hvn:=of_decide_eq_true hvn
  have hvn:v<n:=by omega
  have hst:=c7Y hi v hv
  obtain⟨hcl,hclen⟩:=d4V (ft:=ft) (n:=n) (k:=k) (i:=i) v hv
  have hjb:=Nat.lt_trans hst.cnt (hbig _ _ (a6O n v))
  have hcnt:=hst.cnt
  rw[b0k hvn,b0j _ _ _ (a7Y hvn),List.range_eq_range']at hcnt
  refine a0u (ad:=⟨q,0,none⟩) rfl rfl rfl ?_
  simp only[cA,nA]
  refine a0i d0Z rfl rfl rfl ?_
  simp only[cA,nA]
  refine a0g sc_int rfl rfl (hM1.1 _ _ hq) rfl rfl ?_
  simp only[cA,nA]
  refine a0a ⟨_,_,rfl⟩ ?_
  refine a0a (show(0:Int)<=((n:Nat):Int) by omega) ?_
  have hinc:∀{ρ:List Value} {a:SV},D prog ρ a=ii (v:Nat)->D prog ρ (.op2 .add .i64 a (.k (.int .i64 1)))=ii ((v+1:Nat):Int):=fun h=>a0J h (by omega)
  refine a0a (by show 0<=intOf (D prog _ (.op2 .add .i64 (.v 9) (.k (.int .i64 1))));rw[hinc rfl];show(0:Int)<=((v+1:Nat):Int);omega) ?_
  generalize hc:(fun l=>a2L ft (a2Z (stN ft n k i v).2.1 v l) (a1r n (v+1)) k)=c at hcnt
  have hpe:a4x c ((stN ft n k i v).2.1.length+1) 0 (stN ft n k i v).2.2=((stN ft n k i (v+1)).1.getD v 0,(stN ft n k i (v+1)).2.2):=by
   subst hc
   refine Prod.ext ?_ rfl
   show _=((stN ft n k i v).1++[_]).getD v 0
   rw[List.getD_eq_getElem?_getD,List.getElem?_append_right (by rw[hst.len];exact Nat.le_refl _),hst.len,Nat.sub_self];rfl
  refine a0o (α:=Nat×Nat) (fun⟨l,j⟩=>[vp,vc,ii (j:Nat),ii (l:Nat)]) (fun⟨l,j⟩=>fun H'=>Mem B H' ft m/\SO B H' 3 1 (fun z:Int=>[ii z]) vp ((stN ft n k i v).1.map fun x:Nat=>(x:Int))/\SO B H' 57 1 (fun s:Nat=>[GS.uv s]) vc (stN ft n k i v).2.1/\l<=(stN ft n k i v).2.1.length+1/\j<=(stN ft n k i v).2.2/\j<((List.range' l ((stN ft n k i v).2.1.length+1-l)).map c).sum/\a4x c ((stN ft n k i v).2.1.length+1-l) l j=a4x c ((stN ft n k i v).2.1.length+1) 0 (stN ft n k i v).2.2) (fun⟨l,j⟩=>(stN ft n k i v).2.1.length+1-l) ((0,(stN ft n k i v).2.2)) rfl (⟨hM1,op,oc,Nat.zero_le _,Nat.le_refl _,hcnt,rfl⟩) fun⟨l,j⟩ H2 ⟨hM2,op2,oc2,hl1,hjs,hj,hpk⟩=> ?_
  simp only[cA,nA]
  have hl:l<=(stN ft n k i v).2.1.length:=by
   rcases Nat.lt_or_ge (stN ft n k i v).2.1.length l with h|h
   ·rw[show(stN ft n k i v).2.1.length+1-l=0 by omega]at hj
    simp at hj
   ·exact h
  refine a0d (c5I oc2.se (fun c hc=>Nat.lt_trans (hcl c hc) h6) (by omega) hl (by omega)) rfl ?_
  rintro v17 H3 ⟨l3,s3⟩
  refine⟨fun h=>(nomatch h),?_⟩
  simp only[cA,nA]
  have hM3:=hM2.mono l3
  refine a0u (ad:=⟨q,0,none⟩) rfl rfl rfl ?_
  simp only[cA,nA]
  refine a0i c5N rfl rfl rfl ?_
  simp only[cA,nA]
  refine a0g b4Q rfl rfl (hM3.1 _ _ hq) rfl rfl ?_
  simp only[cA,nA]
  obtain⟨rm,hr0,hr1,hMc,lBc⟩:=hM3.cut
  have hll:(a2Z (stN ft n k i v).2.1 v l).length<=1000:=by rw[a2M];split<;>omega
  refine a0n (a0D (f:=83) (caps:= #[pt pd,pt pF]) (vs:=[v17,GS.uv (a1r n (v+1)),ii (k:Nat)]) rfl rfl rfl a8c (b1O (hF.mono lBc) _ v17 (a1r n (v+1)) k H3 (d1b s3.se hr1) (c0t hcl hvn) hll (a6O n _) hk hMc)) (b6Z rfl rfl (a9e (a6C rfl (by omega)) (a6C (hinc rfl) (by omega)) h6 (Nat.pow_le_pow_right (by decide) hvn)) rfl) ?_
  rintro _ H4 ⟨rfl,hM4⟩
  refine⟨fun h=>(nomatch h),?_⟩
  simp only[cA,nA]
  have hM5:=hM4.less lBc
  have op4:=(a3A (op2.mono l3) hr1).mono hM4.1
  have oc4:=(a3A (oc2.mono l3) hr1).mono hM4.1
  have o17:=(a3A (s3.less hM2.1) hr1).mono hM4.1
  have hcv:a2L ft (a2Z (stN ft n k i v).2.1 v l) (a1r n (v+1)) k=c l:=by rw[<-hc]
  have hcb:=hbig (a2Z (stN ft n k i v).2.1 v l) (a1r n (v+1)) (a6O n _)
  rw[hcv]at hcb⊢
  rw[show(stN ft n k i v).2.1.length+1-l=(stN ft n k i v).2.1.length-l+1 by omega,List.range'_succ,List.map_cons,List.sum_cons]at hj
  rw[show(stN ft n k i v).2.1.length+1-l=(stN ft n k i v).2.1.length-l+1 by omega]at hpk
  rw[b6w c ((stN ft n k i v).2.1.length-l) l j]at hpk
  refine a0a ⟨_,rfl⟩ ?_
  refine a0a ⟨_,rfl⟩ ?_
  refine a0f (b:=decide (((j:Nat):Int)<((c l:Nat):Int))) rfl (fun hjc=> ?_) (fun hjc=> ?_)
  ·replace hjc:=of_decide_eq_true hjc
   rw[if_pos (show j<c l by omega),<-hc]at hpk
   obtain⟨X,lBX,lXH,oX,hXk⟩:=a2C op4 hM5.1
   have hlp:(stN ft n k i v).1.length=v:=hst.len
   refine a0P a0S rfl rfl rfl (fun _=>rfl) (fun _=>rfl) lXH oX (by rw[List.length_map];omega) rfl (fun _=>rfl) rfl fun pp v23 H6 l6 o6=> ?_
   simp only[cA,nA]
   have hs1:(stN ft n k i (v+1)).1.map (fun x:Nat=>(x:Int))=(stN ft n k i v).1.map (fun x:Nat=>(x:Int))++[((l:Nat):Int)]:=by
    show((stN ft n k i v).1++[_]).map _=_
    rw[List.map_append,<-hpk];rfl
   have hs2:(stN ft n k i (v+1)).2.1=a2Z (stN ft n k i v).2.1 v l:=by
    show a2Z _ _ _=_
    rw[<-hpk]
   have hs3:(stN ft n k i (v+1)).2.2=j:=by
    show(a4x _ _ _ _).2=_
    rw[<-hpk]
   exact⟨(v+1,v23,v17),by show n-(v+1)<n-v;omega,(b6Z rfl rfl (by show ii ((j:Nat):Int)=ii (((stN ft n k i (v+1)).2.2:Nat):Int);rw[hs3]) (hinc rfl)),⟨(by show v+1<=n;omega),(hM5.base lBX hXk).mono l6,(by show SO B H6 _ _ _ _ ((stN ft n k i (v+1)).1.map _);rw[hs1];exact o6.less lBX),(by show SO B H6 _ _ _ _ (stN ft n k i (v+1)).2.1;rw[hs2];exact(a2P o17 hXk (by decide)).mono l6)⟩⟩
  ·replace hjc:=of_decide_eq_false hjc
   rw[if_neg (show ¬j<c l by omega)]at hpk
   refine a0a ⟨_,rfl⟩ ?_
   exact⟨(l+1,j-c l),by show(stN ft n k i v).2.1.length+1-(l+1)<(stN ft n k i v).2.1.length+1-l;omega,(b6Z rfl rfl (by rw[a7R (x:=((j:Nat):Int)) (y:=((c l:Nat):Int)) rfl rfl (by omega) (by omega)];show ii _=ii _;congr 1;show _=((j-c l:Nat):Int);omega) (a0J rfl (by omega))),⟨hM5,op4,oc4,(by show l+1<=_;omega),(by show j-c l<=_;omega),(by show j-c l<((List.range' (l+1) ((stN ft n k i v).2.1.length+1-(l+1))).map c).sum;rw[show(stN ft n k i v).2.1.length+1-(l+1)=(stN ft n k i v).2.1.length-l by omega];omega),(by show a4x c ((stN ft n k i v).2.1.length+1-(l+1)) (l+1) (j-c l)=_;rw[show(stN ft n k i v).2.1.length+1-(l+1)=(stN ft n k i v).2.1.length-l by omega];exact hpk)⟩⟩
 ·replace hvn:=of_decide_eq_false hvn
  obtain rfl:v=n:=by omega
  exact a0c rfl ⟨hM1,op⟩
end
section
variable {H:PH} {w wts:Value} {wl:List Int} {n:Nat} {es:List (Nat×Nat)} {lo hi:Int}
theorem b4S {k:Nat} (hT:Tb H) (hw:SG H w es) (hg:GV n es) (hn:n<=6) (hwt:SI H wts wl) (hb:d4U n wl lo hi (k:Nat)):Con prog 7 [gv n w,bv wts lo hi (k:Nat)] H fun r H'=>PH.le H H'/\∃v m,r= .tuple #[v,ii 0]/\SE H' 1 (fun s:Slc=>[vs s]) v m/\m.length=a3j (alB es wl lo hi) n k/\∀(i:Nat) (s:Slc),m[i]? =some s->SI H' (vs s) (b1T (alB es wl lo hi) n k i):=by
 refine a0b mixed d0L (by kernel_rfl) rfl ?_
 have hk8:k<=8:=by have:=hb.d8;omega
 have h4:=b1U (ft:=alB es wl lo hi) hn hk8
 refine a0a (a2e hw) ?_
 refine a0a (a9h (a0I hwt) _ _ _) ?_
 refine a0d (c5W hT hw hg hn hwt hb) rfl ?_
 rintro _ H1 ⟨B,q,pm,pF,pd,m,rfl,lB,hF,hM⟩
 refine⟨fun h=>(nomatch h),?_⟩
 simp only[cA,nA]
 refine a0a ⟨_,rfl,by simp⟩ ?_
 refine a0a ⟨_,rfl,by simp⟩ ?_
 refine a0a ⟨_,rfl⟩ ?_
 refine a0e (bF (p:=(0:Int)≠0) (by simp)) ?_
 refine a0d (c5X hF hM hk8) rfl ?_
 rintro _ H2 ⟨rfl,hM2⟩
 refine⟨fun h=>(nomatch h),?_⟩
 simp only[cA,nA]
 refine a0a ⟨_,rfl⟩ ?_
 refine a0e (bF (p:=((a3j (alB es wl lo hi) n k:Nat):Int)>400) (by omega)) ?_
 refine a0o (α:=Nat×List Slc×Value) (fun⟨i,l,v⟩=>[v,ii (i:Nat)]) (fun⟨i,l,v⟩=>fun H'=>i<=a3j (alB es wl lo hi) n k/\l.length=i/\Mem B H' (alB es wl lo hi) m/\SO B H' 39 1 (fun s:Slc=>[vs s]) v l/\∀(j:Nat) (s:Slc),l[j]? =some s->SO B H' 3 1 (fun z:Int=>[ii z]) (vs s) (b1T (alB es wl lo hi) n k j)) (fun⟨i,l,v⟩=>a3j (alB es wl lo hi) n k-i) ((0,[],.slice none 0 0)) rfl (⟨Nat.zero_le _,rfl,hM2,SO.nil _ _ _ _ _,(fun j s h=>nomatch h)⟩) fun⟨i,l,v⟩ H' hQ=> ?_
 simp only[cA,nA]
 obtain⟨hik,hl,hM3,o3,hs3⟩:=hQ
 refine a0a ⟨_,rfl⟩ ?_
 refine a0f (b:=decide (((i:Nat):Int)<((a3j (alB es wl lo hi) n k:Nat):Int))) rfl (fun hin=> ?_) (fun hin=> ?_)
 ·replace hin:=of_decide_eq_true hin
  obtain⟨rm,hr0,hr1,hMc,lBc⟩:=hM3.cut
  refine a0d (c5Y (hF.mono lBc) hMc hk8 (show i<a3j (alB es wl lo hi) n k by omega)) rfl ?_
  rintro v6 H4 ⟨hM4,s4⟩
  refine⟨fun h=>(nomatch h),?_⟩
  simp only[cA,nA]
  obtain⟨s,rfl⟩:=a6v s4.se
  have hM5:=hM4.less lBc
  have o4:=(a3A o3 hr1).mono hM4.1
  obtain⟨X,lBX,lXH,oX,hXk⟩:=a2C o4 hM5.1
  refine a0P a9f rfl rfl rfl (fun _=>rfl) (fun _=>rfl) lXH oX (by omega) rfl (fun _=>rfl) rfl fun pp v8 H6 l6 o6=> ?_
  simp only[cA,nA]
  have hM7:=(hM5.base lBX hXk).mono l6
  have hs6:∀(j:Nat) (s':Slc),(l++[s])[j]? =some s'->SO B H6 3 1 (fun z:Int=>[ii z]) (vs s') (b1T (alB es wl lo hi) n k j):=fun j s' h=>by
   rcases Nat.lt_or_ge j l.length with hj|hj
   ·rw[List.getElem?_append_left hj]at h
    exact(a2P ((a3A (hs3 j s' h) hr1).mono hM4.1) hXk (by decide)).mono l6
   ·rw[List.getElem?_append_right hj]at h
    rcases Nat.eq_zero_or_pos (j-l.length)with h0|h0
    ·rw[h0]at h
     injection h with h
     subst h
     rw[show j=i by omega]
     exact(a2P (s4.less lBc) hXk (by decide)).mono l6
    ·rw[List.getElem?_eq_none (by simp;omega)]at h;cases h
  exact⟨(i+1,l++[s],v8),by omega,(a0R rfl (a0J rfl (by omega))),⟨by omega,by simp[hl],hM7,o6.less lBX,hs6⟩⟩
 ·replace hin:=of_decide_eq_false hin
  rw[show i=a3j (alB es wl lo hi) n k by omega]at hl
  exact a0c rfl ⟨lB.trans hM3.1,v,l,rfl,o3.se,hl,fun j s h=>(hs3 j s h).se⟩
end
end Go.Proofs.YtlmgkkjgdapnpaaGreatDoor
/- strings.Trim of the shelf at this program: laid by the kit (mktrim.sh; anew for each seat). -/
namespace Go.Proofs
open Go.Shelf
def Tryz.lays160_ren:Go.Shelf.Ren:=⟨fun|160=>124|232=>180|231=>179|227=>181|234=>183|233=>182|236=>185|235=>184|228=>227|271=>230|151=>229|197=>228|120=>258|152=>257|260=>256|137=>269|119=>270|224=>271|225=>272|217=>280|266=>284|n=>n,fun|9=>9|4=>4|3=>3|5=>5|117=>274|116=>273|0=>0|124=>277|21=>21|105=>319|46=>173|119=>365|139=>368|138=>367|n=>n,fun|3=>4|4=>5|n=>n⟩
theorem Tryz.lays160:Go.Proofs.Lays.n160 prog Tryz.lays160_ren:={
 mixed:=by kernel_rfl
 f119:=Tryz.func270.trans (congrArg some (by kernel_rfl))
 f120:=Tryz.func258.trans (congrArg some (by kernel_rfl))
 f137:=Tryz.func269.trans (congrArg some (by kernel_rfl))
 f151:=Tryz.func229.trans (congrArg some (by kernel_rfl))
 f152:=Tryz.func257.trans (congrArg some (by kernel_rfl))
 f160:=Tryz.func124.trans (congrArg some (by kernel_rfl))
 f197:=Tryz.func228.trans (congrArg some (by kernel_rfl))
 f217:=Tryz.func280.trans (congrArg some (by kernel_rfl))
 f224:=Tryz.func271.trans (congrArg some (by kernel_rfl))
 f225:=Tryz.func272.trans (congrArg some (by kernel_rfl))
 f227:=Tryz.func181.trans (congrArg some (by kernel_rfl))
 f228:=Tryz.func227.trans (congrArg some (by kernel_rfl))
 f231:=Tryz.func179.trans (congrArg some (by kernel_rfl))
 f232:=Tryz.func180.trans (congrArg some (by kernel_rfl))
 f233:=Tryz.func182.trans (congrArg some (by kernel_rfl))
 f234:=Tryz.func183.trans (congrArg some (by kernel_rfl))
 f235:=Tryz.func184.trans (congrArg some (by kernel_rfl))
 f236:=Tryz.func185.trans (congrArg some (by kernel_rfl))
 f260:=Tryz.func256.trans (congrArg some (by kernel_rfl))
 f266:=Tryz.func284.trans (congrArg some (by kernel_rfl))
 f271:=Tryz.func230.trans (congrArg some (by kernel_rfl))
 t0:=Tryz.underlying0
 a0:=Tryz.isAgg0
 z0:=Tryz.sizeOf0
 v0:=Tryz.zeroValue0
 t3:=Tryz.underlying3
 a3:=Tryz.isAgg3
 z3:=Tryz.sizeOf3
 v3:=Tryz.zeroValue3
 t4:=Tryz.underlying4
 a4:=Tryz.isAgg4
 z4:=Tryz.sizeOf4
 v4:=Tryz.zeroValue4
 t5:=Tryz.underlying5
 a5:=Tryz.isAgg5
 z5:=Tryz.sizeOf5
 v5:=Tryz.zeroValue5
 t9:=Tryz.underlying9
 a9:=Tryz.isAgg9
 z9:=Tryz.sizeOf9
 v9:=Tryz.zeroValue9
 t21:=Tryz.underlying21
 a21:=Tryz.isAgg21
 z21:=Tryz.sizeOf21
 v21:=Tryz.zeroValue21
 t46:=Tryz.underlying173
 a46:=Tryz.isAgg173
 z46:=Tryz.sizeOf173
 v46:=Tryz.zeroValue173
 t105:=Tryz.underlying319
 a105:=Tryz.isAgg319
 z105:=Tryz.sizeOf319
 v105:=Tryz.zeroValue319
 t116:=Tryz.underlying273
 a116:=Tryz.isAgg273
 z116:=Tryz.sizeOf273
 t117:=Tryz.underlying274
 a117:=Tryz.isAgg274
 z117:=Tryz.sizeOf274
 v117:=Tryz.zeroValue274
 t119:=Tryz.underlying365
 a119:=Tryz.isAgg365
 z119:=Tryz.sizeOf365
 t124:=Tryz.underlying277
 a124:=Tryz.isAgg277
 z124:=Tryz.sizeOf277
 v124:=Tryz.zeroValue277
 t138:=Tryz.underlying367
 a138:=Tryz.isAgg367
 z138:=Tryz.sizeOf367
 v138:=Tryz.zeroValue367
 t139:=Tryz.underlying368
 a139:=Tryz.isAgg368
 z139:=Tryz.sizeOf368
 v139:=Tryz.zeroValue368
 g3:=by kernel_rfl
 g4:=by kernel_rfl}
end Go.Proofs

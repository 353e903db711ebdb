/- Chapter 30: the number of spanning trees with some edges, and without some. -/
import Derived.Test.YtmannekkmdockaaGreatDoorGuC
namespace Go.Proofs.YtmannekkmdockaaGreatDoor
open Go.Proofs.Tryz
open Go.RowKit Go.RX Go.GS
open Go.WD (BP a1E)
set_option maxRecDepth 100000
theorem c2C:prog.underlying 192=some (.map 3 4):=by kernel_rfl
theorem c2D:∀w,(zeroValue 4).run prog w= .ok (.bool false) w:=fun w=>by
 rfl
theorem a7l:a4B prog 121=true:=by kernel_rfl
theorem d5v:a0I prog 202=vs (none,0,0):=by kernel_rfl
theorem a4v {H:PH} {m:Value} {S:List Int} (h:MB H m S):m.cells= #[m]/\a8V m=true:=by
 obtain⟨_,⟨rfl,_⟩|⟨r,_,_,rfl,_⟩⟩:=h<;>exact⟨rfl,rfl⟩
theorem c8l {m:Value} (hc:m.cells= #[m]) (h1:a8V m=true):m.cells.size=1/\a0t m.cells:=by
 rw[hc]
 exact ⟨rfl, fun c hc => by have hc : c ∈ [m] := by simpa using hc
                            rw[List.mem_singleton]at hc;subst hc;exact h1⟩
theorem c2E {H2:PH} {r pb:Nat} {T:TypeId} (hr:H2 r=none) (hp:(H2.put r (.map #[] 0)) pb=none):∃B H4,((H2.put r (.map #[] 0)).put pb (.cells #[.map none] T (0,0))).put pb (.cells ((#[.map none]:Array Value).setIfInBounds 0 (.map (some r))) T (0,0))=H4/\PH.le H2 B/\B pb=some (.cells #[.map (some r)] T (0,0))/\PH.le B H4/\MO B H4 (.map (some r)) (plL []):=by
 have hpr:pb≠r:=fun e=>by subst e;rw[PH.put_self]at hp;cases hp
 have hp2:H2 pb=none:=by rwa[PH.put_ne _ _ hpr]at hp
 refine⟨H2.put pb (.cells #[.map (some r)] T (0,0)),_,rfl,PH.le_put hp2 _,PH.put_self _ _ _,fun k ob hk=> ?_,List.nodup_nil,r,[],0,rfl,?_,?_,rfl⟩
 ·by_cases e:k=pb
  ·subst e;rw[PH.put_self]at hk⊢;exact hk
  ·rw[PH.put_ne _ _ e]at hk
   rw[PH.put_ne _ _ e,PH.put_ne _ _ e,PH.put_ne _ _ (fun e2=>by subst e2;rw[hr]at hk;cases hk)]
   exact hk
 ·rw[PH.put_ne _ _ (fun e=>hpr e.symm)];exact hr
 ·rw[PH.put_ne _ _ (fun e=>hpr e.symm),PH.put_ne _ _ (fun e=>hpr e.symm),PH.put_self];rfl
theorem d1R {H5 H7:PH} {go qb n:Nat} {T:TypeId} (hn:n<=64) (hg:H5 go=none) (hl:PH.le H5 H7) (hk:∀k,k≠go->H7 k=H5 k) (ho:SO H5 H7 202 1 (fun s:Slc=>[vs s]) (vs (rsl n go)) (List.replicate n (none,0,0))) (hq:H7 qb=none):
  ∃B1 H8,(H7.put qb (.cells #[.slice none 0 0] T (0,0))).put qb (.cells ((#[.slice none 0 0]:Array Value).setIfInBounds 0 (vs (rsl n go))) T (0,0))=H8/\PH.le H5 B1/\B1 qb=some (.cells #[vs (rsl n go)] T (0,0))/\Mk B1 H8 go [] n:=by
 have h0:=b4E ho
 have hne:qb≠go:=fun e=>by
  obtain⟨ob,h1,_⟩:=d1Q h0
  rw[<-e,hq]at h1;cases h1
 have hq5:H5 qb=none:=by rw[<-hk qb hne];exact hq
 refine⟨H5.put qb (.cells #[vs (rsl n go)] T (0,0)),_,rfl,PH.le_put hq5 _,PH.put_self _ _ _,fun k ob hb=> ?_,by rw[PH.put_ne _ _ hne.symm];exact hg,a6n h0 fun ob hob=> ?_,⟨List.nodup_nil,hn,fun i g h=>by simp at h⟩,by simp,Nat.zero_le _⟩
 ·by_cases e:k=qb
  ·subst e;rw[PH.put_self]at hb⊢;exact hb
  ·rw[PH.put_ne _ _ e]at hb
   rw[PH.put_ne _ _ e,PH.put_ne _ _ e]
   exact hl _ _ hb
 ·rw[PH.put_ne _ _ hne.symm,PH.put_ne _ _ hne.symm];exact hob
theorem Mk.len {B H:PH} {go n:Nat} {gs:List Nat} (h:Mk B H go gs n):(gs.map (rsl n)++List.replicate (n-gs.length) (none,0,0)).length=n:=by
 have:=h.le
 simp;omega
theorem d1S {E:List (Nat×Nat)} {e:Nat×Nat} {f:Nat->Nat} {V:List Nat} {i k:Nat} (hi:i<V.length) (hk:k<V.length) (hne:f e.1≠f e.2):
  addZ V (addZ V (addZ V (addZ V (c6k E f V) (f e.1) (f e.1) 1) (f e.2) (f e.2) 1) (f e.1) (f e.2) (-1)) (f e.2) (f e.1) (-1) i k=c6k (E++[e]) f V i k:=by
 have hF:∀(E:List (Nat×Nat)) (u v:Nat->Int),Fm (E++[e]) u v=Fm E u v+dl e u*dl e v:=fun E=>by
  induction E with
  |nil=>intro u v;simp[Fm]
  |cons x E ih=>intro u v;simp only[List.cons_append,Fm];rw[ih];omega
 unfold c6k
 rw[hF,b2W,b2W]
 have e1:V[i]? =some (V.getD i 0):=by rw[List.getD_eq_getElem?_getD,List.getElem?_eq_getElem hi];rfl
 have e2:V[k]? =some (V.getD k 0):=by rw[List.getD_eq_getElem?_getD,List.getElem?_eq_getElem hk];rfl
 unfold addZ
 rw[e1,e2]
 generalize V.getD i 0=x at*
 generalize V.getD k 0=y at*
 generalize f e.1=a at*
 generalize f e.2=b at*
 simp only[Option.some.injEq]
 by_cases x1:a=x<;>by_cases x2:b=x<;>by_cases y1:a=y<;>by_cases y2:b=y<;>(try (subst_vars;exact absurd rfl hne))<;>simp_all<;>(try split)<;>(try omega)
theorem b4F {V:List Nat} {Z:Nat->Nat->Int} {a b:Nat} {z:Int} {m:Nat} (h:∀i k,(Z i k).natAbs<=m) (hz:z.natAbs<=1):∀i k,(addZ V Z a b z i k).natAbs<=m+1:=fun i k=>by
 unfold addZ
 have:=h i k
 split<;>omega
theorem b6I {z:Int} {m:Nat} (h:z.natAbs<=m) (hm:m<=1000):Lm z:=by
 have:BP 1<=BP 10000:=a1E (by decide)
 rw[Go.WD.BP_succ,Go.WD.BP_zero]at this
 unfold Lm;omega
theorem d7d {F:Nat->Nat->Int} (h:∀i j,(F i j).natAbs<=200):∀k i j,k<=64->SmZ (gk F k i j):=fun k i j hk=>by
 have h1:=c6j h k i j
 obtain⟨K,hK⟩:∃K,K=65:=⟨_,rfl⟩
 have h2:((k+1)*200)^(k+1)<=(2^14)^K:=Nat.le_trans (Nat.pow_le_pow_left (by omega) _) (Nat.pow_le_pow_right (by decide) (by omega))
 have h3:∀M,100<=M->((2:Nat)^14)^K<BP M:=fun M hM=>by
  unfold BP
  rw[<-Nat.pow_mul]
  exact Nat.pow_lt_pow_right (by decide) (by omega)
 have h3:=h3 100 (Nat.le_refl _)
 unfold SmZ;omega
theorem d5w {s:Nat} {es:List (Nat×Nat)} {W O:List Int} (h:Cyc (wE s es W es.length)):b8B s es W O=0:=if_neg h.not
theorem d1T {s:Nat} {es:List (Nat×Nat)} {W O:List Int} {f:Nat->Nat} (h:Acy (wE s es W es.length) (wE s es W es.length).length) (hf:lab (wE s es W es.length)=f):b8B s es W O=Dg (oE s es O f es.length) f (b2X s f).reverse:=by
 subst hf;exact if_pos h
def fcn (pb qb:Nat):Value:= .func (.func 123) #[] #[.pointer (some ⟨pb,0,none⟩),.pointer (some ⟨qb,0,none⟩)]
def frt (vp:Value):Value:= .func (.func 121) #[vp] #[]
theorem c6K {H:PH} {n s:Nat} {w mw mo:Value} {es:List (Nat×Nat)} {W O:List Int} (hw:SG H w es) (hg:GV n es) (hs:s<M64) (h0:s≠0) (hT:Tb H) (hW:MB H mw W) (hO:MB H mo O):
  Con prog 71 [gv n w,GS.uv s,mw,mo] H fun u H'=>PH.le H H'/\Lw H' u (b8B s es W O):=by
 refine a0b mixed d1e (by kernel_rfl) rfl ?_
 have hwc:=hw.cells
 have hw1:=a0z hw
 have h64:=hg.n64
 have hlen:=hg.len
 have he64:∀e∈es,e.1<=64/\e.2<=64:=fun e he=>by have:=hg.ed e he;omega
 have hil:(a4Y s 0 es).length<=200:=Nat.le_trans (a3F s es 0) hlen
 have hlx:∀{f:Nat->Nat} {x:Nat},Lb f->x<64->f x<64:=fun hf hx=>Nat.lt_of_le_of_lt (hf.le _) hx
 refine a0a (a0T hw) ?_
 refine a0a (c8l (a4v hW).1 (a4v hW).2) ?_
 refine a0a (c8l (a4v hO).1 (a4v hO).2) ?_
 refine a0d (b6a (H:=H)) rfl ?_
 rintro _ H1 ⟨l1,vp,rfl,o1⟩
 refine⟨fun h=>(nomatch h),?_⟩
 simp only[cA,nA]
 refine a0a ⟨rfl,fun c hc=>by have hc:c∈[vp]:=hc;rw[List.mem_singleton]at hc;subst hc;exact a0z o1.se⟩ ?_
 refine a0d (b6C (H:=H1) hwc hw1) rfl ?_
 rintro _ _ ⟨bi,ji,hbj,rfl,hd1,rfl⟩
 refine⟨fun h=>(nomatch h),?_⟩
 simp only[cA,nA]
 refine b5G (X:=H1) (K:=b6g bi ji (ii n) w 37 s) (Ro:=H) (fun pre vals X'=>PH.le H X'/\vals=[a0I prog 116]/\∃q,PO H X' vp q/\Par q (lab (wE s es W pre.length))/\Acy (wE s es W pre.length) (wE s es W pre.length).length) (fun _ vals X'=>PH.le H X'/\∃u,vals=[u]/\Lw X' u 0/\Cyc (wE s es W es.length)) (b2L hs hbj he64 (by omega) hw hwc) b2K hd1 rfl (fun _ _ _ h=>h.1) ⟨l1,rfl,List.range 64,o1,Par.id,fun i e hi=>absurd hi (Nat.not_lt_zero _)⟩ ?_ ?_ ?_
 ·rintro pre xs vals X' ⟨y,hy,rfl⟩ _ ⟨m1,rfl,q,oq,hP,hA⟩
  refine⟨rfl,?_⟩
  simp only[cA,nA]
  refine a0a (el_edge.vcells y.2) ?_
  have hya:=c2B hy
  have hyl:=he64 y.2 (List.mem_of_getElem? hya.1)
  have hyb:=hg.mem hya.1
  refine a0g (b2T (k:=(y.1:Nat)) (vs:=[mw,ii (y.1:Nat)]) rfl rfl rfl c2C a4g c2D (hW.mono m1)) (a1s (a6g rfl (a4v hW).1) rfl) ?_
  simp only[cA,nA]
  refine a0a ⟨_,rfl⟩ ?_
  refine a0e (b:=decide (((y.1:Nat):Int)∈W)) rfl (fun hin=> ?_) (fun hin=> ?_)
  ·skip
   have hin:=of_decide_eq_true hin
   refine a0d (b6c m1 oq hP (by omega) (by omega)) rfl ?_
   rintro _ X2 ⟨rfl,m2,q2,oq2,hP2⟩
   refine⟨fun h=>(nomatch h),?_⟩
   simp only[cA,nA]
   refine a0a ⟨_,rfl⟩ ?_
   refine a0e (b:=decide (¬(lab (wE s es W pre.length) y.2.1≠lab (wE s es W pre.length) y.2.2))) (by show Value.bool (!decide _)=_;congr 1;rw[Bool.eq_iff_iff];simp) (fun h5=> ?_) (fun h5=> ?_)
   ·replace h5:=of_decide_eq_true h5
    refine a0d (a2c 0 (by omega) (by omega)) rfl ?_
    rintro u3 X3 ⟨m3,w3⟩
    refine⟨fun h=>(nomatch h),?_⟩
    simp only[cA,nA]
    refine a0a w3.rq ?_
    have hcy:Cyc (wE s es W es.length):=by
     obtain⟨M,hM⟩:=d5s (set:=s) (es:=es) (W:=W) (j:=pre.length+1) (k:=es.length) (by have:=(List.getElem?_eq_some_iff.1 hy).1;have:=a3F s es 0;omega)
     rw[hM,c2A hy hin]
     refine Cyc.app ⟨(wE s es W pre.length).length,y.2,by simp,?_⟩
     rw[List.take_left]
     exact Classical.byContradiction h5
    exact⟨m2.trans m3,u3,rfl,w3,hcy⟩
   ·replace h5:=of_decide_eq_false h5
    have h5:=Classical.byContradiction h5
    exact⟨m2,rfl,q2,oq2,by rw[List.length_append,List.length_singleton,c2A hy hin,a3C];exact hP2,by rw[List.length_append,List.length_singleton,c2A hy hin,List.length_append];exact hA.snoc h5⟩
  ·skip
   have hin:=of_decide_eq_false hin
   exact⟨m1,rfl,q,oq,by rw[List.length_append,List.length_singleton,d5p hy hin];exact hP,by rw[List.length_append,List.length_singleton,d5p hy hin];exact hA⟩
 ·rintro xs vals X' K' hxl hd _ ⟨m1,rfl,q,oq,hP,hA⟩
  simp only[cA,nA]
  rw[d5t hxl]at hP hA
  have hL:wE s es W es.length=wE s es W es.length:=rfl
  generalize hf:lab (wE s es W es.length)=f at hP
  have hlb:=hP.lb
  have m2:PH.le H (X'.or K'):=m1.trans (PH.le_or _ _)
  have oq2:=oq.mono (PH.le_or X' K')
  generalize X'.or K'=H2 at m2 oq2⊢
  refine a0l (a3s rfl) rfl ?_
  rintro _ _ ⟨r,hr,rfl,rfl⟩
  refine⟨fun h=>(nomatch h),?_⟩
  simp only[cA,nA]
  refine a1G (cs:= #[.map none]) (by kernel_rfl) fun pb hpb=> ?_
  simp only[cA,nA]
  refine b0W (u:= .map (some r)) a8z rfl rfl rfl (PH.put_self _ _ _) (by simp) rfl rfl rfl (fun h=>(nomatch h)) ?_
  simp only[cA,nA]
  obtain⟨B,H4,hH4,hHB,hBp,hBH,hMO⟩:=c2E (T:=140) hr hpb
  rw[hH4]
  have hps:=oq2.se.mono hHB
  have hTB:=hT.mono (m2.trans hHB)
  refine a3z (b2M rfl) rfl ?_
  simp only[cA,nA]
  refine a0a ⟨rfl,fun c hc=>by simp[D,Value.cells]at hc;subst hc;rfl⟩ ?_
  refine a0P (b5J (hTB.mono hBH) hs) rfl ?_
  simp only[cA,nA]
  refine a0l (Go.RZ.opn_callw (P:=prog) (ws:=[ii (lst s:Nat)]) (bs:= #[vp]) (caps:= #[]) (vs:=[frt vp,ii (lst s:Nat)]) rfl rfl rfl a7l (a4u (hps.mono hBH) hP (a1r hs (a6O hs h0)))) rfl ?_
  rintro _ _ ⟨rfl,rfl⟩
  refine⟨fun _=>PH.le.refl _,?_⟩
  simp only[cA,nA]
  refine a0k (α:=Nat) (fun x=>[ii (x:Nat)]) (fun x=>fun H'=>x<=64/\PH.le B H'/\MO B H' (.map (some r)) (plL (b3v s f x))) (fun x=>64-x) (0) rfl (⟨Nat.zero_le _,hBH,hMO⟩) fun x H5 ⟨hx,b5,o5⟩=> ?_
  simp only[cA,nA]
  refine a0a ⟨_,rfl⟩ ?_
  refine a0e (b:=decide (((x:Nat):Int)<64)) rfl (fun h=> ?_) (fun h=> ?_)
  ·replace h:=of_decide_eq_true h
   refine a0a ⟨_,rfl⟩ ?_
   refine a0a ⟨_,_,rfl⟩ ?_
   refine a0a (by show(0:Int)<=(x:Nat);omega) ?_
   refine a0e (b:=bit s x) (b8a rfl hs rfl (by omega)) (fun hb=> ?_) (fun hb=> ?_)
   ·skip
    refine a0l (Go.RZ.opn_callw (P:=prog) (ws:=[ii (x:Nat)]) (bs:= #[vp]) (caps:= #[]) (vs:=[frt vp,ii (x:Nat)]) rfl rfl rfl a7l (a4u (hps.mono b5) hP (by omega))) rfl ?_
    rintro _ _ ⟨rfl,rfl⟩
    refine⟨fun h=>(nomatch h),?_⟩
    simp only[cA,nA]
    refine a0a ⟨_,rfl⟩ ?_
    refine a0e (b:=decide (f x=x)) (bEn _ _) (fun h6=> ?_) (fun h6=> ?_)
    ·replace h6:=of_decide_eq_true h6
     refine a0a ⟨_,rfl⟩ ?_
     refine a0e (b:=decide (x≠f (lst s))) (by show Value.bool (((x:Nat):Int) !=((f (lst s):Nat):Int))=_;rw[bN];congr 1;apply decide_eq_decide.2;omega) (fun h7=> ?_) (fun h7=> ?_)
     ·replace h7:=of_decide_eq_true h7
      refine a0L a8z rfl rfl (b5 _ _ hBp) rfl rfl ?_
      simp only[cA,nA]
      refine a0L a8z rfl rfl (b5 _ _ hBp) rfl rfl ?_
      simp only[cA,nA]
      refine a0g (a7g (vs:=[.map (some r)]) rfl rfl a3E o5.mi) rfl ?_
      simp only[cA,nA]
      rw[b4z]
      refine a0l (b6l (P:=prog) (k:=((x:Nat):Int)) (v:=(((b3v s f x).length:Nat):Int)) (vs:=[.map (some r),ii (x:Nat),ii ((b3v s f x).length:Nat)]) rfl rfl rfl rfl a3E a4g b5 o5) rfl ?_
      rintro _ H6 ⟨rfl,b6,o6,-⟩
      refine⟨fun h=>(nomatch h),?_⟩
      simp only[cA,nA]
      exact⟨x+1,by omega,(a3K (a0w rfl (by omega))),⟨by omega,b6,by rw[c6H hb h6 h7,<-d1I c6I];exact o6⟩⟩
     ·replace h7:=of_decide_eq_false h7
      exact⟨x+1,by omega,(a3K (a0w rfl (by omega))),⟨by omega,b5,by rw[b4D (.inr (.inr (Classical.byContradiction h7)))];exact o5⟩⟩
    ·replace h6:=of_decide_eq_false h6
     exact⟨x+1,by omega,(a3K (a0w rfl (by omega))),⟨by omega,b5,by rw[b4D (.inr (.inl h6))];exact o5⟩⟩
   ·skip
    exact⟨x+1,by omega,(a3K (a0w rfl (by omega))),⟨by omega,b5,by rw[b4D (.inl (by simpa using hb))];exact o5⟩⟩
  ·replace h:=of_decide_eq_false h
   obtain rfl:x=64:=by omega
   have hVl:=c6J s 64 f
   have hVd:(b3v s f 64).Nodup:=c8a s f
   have hVe:b3v s f 64=b2X s f:=rfl
   have hmi:=o5.mi
   generalize hV:b3v s f 64=V at hVl hVd hVe hmi o5
   generalize hn:V.length=m at hVl
   refine a0L a8z rfl rfl (b5 _ _ hBp) rfl rfl ?_
   simp only[cA,nA]
   refine a0g (a7g (vs:=[.map (some r)]) rfl rfl a3E hmi) rfl ?_
   simp only[cA,nA]
   rw[b4z,hn]
   refine b2Z a1I (z:=(none,0,0)) d5v rfl rfl rfl (by omega) rfl fun go H7 hg7 l7 k7 o7=> ?_
   simp only[cA,nA]
   refine a1G (cs:= #[.slice none 0 0]) (by kernel_rfl) fun qb hqb=> ?_
   simp only[cA,nA]
   refine b0W (u:=vs (rsl m go)) a9R rfl rfl rfl (PH.put_self _ _ _) (by simp) rfl rfl rfl (fun h=>(nomatch h)) ?_
   simp only[cA,nA]
   obtain⟨B1,H8,hH8,hB5,hBq,hMk⟩:=d1R (T:=201) hVl hg7 l7 k7 o7 hqb
   rw[show Value.slice (some ⟨go,0,none⟩) m m=vs (rsl m go)from rfl,hH8]
   have hp1:=hB5 _ _ (b5 _ _ hBp)
   have hm1:=hmi.mono hB5
   refine a0L a9R rfl rfl (hMk.bh _ _ hBq) rfl rfl ?_
   simp only[cA,nA]
   refine a0h a1I rfl rfl hMk.out.se rfl ?_
   simp only[cA,nA]
   rw[hMk.len]
   refine a0k (α:=Nat×List Nat) (fun⟨i,gs⟩=>[ii (i:Nat)]) (fun⟨i,gs⟩=>fun H'=>gs.length=i/\Mk B1 H' go gs m) (fun⟨i,gs⟩=>m-i) ((0,[])) rfl (⟨rfl,hMk⟩) fun⟨i,gs⟩ H9 ⟨hgi,k9⟩=> ?_
   simp only[cA,nA]
   refine a0a ⟨_,rfl⟩ ?_
   refine a0a ⟨_,rfl⟩ ?_
   refine a0e (b:=decide (((i:Nat):Int)<(m:Nat))) rfl (fun h=> ?_) (fun h=> ?_)
   ·replace h:=of_decide_eq_true h
    subst hgi
    refine a0L a9R rfl rfl (k9.bh _ _ hBq) rfl rfl ?_
    simp only[cA,nA]
    refine a0L a8z rfl rfl (k9.bh _ _ hp1) rfl rfl ?_
    simp only[cA,nA]
    refine a0g (a7g (vs:=[.map (some r)]) rfl rfl a3E (hm1.mono k9.bh)) rfl ?_
    simp only[cA,nA]
    rw[b4z,hn]
    refine b2Z el_long (z:=(false,(none,0,0))) d6Z rfl rfl rfl (by omega) rfl fun g H10 hg10 l10 k10 o10=> ?_
    simp only[cA,nA]
    obtain⟨r1,r2,r3⟩:=k9.row hg10 l10 o10
    refine a0R a1I (a:=(rsl m g)) rfl rfl rfl rfl (fun _=>rfl) (fun _=>rfl) (b2N H10 go) r2 (show gs.length<(gs.map (rsl m)++List.replicate (m-gs.length) (none,0,0)).length by rw[k9.len];omega) rfl (fun _=>rfl) rfl fun p u H11 l11 o11 _=> ?_
    simp only[cA,nA]
    exact⟨(gs.length+1,gs++[g]),by show m-(gs.length+1)<m-gs.length;omega,(a3K (a0w rfl (by omega))),⟨by simp,k9.set r1 r3 (by omega) (k9.bh.trans l10) l11 o11⟩⟩
   ·replace h:=of_decide_eq_false h
    have hgm:gs.length=m:=by have:=k9.le;omega
    obtain⟨X0,x0,hrows,hMt⟩:=k9.done hgm
    have hX0:PH.le H X0:=(m2.trans hHB).trans (b5.trans (hB5.trans x0))
    have hpsX:=hps.mono (b5.trans (hB5.trans x0))
    refine a3z (a1j (vs:=[.pointer (some ⟨pb,0,none⟩),.pointer (some ⟨qb,0,none⟩)]) rfl rfl) rfl ?_
    simp only[cA,nA]
    refine a0a ⟨rfl,fun c hc=>by simp[D,Value.cells]at hc;subst hc;rfl⟩ ?_
    refine a0d (b6C (H:=H9) hwc hw1) rfl ?_
    rintro _ _ ⟨b2,j2,hbj2,rfl,hd2,rfl⟩
    refine⟨fun h=>(nomatch h),?_⟩
    simp only[cA,nA]
    refine b5G (X:=H9) (K:=b6g b2 j2 (ii n) w 37 s) (Ro:=H) (fun pre vals X'=>PH.le H X'/\vals=[]/\∃Xw M,Mt X0 Xw X' gs m 0 M (c6k (oE s es O f pre.length) f V)) (fun _ _ _=>False) (b2L hs hbj2 he64 (by omega) hw hwc) b2K hd2 rfl (fun _ _ _ h=>h.1) ⟨hX0.trans hMt.xh,rfl,X0,_,hMt.x0,hMt.xh,hMt.mx,hMt.vl⟩ ?_ ?_ ?_
    ·rintro pre xs vals X2 ⟨y,hy,rfl⟩ _ ⟨m1,rfl,Xw,M,ht⟩
     refine⟨rfl,?_⟩
     simp only[cA,nA]
     refine a0a (el_edge.vcells y.2) ?_
     have hya:=c2B hy
     have hyb:=hg.mem hya.1
     have hpw:=hpsX.mono (ht.x0.trans ht.xh)
     refine a0l (Go.RZ.opn_callw (P:=prog) (ws:=[ii (y.2.1:Nat)]) (bs:= #[vp]) (caps:= #[]) (vs:=[frt vp,ii (y.2.1:Nat)]) rfl rfl rfl a7l (a4u hpw hP (by omega))) rfl ?_
     rintro _ _ ⟨rfl,rfl⟩
     refine⟨fun _=>PH.le.refl _,?_⟩
     simp only[cA,nA]
     refine a0l (Go.RZ.opn_callw (P:=prog) (ws:=[ii (y.2.2:Nat)]) (bs:= #[vp]) (caps:= #[]) (vs:=[frt vp,ii (y.2.2:Nat)]) rfl rfl rfl a7l (a4u hpw hP (by omega))) rfl ?_
     rintro _ _ ⟨rfl,rfl⟩
     refine⟨fun _=>PH.le.refl _,?_⟩
     simp only[cA,nA]
     refine a0g (b2T (k:=(y.1:Nat)) (vs:=[mo,ii (y.1:Nat)]) rfl rfl rfl c2C a4g c2D (hO.mono m1)) (a1s (a6g rfl (a4v hO).1) rfl) ?_
     simp only[cA,nA]
     refine a0a ⟨_,rfl⟩ ?_
     refine a0e (b:=decide (((y.1:Nat):Int)∈O)) rfl (fun hin=> ?_) (fun hin=> ?_)
     ·skip
      exact⟨m1,rfl,Xw,M,by rw[List.length_append,List.length_singleton,d5r hy (.inl (of_decide_eq_true hin))];exact ht⟩
     ·skip
      have hin:=of_decide_eq_false hin
      refine a0a ⟨_,rfl⟩ ?_
      refine a0a ⟨_,rfl⟩ ?_
      refine a0e (b:=decide (f y.2.1=f y.2.2)) (bEn _ _) (fun h6=> ?_) (fun h6=> ?_)
      ·replace h6:=of_decide_eq_true h6
       exact⟨m1,rfl,Xw,M,by rw[List.length_append,List.length_singleton,d5r hy (.inr h6)];exact ht⟩
      ·replace h6:=of_decide_eq_false h6
       have hz0:∀i k,(c6k (oE s es O f pre.length) f V i k).natAbs<=200:=fun i k=>Nat.le_trans (a8x _ _ _ i k) (Nat.le_trans c8k hlen)
       have hz1:=b4F (V:=V) (a:=f y.2.1) (b:=f y.2.1) (z:=1) hz0 (by decide)
       have hz2:=b4F (V:=V) (a:=f y.2.2) (b:=f y.2.2) (z:=1) hz1 (by decide)
       have hz3:=b4F (V:=V) (a:=f y.2.1) (b:=f y.2.2) (z:= -1) hz2 (by decide)
       have hpX:=x0 _ _ hp1
       have hqX:=x0 _ _ hBq
       have hmX:=hm1.mono x0
       refine a0l (Go.RZ.opn_callw (P:=prog) (ws:=[ii (f y.2.1:Nat),ii (f y.2.1:Nat),ii 1]) (bs:= #[]) (caps:= #[.pointer (some ⟨pb,0,none⟩),.pointer (some ⟨qb,0,none⟩)]) (vs:=[fcn pb qb,ii (f y.2.1:Nat),ii (f y.2.1:Nat),ii 1]) rfl rfl rfl a5C (a5D ht hpX hqX hmX hrows hgm hn hVd (by decide) fun i k=>b6I (hz0 i k) (by decide))) rfl ?_
       rintro _ Y1 ⟨W1,M1,e1,t1⟩
       refine⟨fun h=>(nomatch h),?_⟩
       simp only[cA,nA]
       refine a0l (Go.RZ.opn_callw (P:=prog) (ws:=[ii (f y.2.2:Nat),ii (f y.2.2:Nat),ii 1]) (bs:= #[]) (caps:= #[.pointer (some ⟨pb,0,none⟩),.pointer (some ⟨qb,0,none⟩)]) (vs:=[fcn pb qb,ii (f y.2.2:Nat),ii (f y.2.2:Nat),ii 1]) rfl rfl rfl a5C (a5D t1 hpX hqX hmX hrows hgm hn hVd (by decide) fun i k=>b6I (hz1 i k) (by decide))) rfl ?_
       rintro _ Y2 ⟨W2,M2,e2,t2⟩
       refine⟨fun h=>(nomatch h),?_⟩
       simp only[cA,nA]
       refine a0l (Go.RZ.opn_callw (P:=prog) (ws:=[ii (f y.2.1:Nat),ii (f y.2.2:Nat),ii (-1)]) (bs:= #[]) (caps:= #[.pointer (some ⟨pb,0,none⟩),.pointer (some ⟨qb,0,none⟩)]) (vs:=[fcn pb qb,ii (f y.2.1:Nat),ii (f y.2.2:Nat),ii (-1)]) rfl rfl rfl a5C (a5D t2 hpX hqX hmX hrows hgm hn hVd (by decide) fun i k=>b6I (hz2 i k) (by decide))) rfl ?_
       rintro _ Y3 ⟨W3,M3,e3,t3⟩
       refine⟨fun h=>(nomatch h),?_⟩
       simp only[cA,nA]
       refine a0l (Go.RZ.opn_callw (P:=prog) (ws:=[ii (f y.2.2:Nat),ii (f y.2.1:Nat),ii (-1)]) (bs:= #[]) (caps:= #[.pointer (some ⟨pb,0,none⟩),.pointer (some ⟨qb,0,none⟩)]) (vs:=[fcn pb qb,ii (f y.2.2:Nat),ii (f y.2.1:Nat),ii (-1)]) rfl rfl rfl a5C (a5D t3 hpX hqX hmX hrows hgm hn hVd (by decide) fun i k=>b6I (hz3 i k) (by decide))) rfl ?_
       rintro _ Y4 ⟨W4,M4,e4,t4⟩
       refine⟨fun h=>(nomatch h),?_⟩
       simp only[cA,nA]
       exact⟨hX0.trans (t4.x0.trans t4.xh),rfl,W4,M4,t4.x0,t4.xh,t4.mx,fun i k h1 h2 h3 h4=>by rw[List.length_append,List.length_singleton,d5q hy hin h6,<-d1S (by omega) (by omega) h6];exact t4.vl i k h1 h2 h3 h4⟩
    ·rintro xs vals X2 K2 hxl hd _ ⟨m1,rfl,Xw,M,ht⟩
     simp only[cA,nA]
     rw[d5u hxl]at ht
     have hle:=PH.le_or X2 K2
     refine a0L a9R rfl rfl (hle _ _ ((ht.x0.trans ht.xh) _ _ (x0 _ _ hBq))) rfl rfl ?_
     simp only[cA,nA]
     refine a0d (c6o (ht.xh.trans hle) (hrows.mono ht.x0) (ht.mx.mono hle fun _ _ h=>h) hgm ht.vl (d7d fun i k=>Nat.le_trans (a8x _ _ _ i k) (Nat.le_trans c8k hlen)) (fun k hk h=>by rw[<-hn]at hk⊢;rw[b4x];exact c2q _ _ hVd hk h)) rfl ?_
     rintro u H12 ⟨X12,x1,x2,w12⟩
     refine⟨fun h=>(nomatch h),?_⟩
     simp only[cA,nA]
     obtain⟨x12,rfl⟩:=b4y w12
     refine a0a (w12.mono x2).rq ?_
     exact a0c rfl ⟨hX0.trans (ht.x0.trans (x1.trans x2)),by rw[d1T hA hf,<-hVe,<-b4x,hn];exact w12.mono x2⟩
    ·exact fun _ _ _ _ _ _ _ h=>h.elim
 ·rintro pre vals X' K' _ hd _ ⟨m1,u,rfl,w0,hcy⟩
  simp only[cA,nA]
  obtain⟨x0,rfl⟩:=b4y w0
  exact a0c rfl ⟨m1.trans (PH.le_or _ _),by rw[d5w hcy];exact w0.mono (PH.le_or _ _)⟩
end Go.Proofs.YtmannekkmdockaaGreatDoor
/- Chapter 30: counting and unranking, in plain terms. -/
namespace Go.Proofs.YtmannekkmdockaaGreatDoor
open Go.Proofs.Tryz
open Go.RowKit Go.RX Go.GS
open Go.WD (BP a1E)
set_option maxRecDepth 100000
section
variable {s:Nat} {es:List (Nat×Nat)} {t S:List Int} {k:Nat} {y:Nat×(Nat×Nat)}
theorem b1y (s:Nat):∀(es:List (Nat×Nat)) (i:Nat),(a4Y s i es).map (·.2)=es.filter (inB s)
 |[],_=>rfl
 |e::r,i=>by
  unfold a4Y
  by_cases h:(bit s e.1&&bit s e.2)=true
  ·rw[if_pos h,List.filter_cons_of_pos (by unfold inB;exact h),List.map_cons,b1y s r (i+1)]
  ·rw[if_neg h,List.filter_cons_of_neg (by unfold inB;exact h),b1y s r (i+1)]
def opn (s:Nat) (es:List (Nat×Nat)) (k:Nat):List (Nat×Nat):=((a4Y s 0 es).drop k).map (·.2)
def d5x (s:Nat) (es:List (Nat×Nat)) (t:List Int) (k:Nat):Int:=KK (opn s es k) s (lab (etl es t))
theorem a5G (s:Nat) (es:List (Nat×Nat)):b8B s es [] []=d5x s es [] 0:=by
 have hw:wE s es [] es.length=[]:=by
  unfold wE
  rw[List.filter_eq_nil_iff.2 (fun x _=>by simp)];rfl
 have ha:Acy (wE s es [] es.length) (wE s es [] es.length).length:=by rw[hw];exact fun i e hi=>by cases hi
 unfold b8B d5x
 rw[if_pos ha,hw]
 have:oE s es [] (lab []) es.length=(opn s es 0).filter fun e=>lab [] e.1 !=lab [] e.2:=by
  unfold oE opn
  rw[List.take_of_length_le (a3F s es 0),List.drop_zero,List.filter_map]
  congr 1
 rw[this,c2n]
 rfl
theorem b6J (s:Nat) (es:List (Nat×Nat)):d5x s es [] 0=trN es s [] 0:=by
 unfold d5x trN opn inE
 rw[List.drop_zero,List.drop_zero,b1y]
theorem d1U (k:Nat):(opn s es k).length<=es.length:=by
 have:=a3F s es 0
 unfold opn
 simp only[List.length_map,List.length_drop];omega
theorem c6L (hs:s<M64) (h0:s≠0) (hC:Cn es s):0<b8B s es [] []:=by
 rw[a5G,b6J]
 exact b1t hs h0 _ 0 [] rfl (Beg.nil es s) (fun i h=>by cases h) (Spn.start hC)
end
end Go.Proofs.YtmannekkmdockaaGreatDoor
/- Chapter 30: Count and Unrank. -/
namespace Go.Proofs.YtmannekkmdockaaGreatDoor
open Go.Proofs.Tryz
open Go.RowKit Go.RX Go.GS
open Go.WD (BP a1E wd iw rs toI HM sgI)
set_option maxRecDepth 100000
section
variable {H K X B H':PH} {e:TypeId} {sz n r:Nat} {v m:Value} {xs:List Value} {E:Array MapEntry} {c:Nat} {ob:Obj} {z:Int} {S:List Int}
theorem c2F (hr:H r=some (.map E c)) (h:Sl H sz v n xs):Sl (H.put r ob) sz v n xs:=by
 obtain⟨h1,a,c',h2,h3,h4,h5⟩:=h
 refine⟨h1,a,c',h2,h3,h4,h5.imp id ?_⟩
 rintro⟨b,o,cs,T,fz,g1,g2,g3⟩
 exact⟨b,o,cs,T,fz,g1,by rw[PH.put_ne _ _ (fun e=>by subst e;rw[hr]at g2;cases g2)];exact g2,g3⟩
end
theorem c2G (z:Int):∃m e,told z= .tuple #[wd m,ii e]:=by
 unfold told
 split
 ·exact⟨_,_,rfl⟩
 ·exact⟨_,_,rfl⟩
section
variable {H:PH} {n s:Nat} {w:Value} {es:List (Nat×Nat)}
theorem b6K (hw:SG H w es) (hg:GV n es) (h0:s≠0/\s<2^n) (hs:s<M64) (hT:Tb H):Con prog 27 [gv n w,GS.uv s] H fun u H'=>PH.le H H'/\u=told (b8B s es [] []):=by
 refine a0b mixed d1f (by kernel_rfl) rfl ?_
 refine a0a (a0T hw) ?_
 refine a0n (b6e hw hg hs) rfl fun H1 l1=> ?_
 simp only[cA,nA]
 rw[if_pos h0]
 refine a0a ⟨_,rfl⟩ ?_
 refine a0j rfl ?_
 refine a0d (c6K (hw.mono l1) hg hs h0.1 (hT.mono l1) (MB.none _) (MB.none _)) rfl ?_
 rintro v3 H2 ⟨l2,w3⟩
 refine⟨fun h=>(nomatch h),?_⟩
 simp only[cA,nA]
 refine a0d (a5m w3) rfl ?_
 rintro v4 H3 ⟨l3,hv4⟩
 refine⟨fun h=>(nomatch h),?_⟩
 simp only[cA,nA]
 obtain⟨m,e,hme⟩:=c2G (b8B s es [] [])
 rw[hme]at hv4
 subst hv4
 refine a0a ⟨_,rfl,by simp⟩ ?_
 refine a0a ⟨_,rfl,by simp⟩ ?_
 refine a0a (a8B m) ?_
 exact a0c rfl ⟨(l1.trans l2).trans l3,hme.symm⟩
end
end Go.Proofs.YtmannekkmdockaaGreatDoor

/- Chapter 32: all spanning trees. -/
import Derived.Test.YtmannekkmdockaaGreatDoorGsY
open Go.Result renaming andThen_ok->eH
open Go.Sem renaming run_bind->eI,run_pure->eJ
open Go.Value.int renaming injEq->kS
open List renaming getElem?_inj->iS,reverse_append->nB
open Nat renaming add_le_add_left->jC,le_add_right->oH,pow_succ->jN
open Option renaming map_eq_some_iff->eY
open Prod.mk renaming injEq->jT
namespace Go.Z
open Proofs.Tryz RowKit RX GS
abbrev Slc:=Option Addr×Nat×Nat
def vs (s:Slc):Value:= .slice s.1 s.2.1 s.2.2
theorem Nq:El prog 100 32 1 false (fun s:Slc=>[vs s]) vs where
 und:=aB
 has:=aB
 cel:=aB
 agg:=aB
 pos:=aC
 one1:=fun _=>rfl
 small:=aC
 inf:=⟨(prog.info? 32).getD default,vs (none,0,0),aB,aB,aB,rfl,oDt aB⟩
 len:=fun _=>rfl
 val:=fun _=>rfl
 cells:=fun _=>rfl
 one:=fun x c hc=>by simp at hc;subst hc;rfl
theorem Ec {H:PH} {sz:Nat} {α:Type} {ce:α->List Value} {v:Value} {l:List α} (h:SE H sz ce v l):∃s,v=vs s:=by
 obtain⟨_,a,c,h2,_⟩:=h;exact⟨(a,l.length,c),h2⟩
theorem nk {H0 H H':PH} {α:Type} {ce:α->List Value} {v:Value} {l:List α} (h:SO H0 H 3 1 ce v l) (hp:H'=H\/∃g ob,H0 g=none/\H'=H.put g ob/\(H g=none\/∃cs,H g=some (.cells cs 32 (0,0)))):SO H0 H' 3 1 ce v l:=by
 rcases hp with rfl|⟨g,ob,_,rfl,hg⟩
 ·exact h
 ·obtain⟨h1,h2|⟨g',cap,cur,h2,h3,h4,h5⟩⟩:=h
  ·exact⟨h1,.inl h2⟩
  ·refine⟨h1,.inr ⟨g',cap,cur,h2,h3,?_,h5⟩⟩;rw[PH.put_ne _ _ (fun e=> ?_)]
   ·exact h4
   ·subst e;rcases hg with hg|⟨cs,hg⟩
    ·rw[hg]at h4;cases h4
    ·rw[hg]at h4
     injection h4 with h4
     injection h4 with _ h4 _
     exact absurd h4 aC
def Az (b:List Int):Nat:=match b.getLast? with|none=>0|some x=>x.toNat+1
theorem PZ (b:List Int) (j:Nat):Az (b++[(j:Int)])=j+1:=by
 unfold Az;rw[List.getLast?_append];rfl
def Zp {α β:Type} (R:α->β->Prop) (m:List α) (L:List β):Prop:=m.length=L.length/\∀(i:Nat) (x:α) (y:β),m[i]? =some x->L[i]? =some y->R x y
section
variable {α β:Type} {R R':α->β->Prop} {m:List α} {L:List β} {x:α} {y:β} {i:Nat}
theorem Zp.nil:Zp R [] []:=⟨rfl,fun i x y h=>by simp at h⟩
theorem Zp.imp (h:Zp R m L) (hR:∀x y,R x y->R' x y):Zp R' m L:=⟨h.1,fun i x y a b=>hR x y (h.2 i x y a b)⟩
theorem Zp.snoc (h:Zp R m L) (uB:R x y):Zp R (m++[x]) (L++[y]):=by
 refine⟨by simp[h.1],fun i a b ha hb=> ?_⟩;have h1:=h.1;by_cases hi:i<m.length
 ·rw[bS hi]at ha;rw[bS aA]at hb;exact h.2 i a b ha hb
 ·rw[bV aA]at ha hb;have pX:=(aH.1 ha).1;have e:i-m.length=0:=by simp at pX;omega
  rw[e]at ha;rw[show i-L.length=0 by omega]at hb;simp only[List.getElem?_cons_zero,dM]at ha hb;subst ha;subst hb;exact uB
theorem Zp.app {m2:List α} {L2:List β} (h:Zp R m L) (h2:Zp R m2 L2):Zp R (m++m2) (L++L2):=by
 refine⟨by simp[h.1,h2.1],fun i a b ha hb=> ?_⟩;have h1:=h.1;by_cases hi:i<m.length
 ·rw[bS hi]at ha;rw[bS aA]at hb;exact h.2 i a b ha hb
 ·rw[bV aA]at ha hb;rw[<-h1]at hb;exact h2.2 _ a b ha hb
theorem Zp.set (h:Zp R m L) (uB:R x y):Zp R (m.set i x) (L.set i y):=by
 refine⟨by simp[h.1],fun j a b ha hb=> ?_⟩;rw[dH]at ha hb;by_cases e:i=j
 ·rw[if_pos e]at ha hb;split at ha
  ·split at hb
   ·injection ha with ha;injection hb with hb
    subst ha;subst hb;exact uB
   ·cases hb
  ·cases ha
 ·rw[if_neg e]at ha hb;exact h.2 j a b ha hb
end
section
variable {es:List (Nat×Nat)} {set j:Nat} {b:List Int} {T T2:List (List Int)}
structure Grw (es:List (Nat×Nat)) (set:Nat) (b:List Int) (j:Nat) (T:List (List Int)):Prop where
 nd:T.Nodup
 mem:∀x,x∈T↔TreeOk es set x/\∃(i:Int) (r:List Int),x=b++i::r/\i<(j:Int)
structure Grn (es:List (Nat×Nat)) (set:Nat) (b:List Int) (T:List (List Int)):Prop where
 nd:T.Nodup
 mem:∀x,x∈T↔TreeOk es set x/\∃r:List Int,x=b++r
theorem Grw.start:Grw es set b (Az b) []:=by
 refine⟨dG,fun x=>⟨(fun h=>by cases h),?_⟩⟩;rintro⟨hT,i,r,rfl,hi⟩;exfalso;have h0:=(hT.ok i aD).1;have zE:=hT.asc;rw[dW]at zE;unfold Az at hi;cases e:b.getLast? with
 |none=>rw[e]at hi;simp only at hi;omega
 |some l=>
  rw[e]at hi;have hl:=List.mem_of_getLast? e;have h1:=zE.2.2 l hl i aD;have h2:=(hT.ok l (by simp[hl])).1;simp only at hi;omega
theorem Grw.skip (h:Grw es set b j T) (wA:∀r,¬TreeOk es set (b++(j:Int)::r)):Grw es set b (j+1) T:=by
 refine⟨h.nd,fun x=> ?_⟩;rw[h.mem];constructor
 ·rintro⟨hT,i,r,e,hi⟩;exact⟨hT,i,r,e,aA⟩
 ·rintro⟨hT,i,r,rfl,hi⟩;refine⟨hT,i,r,rfl,?_⟩;by_cases e:i=(j:Int)
  ·subst e;exact absurd hT (wA r)
  ·omega
theorem Grw.take (h:Grw es set b j T) (h2:Grn es set (b++[(j:Int)]) T2):Grw es set b (j+1) (T++T2):=by
 refine⟨?_,fun x=> ?_⟩
 ·rw[cQ];refine⟨h.nd,h2.nd,fun x hx y hy e=> ?_⟩;subst e;obtain⟨_,i,r,rfl,hi⟩:=(h.mem x).1 hx;obtain⟨_,r',e⟩:=(h2.mem _).1 hy;rw[bH,List.append_cancel_left_eq]at e
  injection e with e _
  omega
 ·rw[aQ,h.mem,h2.mem];constructor
  ·rintro(⟨hT,i,r,e,hi⟩|⟨hT,r,e⟩)
   ·exact⟨hT,i,r,e,aA⟩
   ·exact⟨hT,(j:Int),r,by rw[e,bH];rfl,aA⟩
  ·rintro⟨hT,i,r,rfl,hi⟩;by_cases e:i=(j:Int)
   ·subst e;exact .inr ⟨hT,r,by rw[bH];rfl⟩
   ·exact .inl ⟨hT,i,r,rfl,aA⟩
theorem Grw.end (h:Grw es set b j T) (hj:es.length<=j) (qC:¬b.length+1=card set):Grn es set b T:=by
 refine⟨h.nd,fun x=> ?_⟩;rw[h.mem];constructor
 ·rintro⟨hT,i,r,e,_⟩;exact⟨hT,_,e⟩
 ·rintro⟨hT,r,rfl⟩;cases r with
  |nil=>exact absurd (by have:=hT.len;rwa[bQ]at this) qC
  |cons i r=>exact⟨hT,i,r,rfl,by have:=(hT.ok i aD);have h1:=this.2.1;have h0:=this.1;omega⟩
theorem Grn.full (hT:TreeOk es set b):Grn es set b [b]:=by
 refine⟨aD,fun x=> ?_⟩;rw[aL];constructor
 ·rintro rfl;exact⟨hT,[],aD⟩
 ·rintro⟨h,r,rfl⟩;have h1:=h.len;have h2:=hT.len;rw[aM]at h1;rw[aI (show r.length=0 by omega),bQ]
theorem Grn.perm (h:Grn es set [] T):T.Perm (trees es set):=
 (List.perm_ext_iff_of_nodup h.nd nj).2 fun x=>by
  rw[h.mem,trees_mem];exact⟨fun h=>h.1,fun h=>⟨h,x,rfl⟩⟩
theorem QA (h:¬OkI es set (j:Nat)) (r:List Int):¬TreeOk es set (b++(j:Int)::r):=fun hT=>h (hT.ok (j:Int) aD)
theorem QB (hs:set<M64) (hB:Beg es set b) (hok:OkI es set (j:Nat)) (hr:bit (Fz (etl es b) (Ed es (j:Nat)).1) (Ed es (j:Nat)).2=true) (r:List Int):¬TreeOk es set (b++(j:Int)::r):=fun hT=>by
 have zQ:=hT.acy b.length (Ed es (j:Nat)) aD (by rw[zx (x:=(j:Int))];simp);rw[zw,List.take_left' rfl]at zQ;exact zQ ((Px hB.inn hok.2.2.1 hok.2.2.2).2 (hB.cyc hs hok hr))
end
set_option maxHeartbeats 1000000 in
theorem b6a {n:Nat} {es:List (Nat×Nat)} {set:Nat} (hg:GV n es) (hs:set<2^n) (h0:set≠0) (h36:Aw es set 0<=36):∀(k:Nat) (b:List Int) (u:Value) (H:PH) {w:Value},es.length-Az b<=k->SG H w es->SI H u b->Beg es set b->
  Con prog 86 [gv n w,uv set,u] H fun r H'=>Pl H H'/\∃l,SO H H' 32 1 (fun s:Slc=>[vs s]) r l/\(∃T,Zp (fun s t=>SO H H' 3 1 (fun z:Int=>[ii z]) (vs s) t) l T/\Grn es set b T)/\l.length<=2^Aw es set (Az b):=by
 have qV:=By hg.n64 hs;have hes:=hg.len;have rM:=hg.n64;intro k;induction k using Nat.strongRecOn with
 |_ k ih0=>
 intro b u H w hk hw hu hB;have rH:∀i∈b,0<=i/\i.toNat<es.length:=fun i hi=>⟨(hB.ok i hi).1,(hB.ok i hi).2.1⟩;have zJ:=hB.len qV h0;have vP:=Jk set;have ih:∀m,m<es.length-Az b->∀(b:List Int) (u:Value) (H:PH) {w:Value},es.length-Az b<=m->SG H w es->SI H u b->Beg es set b->Con prog 86 [gv n w,uv set,u] H fun r H'=>Pl H H'/\∃l,SO H H' 32 1 (fun s:Slc=>[vs s]) r l/\(∃T,Zp (fun s t=>SO H H' 3 1 (fun z:Int=>[ii z]) (vs s) t) l T/\Grn es set b T)/\l.length<=2^Aw es set (Az b):=fun m hm=>ih0 m aA;refine i9 mixed c3Q ?_;refine d4 (t8 hw) ?_;refine j1 el_int hu ?_;refine s6 (NM qV) rfl ?_;refine d9 (d9 ?_);refine j8 (p:=(b.length+1=card set)) (by show Value.bool (((b.length:Nat):Int)==intOf (D prog _ (.op2 .sub .i64 (.v 4) (.k (.int .i64 1)))))=_;rw[Ks (x:=(card set:Nat)) (y:=1) rfl rfl aA aA];show Value.bool (((b.length:Nat):Int)==((card set:Nat):Int)-1)=_;rw[bE];congr 1;apply decide_eq_decide.2;omega) (fun qC=> ?_) fun qC=> ?_
 ·refine jw el_int rfl rfl fun v1 H1 l1 o1 _=> ?_;refine Kr el_int rfl rfl rfl l1 o1 (hu.mono l1) (by simp;omega) rfl rfl fun v2 H2 l2 o2 _=> ?_;obtain⟨s,rfl⟩:=Ec o2.se;refine Me Nq (a:=s) rfl rfl rfl fun v3 H3 l3 o3 _=> ?_;exact g6 rfl ⟨l2.trans l3,[s],o3.less l2,⟨[b],Zp.snoc (m:=[]) (L:=[]) Zp.nil (o2.mono l3),Grn.full (hB.tree qC)⟩,Nat.one_le_two_pow⟩
 ·refine j1 el_int hu ?_;refine d9 ?_;refine g7 (b:=decide (((b.length:Nat):Int)>0)) rfl (fun h1=> ?_) (fun h1=> ?_)
  ·replace h1:=oDt h1;obtain⟨m,hm⟩:∃m,b.length=m+1:=⟨b.length-1,aA⟩;have hbm:b[m]? =some b[m]:=aJ aA;have hgl:b.getLast? =some b[m]:=by rw[List.getLast?_eq_getElem?,show b.length-1=m by omega];exact hbm
   have hvm:=rH b[m] (dS _);have a3d:Az b=b[m].toNat+1:=by unfold Az;rw[hgl]
   have pX:∀i∈b,i<(Az b:Nat):=by
    intro i hi;obtain⟨q,hq,rfl⟩:=List.mem_iff_getElem.1 hi;have:b[q]<=b[m]:=by
     by_cases e:q=m
     ·subst e;exact Int.le_refl _
     ·exact Int.le_of_lt (cU.1 hB.asc q m hq aA aA)
    omega
   have hfl:Az b<=es.length:=aA;refine j1 el_int hu ?_;refine d9 ?_;refine Ey el_int rfl rfl rfl rfl aE hu hbm (i7 rfl (by rw[Ks (x:=(b.length:Nat)) (y:=1) rfl rfl aA aA];show ii _=ii _;congr 1;omega)) aE fun _=> ?_;refine d9 ?_;refine s8 (α:=Value×List Slc×Nat) (fun⟨v,l,j⟩=>[v,ii (j:Nat)]) (fun⟨v,l,j⟩=>fun H'=>j<=es.length/\Az b<=j/\Pl H H'/\SO H H' 32 1 (fun s:Slc=>[vs s]) v l/\(∃T,Zp (fun s t=>SO H H' 3 1 (fun z:Int=>[ii z]) (vs s) t) l T/\Grw es set b j T)/\l.length+2^Aw es set j<=2^Aw es set (Az b)) (fun⟨v,l,j⟩=>es.length-j) ((.slice none 0 0,[],Az b)) (i7 rfl (by rw[Zh (x:=b[m]) (y:=1) rfl rfl aA aA];show ii _=ii _;congr 1;omega)) (⟨hfl,aS _,Pl.refl _,SO.nil _ _ _ _ _,⟨[],Zp.nil,Grw.start⟩,aD⟩) fun⟨v,l,j⟩ H' hQ=> ?_;obtain⟨hj,hfj,l1,o1,⟨T,wG,zN⟩,wN⟩:=hQ;refine j1 el_edge (hw.mono l1) ?_;refine d9 (d9 ?_);refine g7 (b:=decide (((j:Nat):Int)<(es.length:Nat))) rfl (fun h9=> ?_) (fun h9=> ?_)
   ·replace h9:=oDt h9;have sU:j<es.length:=aA;have tR:=Fa sU;have hed:=hg.mem tR;have xC:2^Aw es set (j+1)<=2^Aw es set j:=aR aC (me es set j);refine s6 (zy (hw.mono l1) hg qV (j:Nat)) rfl ?_;refine d9 ?_;refine g7 (b:= !decide (OkI es set (j:Nat))) rfl (fun h2=> ?_) (fun h2=> ?_)
    ·skip
     exact⟨(v,l,j+1),by show es.length-(j+1)<es.length-j;omega,(i7 rfl (i6 rfl aA)),⟨sU,by show Az b<=j+1;omega,l1,o1,⟨T,wG,zN.skip (QA (by simpa using h2))⟩,bD (jC xC _) wN⟩⟩
    ·skip
     have hok:OkI es set (j:Nat):=by simpa using h2
     have qP:inB set (Ed es (j:Nat))=true:=by unfold inB;rw[hok.2.2.1,hok.2.2.2];rfl
     refine Kt rfl rfl rfl rfl rfl aE aE aE (hw.mono l1) tR rfl aE (fun _ _=>rfl) fun _ _=> ?_;refine Nk rfl rfl rfl rfl rfl aE aE aE (hw.mono l1) tR rfl aE (fun _ _=>rfl) fun _ _=> ?_;refine s6 (md (hw.mono l1) hg (hu.mono l1) rH (x:=(Ed es (j:Nat)).1) aA) rfl ?_;have hR:=(Ku (L:=etl es b) (Vp hg rH) (x:=(Ed es (j:Nat)).1) aA).1;simp only[cA,nA];refine y8 (Dq hR aA) rfl ?_;refine d9 ?_;refine g7 (b:=bit (Fz (etl es b) (Ed es (j:Nat)).1) (Ed es (j:Nat)).2) rfl (fun h3=> ?_) (fun h3=> ?_)
     ·skip
      exact⟨(v,l,j+1),by show es.length-(j+1)<es.length-j;omega,(i7 rfl (i6 rfl aA)),⟨sU,by show Az b<=j+1;omega,l1,o1,⟨T,wG,zN.skip (QB qV hB hok h3)⟩,bD (jC xC _) wN⟩⟩
     ·skip
      have uN:=hB.snoc qV (fun i hi=>by have:=pX i hi;omega) hok h3;have hfo:Az (b++[(j:Int)])=j+1:=PZ b j;refine LW el_int rfl rfl fun b1 qX=> ?_;refine LX el_int rfl rfl rfl (PH.put_self _ _ _) (hu.mono (l1.trans (PH.le_put qX _))) aA rfl fun v2 H2 l2 _ o2=> ?_;have o2:=o2 H' (PH.le_put qX _) qX;refine Ve el_int (a:=(j:Int)) rfl rfl rfl fun b3 yB=> ?_;refine Kr el_int rfl rfl rfl (((PH.le_put qX _).trans l2).trans (PH.le_put yB _)) (o2.mono (PH.le_put yB _)) (Pm (l:=[(j:Int)]) (PH.put_self _ _ _) rfl rfl (show 1<=maxLen by decide)) (by show b.length+1<=_;omega) rfl rfl fun v4 H4 l4 o4 _=> ?_;have lc4:Pl H H4:=l1.trans l4;refine g9 (ih (es.length-(j+1)) aA (b++[(j:Int)]) v4 H4 (by rw[hfo];exact aS _) (hw.mono lc4) o4.se uN) rfl ?_;rintro r2 H5 ⟨l5,t2,o5,⟨T2,a1s,a1t⟩,a0m⟩;refine nmI ?_;rw[hfo]at a0m;have hic:=zz tR qP;have a5k:2^Aw es set j=2*2^Aw es set (j+1):=by rw[hic,jN,cX]
      have a5l:2^Aw es set (Az b)<=2^36:=aR aC (bD (NZ es set (bI _)) h36);refine Pj Nq rfl rfl rfl (lc4.trans l5) (o1.mono (l4.trans l5)) o5.se aA rfl rfl fun v6 H6 l6 o6 rD=> ?_;exact⟨(v6,l++t2,j+1),by show es.length-(j+1)<es.length-j;omega,(i7 rfl (i6 rfl aA)),⟨sU,by show Az b<=j+1;omega,l6,o6,⟨T++T2,Zp.app (wG.imp fun _ _ ho=>nk (ho.mono (l4.trans l5)) rD) (a1s.imp fun _ _ ho=>nk (ho.less lc4) rD),zN.take a1t⟩,by rw[aM];show _+2^Aw es set (j+1)<=_;omega⟩⟩
   ·replace h9:=oDf h9;exact g6 rfl ⟨l1,l,o1,⟨T,wG,zN.end aA qC⟩,bD (oH _ _) wN⟩
  ·replace h1:=oDf h1;have sN:b=[]:=aI aA;have a3d:Az b=0:=by rw[sN];rfl
   have pX:∀i∈b,i<(Az b:Nat):=fun i hi=>by rw[sN]at hi;cases hi
   have hfl:Az b<=es.length:=aA;refine s8 (α:=Value×List Slc×Nat) (fun⟨v,l,j⟩=>[v,ii (j:Nat)]) (fun⟨v,l,j⟩=>fun H'=>j<=es.length/\Az b<=j/\Pl H H'/\SO H H' 32 1 (fun s:Slc=>[vs s]) v l/\(∃T,Zp (fun s t=>SO H H' 3 1 (fun z:Int=>[ii z]) (vs s) t) l T/\Grw es set b j T)/\l.length+2^Aw es set j<=2^Aw es set (Az b)) (fun⟨v,l,j⟩=>es.length-j) ((.slice none 0 0,[],Az b)) (i7 rfl (by rw[a3d];rfl)) (⟨hfl,aS _,Pl.refl _,SO.nil _ _ _ _ _,⟨[],Zp.nil,Grw.start⟩,aD⟩) fun⟨v,l,j⟩ H' hQ=> ?_;obtain⟨hj,hfj,l1,o1,⟨T,wG,zN⟩,wN⟩:=hQ;refine j1 el_edge (hw.mono l1) ?_;refine d9 (d9 ?_);refine g7 (b:=decide (((j:Nat):Int)<(es.length:Nat))) rfl (fun h9=> ?_) (fun h9=> ?_)
   ·replace h9:=oDt h9;have sU:j<es.length:=aA;have tR:=Fa sU;have hed:=hg.mem tR;have xC:2^Aw es set (j+1)<=2^Aw es set j:=aR aC (me es set j);refine s6 (zy (hw.mono l1) hg qV (j:Nat)) rfl ?_;refine d9 ?_;refine g7 (b:= !decide (OkI es set (j:Nat))) rfl (fun h2=> ?_) (fun h2=> ?_)
    ·skip
     exact⟨(v,l,j+1),by show es.length-(j+1)<es.length-j;omega,(i7 rfl (i6 rfl aA)),⟨sU,by show Az b<=j+1;omega,l1,o1,⟨T,wG,zN.skip (QA (by simpa using h2))⟩,bD (jC xC _) wN⟩⟩
    ·skip
     have hok:OkI es set (j:Nat):=by simpa using h2
     have qP:inB set (Ed es (j:Nat))=true:=by unfold inB;rw[hok.2.2.1,hok.2.2.2];rfl
     refine Kt rfl rfl rfl rfl rfl aE aE aE (hw.mono l1) tR rfl aE (fun _ _=>rfl) fun _ _=> ?_;refine Nk rfl rfl rfl rfl rfl aE aE aE (hw.mono l1) tR rfl aE (fun _ _=>rfl) fun _ _=> ?_;refine s6 (md (hw.mono l1) hg (hu.mono l1) rH (x:=(Ed es (j:Nat)).1) aA) rfl ?_;have hR:=(Ku (L:=etl es b) (Vp hg rH) (x:=(Ed es (j:Nat)).1) aA).1;simp only[cA,nA];refine y8 (Dq hR aA) rfl ?_;refine d9 ?_;refine g7 (b:=bit (Fz (etl es b) (Ed es (j:Nat)).1) (Ed es (j:Nat)).2) rfl (fun h3=> ?_) (fun h3=> ?_)
     ·skip
      exact⟨(v,l,j+1),by show es.length-(j+1)<es.length-j;omega,(i7 rfl (i6 rfl aA)),⟨sU,by show Az b<=j+1;omega,l1,o1,⟨T,wG,zN.skip (QB qV hB hok h3)⟩,bD (jC xC _) wN⟩⟩
     ·skip
      have uN:=hB.snoc qV (fun i hi=>by have:=pX i hi;omega) hok h3;have hfo:Az (b++[(j:Int)])=j+1:=PZ b j;refine LW el_int rfl rfl fun b1 qX=> ?_;refine LX el_int rfl rfl rfl (PH.put_self _ _ _) (hu.mono (l1.trans (PH.le_put qX _))) aA rfl fun v2 H2 l2 _ o2=> ?_;have o2:=o2 H' (PH.le_put qX _) qX;refine Ve el_int (a:=(j:Int)) rfl rfl rfl fun b3 yB=> ?_;refine Kr el_int rfl rfl rfl (((PH.le_put qX _).trans l2).trans (PH.le_put yB _)) (o2.mono (PH.le_put yB _)) (Pm (l:=[(j:Int)]) (PH.put_self _ _ _) rfl rfl (show 1<=maxLen by decide)) (by show b.length+1<=_;omega) rfl rfl fun v4 H4 l4 o4 _=> ?_;have lc4:Pl H H4:=l1.trans l4;refine g9 (ih (es.length-(j+1)) aA (b++[(j:Int)]) v4 H4 (by rw[hfo];exact aS _) (hw.mono lc4) o4.se uN) rfl ?_;rintro r2 H5 ⟨l5,t2,o5,⟨T2,a1s,a1t⟩,a0m⟩;refine nmI ?_;rw[hfo]at a0m;have hic:=zz tR qP;have a5k:2^Aw es set j=2*2^Aw es set (j+1):=by rw[hic,jN,cX]
      have a5l:2^Aw es set (Az b)<=2^36:=aR aC (bD (NZ es set (bI _)) h36);refine Pj Nq rfl rfl rfl (lc4.trans l5) (o1.mono (l4.trans l5)) o5.se aA rfl rfl fun v6 H6 l6 o6 rD=> ?_;exact⟨(v6,l++t2,j+1),by show es.length-(j+1)<es.length-j;omega,(i7 rfl (i6 rfl aA)),⟨sU,by show Az b<=j+1;omega,l6,o6,⟨T++T2,Zp.app (wG.imp fun _ _ ho=>nk (ho.mono (l4.trans l5)) rD) (a1s.imp fun _ _ ho=>nk (ho.less lc4) rD),zN.take a1t⟩,by rw[aM];show _+2^Aw es set (j+1)<=_;omega⟩⟩
   ·replace h9:=oDf h9;exact g6 rfl ⟨l1,l,o1,⟨T,wG,zN.end aA qC⟩,bD (oH _ _) wN⟩
end Go.Z
namespace Go.RX
open RowKit RZ
def mE (es:List (Int×Int×Nat)):List MapEntry:=es.map fun p=>⟨.int .i64 p.1,.int .i64 p.2.1,p.2.2⟩
def kv (es:List (Int×Int×Nat)):List (Int×Int):=es.map fun p=>(p.1,p.2.1)
def MI (H:PH) (m:Value) (L:List (Int×Int)):Prop:=(L.map (·.1)).Nodup/\∃r es clock,m= .map (some r)/\H r=some (.map (mE es).toArray clock)/\kv es=L
def MO (B H:PH) (m:Value) (L:List (Int×Int)):Prop:=(L.map (·.1)).Nodup/\∃r es clock,m= .map (some r)/\B r=none/\H r=some (.map (mE es).toArray clock)/\kv es=L
theorem MO.mi {B H:PH} {m:Value} {L:List (Int×Int)} (h:MO B H m L):MI H m L:=by
 obtain⟨h0,r,es,c,h1,_,h2,h3⟩:=h;exact⟨h0,r,es,c,h1,h2,h3⟩
theorem MO.mono {B H H':PH} {m:Value} {L:List (Int×Int)} (h:MO B H m L) (hl:Pl H H'):MO B H' m L:=by
 obtain⟨h0,r,es,c,h1,h4,h2,h3⟩:=h;exact⟨h0,r,es,c,h1,h4,hl _ _ h2,h3⟩
theorem MI.mono {H H':PH} {m:Value} {L:List (Int×Int)} (h:MI H m L) (hl:Pl H H'):MI H' m L:=by
 obtain⟨h0,r,es,c,h1,h2,h3⟩:=h;exact⟨h0,r,es,c,h1,hl _ _ h2,h3⟩
def Kw (L:List (Int×Int)) (k v:Int):List (Int×Int):=if k∈L.map (·.1)then L.map fun p=>if p.1=k then(k,v)else p else L++[(k,v)]
theorem QC {L:List (Int×Int)} {k v:Int} (h:(L.map (·.1)).Nodup):((Kw L k v).map (·.1)).Nodup:=by
 unfold Kw;split
 ·rw[cZ];have:((fun p:Int×Int=>p.1) ∘ fun p:Int×Int=>if p.1=k then(k,v)else p)=fun p:Int×Int=>p.1:=by
   funext p;simp only[Function.comp];split
   ·rename_i e;exact e.symm
   ·rfl
  rw[this];exact h
 ·rename_i hk;rw[aT,cQ];refine⟨h,aD,fun a ha b hb=> ?_⟩;simp only[aN,bJ,aL]at hb;subst hb;intro e;subst e;exact hk ha
section
variable {P:Program} {H:PH} {o:Oper} {x y z:Operand} {T kt et:TypeId}
theorem d4U (es:List (Int×Int×Nat)):∀e∈mE es,∃b,e.key= .int .i64 b:=fun e he=>by
 obtain⟨p,_,rfl⟩:=aY.1 he;exact⟨p.1,rfl⟩
theorem QD {L:List (Int×Int)} {es:List (Int×Int×Nat)} (tC:kv es=L) (k:Int):
  (Instr.findNow (.int .i64) (.int .i64 k) (mE es) 0=some none/\k∉L.map (·.1))\/∃j p,Instr.findNow (.int .i64) (.int .i64 k) (mE es) 0=some (some (j,.int .i64 p.2.1))/\es[j]? =some p/\p.1=k:=by
 rcases ky (q:= .i64) (n:=k) (mE es) 0 (d4U es)with⟨h1,h2⟩|⟨j,e,h1,h2,h3⟩
 ·refine .inl ⟨h1,fun hk=> ?_⟩;subst tC;unfold kv at hk;rw[cZ]at hk;obtain⟨p,hp,e⟩:=aY.1 hk;exact h2 _ (aY.2 ⟨p,hp,rfl⟩) (by simp only[Function.comp]at e;rw[<-e])
 ·unfold mE at h2;rw[bO]at h2;obtain⟨p,hp,rfl⟩:=eY.1 h2;refine .inr ⟨j,p,by rw[h1,bK],hp,?_⟩;simp only[kS,true_and]at h3;exact h3
theorem QE {B:PH} {vs:List Value} {m:Value} {L:List (Int×Int)} {k v:Int} (ho:o.op= .mapUpdate T x y z) (hx:g8 [x,y,z] vs x=m) (hy:g8 [x,y,z] vs y= .int .i64 k) (hz:g8 [x,y,z] vs z= .int .i64 v) (hu:P.underlying T=some (.map kt et)) (hk:P.underlying kt=some (.int .i64))
  (pY:Pl B H) (h:MO B H m L):Opn P o vs H fun u H'=>u=undef/\Pl B H'/\MO B H' m (Kw L k v)/\∃g ob E c,B g=none/\H g=some (.map E c)/\H'=H.put g ob:=fun w hw=>by
 obtain⟨h0,r,es,clock,rfl,hB,hH,tC⟩:=h;have qK:o.op.operands.toList=[x,y,z]:=by simp[ho,Op.operands]
 have hb:=hw _ _ hH;unfold Stp;rw[qK];have wR:∀ob,Pl B (H.put r ob):=fun ob c cb hc=>by
  rw[PH.put_ne _ _ (fun e=>by subst e;rw[hB]at hc;cases hc)];exact pY _ _ hc
 simp only[execOp,ho,hx,hy,hz,eI,Instr.mapUpdate,run_underlying hu,eH,Lp hb,Ya hk,Instr.findKey,run_underlying hk];rcases QD tC k with⟨h1,h2⟩|⟨j,p,h1,h2,h3⟩
 ·rw[h1];simp only[eH,eJ,gd _ hb];refine⟨_,Step.setB hw hH _,by first|rfl|trivial,wR _,⟨QC h0,r,es++[(k,v,clock)],clock+1,rfl,hB,?_,?_⟩,r,_,_,_,hB,hH,rfl⟩
  ·rw[PH.put_self];simp[mE]
  ·unfold Kw;rw[if_neg h2,<-tC];simp[kv]
 ·rw[h1];have qI:∀w:World,(Instr.keyThatStays (.int .i64 k) (.int .i64 k)).run P w= .ok (.int .i64 k) w:=fun w=>by simp[Instr.keyThatStays,Instr.sameBits]
  have hje:((mE es).toArray[j]?.map (·.key)).getD (.int .i64 k)= .int .i64 k:=by
   simp[mE,h2,h3]
  simp only[eH,eJ,hje,eI,qI,gd _ hb];refine⟨_,Step.setB hw hH _,by first|rfl|trivial,wR _,⟨QC h0,r,es.set j (k,v,p.2.2),clock,rfl,hB,?_,?_⟩,r,_,_,_,hB,hH,rfl⟩
  ·rw[PH.put_self];congr 2;rw[<-cI];simp only[Array.toList_modify];apply bG;intro i;simp only[List.getElem?_modify,mE,bO,dH];by_cases e:j=i
   ·subst e;obtain⟨a0n,h5⟩:=aH.1 h2;simp[a0n,h5,h3]
   ·simp[e]
  ·have sB:k∈L.map (·.1):=by
    rw[<-tC];unfold kv;rw[cZ];exact aY.2 ⟨p,aG h2,h3⟩
   unfold Kw;rw[if_pos sB,<-tC];rw[<-tC]at h0;unfold kv at h0⊢;rw[cZ]at h0⊢;apply bG;intro i;simp only[bO,dH,Function.comp];by_cases e:j=i
   ·subst e;obtain⟨a0n,h5⟩:=aH.1 h2;simp[a0n,h5,h3]
   ·rw[if_neg e];cases hi:es[i]? with
    |none=>rfl
    |some q=>
     have qC:q.1≠k:=fun e2=>e (by
      have l1:=(aH.1 h2).1;refine(iS (by simpa using l1) h0).1 ?_;rw[bO,bO,h2,hi];simp[h3,e2])
     simp[qC]
theorem c4R {vs:List Value} {m:Value} {L:List (Int×Int)} {k:Int} {ok:Bool} {w:World} (ho:o.op= .lookup T x y ok) (hx:g8 [x,y] vs x=m) (hy:g8 [x,y] vs y= .int .i64 k) (hu:P.underlying T=some (.map kt et)) (hk:P.underlying kt=some (.int .i64)) (hz:∀w,(zeroValue et).run P w= .ok (.int .i64 0) w) (h:MI H m L) (hw:H.In w) (u:Int) (b:Bool)
  (yJ:(b=false/\u=0/\k∉L.map (·.1))\/(b=true/\(k,u)∈L)):(execOp (g8 o.op.operands.toList vs) o).run P w= .ok (.value (if ok then .tuple #[.int .i64 u,.bool b]else .int .i64 u)) w:=by
 obtain⟨h0,r,es,clock,rfl,hH,tC⟩:=h;have qK:o.op.operands.toList=[x,y]:=by simp[ho,Op.operands]
 have hb:=hw _ _ hH;rw[qK];simp only[execOp,ho,hx,hy,eI,Instr.lookup,run_underlying hu,eH,Lp hb,eJ,Ya hk,Instr.findKey,run_underlying hk];rcases QD tC k with⟨h1,h2⟩|⟨j,p,h1,h2,h3⟩
 ·rcases yJ with⟨rfl,rfl,_⟩|⟨_,hm⟩
  ·rw[h1];simp[hz]
  ·exact absurd (aY.2 ⟨_,hm,rfl⟩) h2
 ·have tQ:(k,p.2.1)∈L:=by
   rw[<-tC];unfold kv;exact aY.2 ⟨p,aG h2,by rw[h3]⟩
  rcases yJ with⟨_,_,hn⟩|⟨rfl,hm⟩
  ·exact absurd (aY.2 ⟨_,tQ,rfl⟩) hn
  ·have:p.2.1=u:=by
    obtain⟨i1,m1⟩:=cN.1 tQ;obtain⟨i2,m2⟩:=cN.1 hm;have l1:=(aH.1 m1).1;have:i1=i2:=(iS (by simpa using l1) h0).1 (by rw[bO,bO,m1,m2];rfl);subst this;rw[m1]at m2;simp only[dM,jT,true_and]at m2;exact m2
   rw[h1,this];simp
theorem AZ {vs:List Value} {m:Value} {L:List (Int×Int)} {k u:Int} {b:Bool} (ho:o.op= .lookup T x y true) (hx:g8 [x,y] vs x=m) (hy:g8 [x,y] vs y= .int .i64 k) (hu:P.underlying T=some (.map kt et)) (hk:P.underlying kt=some (.int .i64)) (hz:∀w,(zeroValue et).run P w= .ok (.int .i64 0) w) (h:MI H m L)
  (yJ:(b=false/\u=0/\k∉L.map (·.1))\/(b=true/\(k,u)∈L)):Rds P o vs H (.tuple #[.int .i64 u,.bool b]):=fun w hw=>by
 rw[c4R ho hx hy hu hk hz h hw u b yJ];rfl
theorem nl {t:TypeId} {vs:List Value} {m:Value} {L:List (Int×Int)} (ho:o.op= .call ⟨.builtin .len,#[x],#[t]⟩) (hx:g8 [x] vs x=m) (hu:P.underlying t=some (.map kt et)) (h:MI H m L):Rds P o vs H (.int .i64 (L.length:Nat)):=by
 obtain⟨h0,r,es,clock,rfl,hH,tC⟩:=h;have:=c8I (P:=P) ho hx hu hH;have e:(mE es).toArray.size=L.length:=by rw[<-tC];simp[mE,kv]
 rw[e]at this;exact this
theorem c4S (ho:o.op= .makeMap T none):Opn P o [] H fun v H'=>Pl H H'/\MO H H' v []:=fun w hw=>by
 refine(uu (P:=P) (H:=H) ho w hw).mono ?_;rintro u w' ⟨H',hs,r,hr,rfl,rfl⟩;exact⟨_,hs,PH.le_put hr _,dG,r,[],0,rfl,hr,by rw[PH.put_self];rfl,rfl⟩
end
def bE (es:List (Int×Nat)):List MapEntry:=es.map fun p=>⟨.int .i64 p.1,.bool true,p.2⟩
def MB (H:PH) (m:Value) (S:List Int):Prop:=S.Nodup/\((m= .map none/\S=[])\/∃r es clock,m= .map (some r)/\H r=some (.map (bE es).toArray clock)/\es.map (·.1)=S)
theorem MB.none (H:PH):MB H (.map none) []:=⟨dG,.inl ⟨rfl,rfl⟩⟩
theorem MB.mono {H H':PH} {m:Value} {S:List Int} (h:MB H m S) (hl:Pl H H'):MB H' m S:=by
 obtain⟨h0,h|⟨r,es,c,h1,h2,h3⟩⟩:=h
 ·exact⟨h0,.inl h⟩
 ·exact⟨h0,.inr ⟨r,es,c,h1,hl _ _ h2,h3⟩⟩
section
variable {P:Program} {H:PH} {o:Oper} {x y z:Operand} {T kt et:TypeId}
theorem d4V (es:List (Int×Nat)):∀e∈bE es,∃b,e.key= .int .i64 b:=fun e he=>by
 obtain⟨p,_,rfl⟩:=aY.1 he;exact⟨p.1,rfl⟩
theorem d4W {S:List Int} {es:List (Int×Nat)} (tC:es.map (·.1)=S) (k:Int):
  (Instr.findNow (.int .i64) (.int .i64 k) (bE es) 0=some none/\k∉S)\/∃j p,Instr.findNow (.int .i64) (.int .i64 k) (bE es) 0=some (some (j,.bool true))/\es[j]? =some p/\p.1=k:=by
 rcases ky (q:= .i64) (n:=k) (bE es) 0 (d4V es)with⟨h1,h2⟩|⟨j,e,h1,h2,h3⟩
 ·refine .inl ⟨h1,fun hk=> ?_⟩;subst tC;obtain⟨p,hp,e⟩:=aY.1 hk;exact h2 _ (aY.2 ⟨p,hp,rfl⟩) (by simp only;rw[<-e])
 ·unfold bE at h2;rw[bO]at h2;obtain⟨p,hp,rfl⟩:=eY.1 h2;refine .inr ⟨j,p,by rw[h1,bK],hp,?_⟩;simp only[kS,true_and]at h3;exact h3
theorem QF {vs:List Value} {m:Value} {S:List Int} {k:Int} (ho:o.op= .lookup T x y false) (hx:g8 [x,y] vs x=m) (hy:g8 [x,y] vs y= .int .i64 k) (hu:P.underlying T=some (.map kt et)) (hk:P.underlying kt=some (.int .i64)) (hz:∀w,(zeroValue et).run P w= .ok (.bool false) w) (h:MB H m S):Rds P o vs H (.bool (decide (k∈S))):=fun w hw=>by
 have qK:o.op.operands.toList=[x,y]:=by simp[ho,Op.operands]
 rw[qK];obtain⟨h0,⟨rfl,rfl⟩|⟨r,es,clock,rfl,hH,tC⟩⟩:=h
 ·simp[execOp,ho,hx,hy,eI,Instr.lookup,run_underlying hu,eH,eJ,Ya hk,hz,Instr.findKey,run_underlying hk,Instr.findNow]
 ·have hb:=hw _ _ hH;simp only[execOp,ho,hx,hy,eI,Instr.lookup,run_underlying hu,eH,Lp hb,eJ,Ya hk,Instr.findKey,run_underlying hk];rcases d4W tC k with⟨h1,h2⟩|⟨j,p,h1,h2,h3⟩
  ·rw[h1];simp[hz,h2]
  ·have:k∈S:=by rw[<-tC];exact aY.2 ⟨p,aG h2,h3⟩
   rw[h1];simp[this]
end
end Go.RX
namespace Go.GS
def blk (k:Nat):List Nat:=(List.range k).reverse
theorem QG (k:Nat):blk (k+1)=k::blk k:=by unfold blk;rw[List.range_succ,nB];rfl
theorem nq (k:Nat):(blk k).length=k:=by unfold blk;simp
def gk (F:Nat->Nat->Int) (k i j:Nat):Int:=dt (j::blk k) (F i::(blk k).map F)
def pk (F:Nat->Nat->Int) (k:Nat):Int:=dt (blk k) ((blk k).map F)
section
variable {F:Nat->Nat->Int} {k i j n:Nat}
theorem nr (F:Nat->Nat->Int) (k:Nat):gk F k k k=pk F (k+1):=by unfold gk pk;rw[QG];rfl
theorem QH (F:Nat->Nat->Int):pk F 0=1:=rfl
theorem d4X (F:Nat->Nat->Int) (i j:Nat):gk F 0 i j=F i j:=by simp[gk,blk,dt,dx]
theorem d4Y:pk F k*gk F (k+1) i j=gk F k i j*gk F k k k-gk F k i k*gk F k k j:=by
 have:=d4E (blk k) ((blk k).map F) (F k) (F i) k j;unfold gk pk;rw[QG,aN,this]
 grind
theorem d8l (h:pk F k≠0):(gk F k i j*gk F k k k-gk F k i k*gk F k k j)/pk F k=gk F (k+1) i j:=by
 rw[<-d4Y,Int.mul_ediv_cancel_left _ h]
theorem c9s {B:Nat} (h:∀i j,(F i j).natAbs<=B) (k i j:Nat):(gk F k i j).natAbs<=((k+1)*B)^(k+1):=by
 have:=AQ (B:=B) (j::blk k) (F i::(blk k).map F) (k+1) (by simp[nq]) (fun r hr c hc=>by
  rcases aP.1 hr with rfl|hr
  ·exact h _ _
  ·obtain⟨x,_,rfl⟩:=aY.1 hr;exact h _ _)
 unfold gk;simpa[nq]using this
end
theorem QI {C R:Type} (φ:R->C) (c:R) (cs:List R) (ih:∀l:List (C->Int),dt (cs.map φ) l=dt cs (l.map fun r x=>r (φ x))):∀(l p:List (C->Int)),dx (φ c) (dt (cs.map φ)) p l=dx c (dt cs) (p.map fun r x=>r (φ x)) (l.map fun r x=>r (φ x))
 |[],_=>rfl
 |x::l,p=>by
  simp only[aN,dx];rw[ih,QI φ c cs ih l (p++[x]),aT,aT];rfl
theorem QJ {C R:Type} (φ:R->C):∀(cs:List R) (l:List (C->Int)),dt (cs.map φ) l=dt cs (l.map fun r x=>r (φ x))
 |[],[]=>rfl
 |[],_::_=>rfl
 |c::cs,l=>QI φ c cs (QJ φ cs) l []
def Nr (E:List (Nat×Nat)) (lab:Nat->Nat) (V:List Nat) (i j:Nat):Int:=Fm E (cv lab (V.getD i 0)) (cv lab (V.getD j 0))
theorem c9u (V:List Nat) {k:Nat} (hk:k<=V.length):(blk k).map (fun i=>V.getD i 0)=(V.take k).reverse:=by
 unfold blk;rw[List.map_reverse];congr 1;apply bG;intro i;rw[bO,List.getElem?_take];by_cases h:i<k
 ·rw[List.getElem?_range h,if_pos h,dF,aK,aJ aA];rfl
 ·rw[if_neg h,aW (by simp;omega)];rfl
theorem QK (E:List (Nat×Nat)) (lab:Nat->Nat) (V:List Nat) {k:Nat} (hk:k<=V.length):pk (Nr E lab V) k=Dg E lab (V.take k).reverse:=by
 unfold Dg Dv;rw[<-c9u V hk,cZ,cZ,QJ,cZ];rfl
theorem BA (E:List (Nat×Nat)) (lab:Nat->Nat) (V:List Nat):pk (Nr E lab V) V.length=Dg E lab V.reverse:=by
 rw[QK E lab V (aS _),List.take_length]
theorem c4U (E:List (Nat×Nat)) (lab:Nat->Nat) {V:List Nat} (hn:V.Nodup) {k:Nat} (hk:k<=V.length) (h:pk (Nr E lab V) k=0):Dg E lab V.reverse=0:=by
 rw[QK E lab V hk]at h;have e:V.reverse=(V.drop k).reverse++(V.take k).reverse:=by rw[<-nB,List.take_append_drop]
 rw[e];refine Vt E lab _ _ ?_ h;rw[<-e];unfold List.Nodup;rw[List.pairwise_reverse];exact hn.imp fun h hh=>h hh.symm
theorem BB (E:List (Nat×Nat)) (lab:Nat->Nat) (V:List Nat) (i j:Nat):(Nr E lab V i j).natAbs<=E.length:=PC lab _ _ E
end Go.GS

/- Chapter 32: walks at random. -/
import Derived.Test.YtlmbepjdokomkaaGreatDoorGyB
open Go.Result renaming andThen_ok->eL
open Go.Sem renaming run_bind->eM,run_pure->eO
open Go.Value.int renaming injEq->kG
open List renaming getElem?_inj->gU,idxOf_append->mN,length_replicate->iI,map_map->fM,nodup_nil->fQ,range->eT,range_succ->iO,replicate->eS,reverse_append->mB
open List.Nodup renaming idxOf_getElem->kE,length_le_of_subset->jA
open Option renaming map_eq_some_iff->fJ,some->fG
open Prod.mk renaming injEq->jK
set_option linter.all false
set_option maxRecDepth 100000
namespace Go.RX
open RowKit
def SO.tr {α:Type} {e:TypeId} {sz:Nat} {ce:α->List Value} {v:Value} {l:List α} {H0 H H0' H2:PH} (h:SO H0 H e sz ce v l) (h2:∀g ob,H0 g=none->H g=some ob->H0' g=none/\H2 g=some ob):SO H0' H2 e sz ce v l:=by
 obtain⟨pB,hv⟩:=h;refine⟨pB,hv.imp id ?_⟩;rintro⟨g,cap,cur,h3,rI,hg,h4⟩;obtain⟨h5,h6⟩:=h2 g _ rI hg;exact⟨g,cap,cur,h3,h5,h6,h4⟩
section
variable {P:Program} {o:Oper}
def SX {fn:Fn} {t:Nat} {v:Value} (ho:o.op= .makeFunc fn #[.tmp t] #[]):Run P o [v] (.func fn #[v] #[]):=fun w=>by
 have pD:o.op.operands.toList=[.tmp t]:=by rw[ho];rfl
 unfold Stp;rw[pD];simp only[execOp,ho,eM,Instr.makeFunc,eO,eL];exact⟨by simp[e8,Ju],Ext.refl _⟩
variable {G Xp:Value->PH->Prop} {nx:List (List Value->PH->Prop)} {ρ:List Value} {H:PH} {t:Tree} {id i b q:Nat} {x y:Operand} {T T':TypeId} {cs:Array Value} {args:List SV} {pf:Bool}
def d5i {vs:List Value} (hT:Ag P T vs.length) (ho:o.op= .store T x y) (hx:e8 [x,y] [.pointer (some ⟨b,q,none⟩),.agg vs.toArray] x= .pointer (some ⟨b,q,none⟩)) (hy:e8 [x,y] [.pointer (some ⟨b,q,none⟩),.agg vs.toArray] y= .agg vs.toArray) (hH:H b=some (.cells cs T' (0,0))) (hq:q+vs.length<=cs.size) (h1:∀c∈vs,n8 c=true) (ha:args.map (D P ρ)=[.pointer (some ⟨b,q,none⟩),.agg vs.toArray]) (sF:pf=false)
  (n:den P G Xp t nx (ρ++[undef]) (H.put b (.cells (spl cs q vs) T' (0,0)))):den P G Xp (.eff pf id i o args t) nx ρ H:=by
 refine j4 (Ta ho hx hy hH hT.has (by rw[hT.cel];omega) (by rw[hT.cel];rfl) (fun c hc=>h1 c (by simpa[Iw]using hc))) ha ?_;rintro v H' ⟨rfl,rfl⟩;exact⟨fun h=>(by rw[sF]at h;cases h),n⟩
end
end Go.RX
namespace Go.GS
open RowKit RX
def Eu (s n:Nat):Nat×Nat×Nat:=if n=0 then(0,0,2)else match Cf n 200 s with
 |some (x,t)=>(x,t,0)
 |none=>(0,0,9)
def d5j (s n:Nat):(Eu s n).2.1<M64:=by
 unfold Eu;split
 ·exact Rn
 ·rename_i hn;cases hf:Cf n 200 s with
  |none=>exact Rn
  |some p=>exact(AU aA hf).2
end Go.GS
namespace Go.Z
open Proofs.Tryz RowKit RX GS
def c8G (s n:Nat):Vt s (n:Nat)= .tuple #[ii ((Eu s n).1:Nat),chV (Eu s n).2.1,ii ((Eu s n).2.2:Nat)]:=by
 unfold Vt Eu;by_cases h:n=0
 ·subst h;rfl
 ·rw[if_neg aA,if_neg h,bO];cases Cf n 200 s with
  |none=>rfl
  |some p=>rfl
def cut_put (H:PH) (b:Nat) (ob:Obj):Pl (r7 H b) (H.put b ob):=fun k o hk=>by
 unfold r7 at hk;by_cases e:k=b
 ·rw[if_pos e]at hk;cases hk
 ·rw[if_neg e]at hk;rw[PH.put_ne _ _ e];exact hk
def cut_le (H:PH) (b:Nat):Pl (r7 H b) H:=fun k o hk=>by
 unfold r7 at hk;by_cases e:k=b
 ·rw[if_pos e]at hk;cases hk
 ·rw[if_neg e]at hk;exact hk
def b8y {H H1:PH} {b:Nat} (h:Pl H H1) (ob:Obj):Pl (r7 H b) (H1.put b ob):=fun k o hk=>by
 unfold r7 at hk;by_cases e:k=b
 ·rw[if_pos e]at hk;cases hk
 ·rw[if_neg e]at hk;rw[PH.put_ne _ _ e];exact h _ _ hk
def Hi {H H':PH} {b:Nat} {ob:Obj} (h:Pl (H.put b ob) H'):Pl (r7 H b) H'/\H' b=some ob:=⟨(cut_put H b ob).trans h,h _ _ (PH.put_self _ _ _)⟩
def lu {H H':PH} {b:Nat} {ob:Obj} (h:Pl (r7 H b) H') (hb:H' b=some ob):Pl (H.put b ob) H':=fun k o hk=>by
 by_cases e:k=b
 ·subst e;rw[PH.put_self]at hk;rw[hb];exact hk
 ·rw[PH.put_ne _ _ e]at hk;exact h k o (by unfold r7;rw[if_neg e];exact hk)
def d5k {H H1 H2:PH} {b:Nat} {o1 o2:Obj} (h1:Pl (H.put b o1) H1) (h2:Pl (H1.put b o2) H2):Pl (H.put b o2) H2:=by
 obtain⟨a1,a2⟩:=Hi h1;obtain⟨c1,c2⟩:=Hi h2;refine lu (fun k o hk=> ?_) c2;have zW:=a1 k o hk;refine c1 k o ?_;unfold r7 at hk⊢;by_cases e:k=b
 ·rw[if_pos e]at hk;cases hk
 ·rw[if_neg e];exact zW
def ly {H H1 H2:PH} {b:Nat} {o1:Obj} (h1:Pl (H.put b o1) H1) (h2:Pl H1 H2):Pl (H.put b o1) H2:=h1.trans h2
end Go.Z
namespace Go.GS
def d8O (a b x:Nat):bit (a|||b) x=(bit a x||bit b x):=Nat.testBit_or _ _ _
def Jm:List Int->List Int->List Int
 |_,[]=>[]
 |F,x::r=>if x∈F then((F.idxOf x:Nat):Int)::Jm F r else((F.length:Nat):Int)::Jm (F++[x]) r
def Gj (p:List Int):List Int:=Jm [] p
def Dj:List Int->List Int->List Int
 |F,[]=>F
 |F,x::r=>if x∈F then Dj F r else Dj (F++[x]) r
def ma:∀(r F:List Int),∃s,Dj F r=F++s
 |[],F=>⟨[],by simp[Dj]⟩
 |x::r,F=>by
  simp only[Dj];split
  ·exact ma r F
  ·obtain⟨s,h⟩:=ma r (F++[x]);exact⟨x::s,by rw[h];simp⟩
def Vw:∀(r F:List Int) (y:Int),y∈Dj F r↔y∈F\/y∈r
 |[],F,y=>by simp[Dj]
 |x::r,F,y=>by
  simp only[Dj];split
  ·rename_i hx;rw[Vw r F y];constructor
   ·rintro(h|h)
    ·exact .inl h
    ·exact .inr (by simp[h])
   ·rintro(h|h)
    ·exact .inl h
    ·rcases aX.1 h with rfl|h
     ·exact .inl hx
     ·exact .inr h
  ·rw[Vw r (F++[x]) y];simp only[bC,aX,bV,or_false,or_assoc]
def mb:∀(r F:List Int),F.Nodup->(Dj F r).Nodup
 |[],F,h=>by simpa[Dj]using h
 |x::r,F,h=>by
  simp only[Dj];split
  ·exact mb r F h
  ·rename_i hx;refine mb r (F++[x]) (eI.2 ⟨h,aD,fun a ha b hb=> ?_⟩);obtain rfl:=bA.1 hb;exact fun e=>hx (e ▸ ha)
def SY {F s:List Int} {x:Int} (h:x∈F):(F++s).idxOf x=F.idxOf x:=by
 rw[mN,if_pos h]
def AX:∀(r F:List Int),Jm F r=r.map fun x=>(((Dj F r).idxOf x:Nat):Int)
 |[],F=>by simp[Jm]
 |x::r,F=>by
  simp only[Jm,Dj];split
  ·rename_i hx;obtain⟨s,hs⟩:=ma r F;rw[aU,AX r F,hs,SY hx]
  ·rename_i hx;obtain⟨s,hs⟩:=ma r (F++[x]);rw[aU,AX r (F++[x])];congr 1;rw[hs,SY aD,mN,if_neg hx];simp
def AY (p:List Int):Gj p=p.map fun x=>(((Dj [] p).idxOf x:Nat):Int):=AX p []
def AZ (p:List Int):(Gj p).length=p.length:=by rw[AY,aW]
def mask_mem2 {p:List Int} {d:Int}:Fz p d≠0↔d∈p:=by
 constructor
 ·intro h;obtain⟨x,h1,h2⟩:=gq (a:=0) (b:=Fz p d) (fun e=>h e.symm) (fun y hy=>by rw[Ej]at hy;cases hy);unfold Fz at h1;rw[gu,aT]at h1;exact aJ (oDt h1.2)
 ·intro h e;obtain⟨i,hi⟩:=eJ.1 h;have oV:=(aH.1 hi).1;have:bit (Fz p d) i=true:=by unfold Fz;rw[gu,oDd oV,oDd hi];rfl
  rw[e,Ej]at this;cases this
def SZ {p:List Int} {k:Nat} (hL:LabOk p (k:Nat)) (hU:Cb p k):(Dj [] p).length=k:=by
 have hn:=mb p [] fQ;have hr:((eT k).map fun i:Nat=>(i:Int)).Nodup:=by
  rw[List.nodup_iff_pairwise_ne,List.pairwise_map];exact(List.nodup_range (n:=k)).imp fun h e=>h aA
 have h1:=jA hn (l₂:=(eT k).map fun i:Nat=>(i:Int)) fun x hx=>by
  have hx:=((Vw p [] x).1 hx).resolve_left aD;have:=hL.1 x hx;exact bK.2 ⟨x.toNat,bH.2 aA,aA⟩
 have h2:=jA hr (l₂:=Dj [] p) fun x hx=>by
  obtain⟨d,hd,rfl⟩:=bK.1 hx;exact(Vw p [] _).2 (.inr (mask_mem2.1 (hU d (bH.1 hd))))
 rw[aW,List.length_range]at h1 h2;omega
def c3R {p:List Int} {k:Nat} (hL:LabOk p (k:Nat)) (hU:Cb p k):LabOk (Gj p) (k:Nat):=by
 refine⟨fun x hx=> ?_,by rw[AZ];exact hL.2.1,by rw[AZ];exact hL.2.2⟩;rw[AY]at hx;obtain⟨y,hy,rfl⟩:=bK.1 hx;have:=List.idxOf_lt_length_of_mem ((Vw p [] y).2 (.inr hy));rw[SZ hL hU]at this;omega
def b8z {p:List Int} {k:Nat} (hL:LabOk p (k:Nat)) (hU:Cb p k):Cb (Gj p) k:=fun d hd=>by
 rw[mask_mem2,AY];have hl:=SZ hL hU;have pL:d<(Dj [] p).length:=aA;refine bK.2 ⟨(Dj [] p)[d],((Vw p [] _).1 (dW pL)).resolve_left aD,?_⟩;rw[kE (mb p [] fQ) d pL]
def Im (i j:Nat):List (Nat×Nat):=(eT (j-(i+1))).map fun d=>(i,i+1+d)
def prI (k i:Nat):List (Nat×Nat):=(eT i).flatMap fun a=>Im a k
def Dn (k:Nat):List (Nat×Nat):=prI k k
def TA (k i:Nat):prI k (i+1)=prI k i++Im i k:=by unfold prI;rw[iO,List.flatMap_append];simp
def c3T {i j:Nat} (h:i+1<=j):Im i (j+1)=Im i j++[(i,j)]:=by
 unfold Im;rw[show j+1-(i+1)=(j-(i+1))+1 by omega,iO,bI,aU,cN,show i+1+(j-(i+1))=j by omega]
def c8J (i:Nat):Im i (i+1)=[]:=by unfold Im;rw[eA];rfl
def TB (i j:Nat):(Im i j).length=j-(i+1):=by simp[Im]
def BA (k:Nat):∀i,(prI k i).length<=i*k
 |0=>by simp[prI]
 |i+1=>by
  rw[TA,aL,TB];have:=BA k i;rw[cM,cL];omega
def c8K {k:Nat} {e:Nat×Nat} (h:e∈Dn k):e.1<e.2/\e.2<k:=by
 unfold Dn prI Im at h;obtain⟨a,ha,h⟩:=List.mem_flatMap.1 h;obtain⟨d,hd,rfl⟩:=bK.1 h;rw[bH]at ha hd;simp only;omega
def d5l (k:Nat) (h:k<=8):(Dn k).length<=64:=bM (BA k k) (eC h h)
def Io (q:List Int) (pr:Nat×Nat):Nat:=Fz q (pr.1:Nat)|||Fz q (pr.2:Nat)
end Go.GS
namespace Go.RX
open RowKit RZ
def mE (es:List (Int×Int×Nat)):List MapEntry:=es.map fun p=>⟨.int .i64 p.1,.int .i64 p.2.1,p.2.2⟩
def kv (es:List (Int×Int×Nat)):List (Int×Int):=es.map fun p=>(p.1,p.2.1)
def MI (H:PH) (m:Value) (L:List (Int×Int)):Prop:=(L.map (·.1)).Nodup/\∃r es clock,m= .map (some r)/\H r=some (.map (mE es).toArray clock)/\kv es=L
def MO (B H:PH) (m:Value) (L:List (Int×Int)):Prop:=(L.map (·.1)).Nodup/\∃r es clock,m= .map (some r)/\B r=none/\H r=some (.map (mE es).toArray clock)/\kv es=L
def MO.mi {B H:PH} {m:Value} {L:List (Int×Int)} (h:MO B H m L):MI H m L:=by
 obtain⟨h0,r,es,c,h1,_,h2,h3⟩:=h;exact⟨h0,r,es,c,h1,h2,h3⟩
def MO.mono {B H H':PH} {m:Value} {L:List (Int×Int)} (h:MO B H m L) (hl:Pl H H'):MO B H' m L:=by
 obtain⟨h0,r,es,c,h1,h4,h2,h3⟩:=h;exact⟨h0,r,es,c,h1,h4,hl _ _ h2,h3⟩
def MI.mono {H H':PH} {m:Value} {L:List (Int×Int)} (h:MI H m L) (hl:Pl H H'):MI H' m L:=by
 obtain⟨h0,r,es,c,h1,h2,h3⟩:=h;exact⟨h0,r,es,c,h1,hl _ _ h2,h3⟩
def Jo (L:List (Int×Int)) (k v:Int):List (Int×Int):=if k∈L.map (·.1)then L.map fun p=>if p.1=k then(k,v)else p else L++[(k,v)]
def TC {L:List (Int×Int)} {k v:Int} (h:(L.map (·.1)).Nodup):((Jo L k v).map (·.1)).Nodup:=by
 unfold Jo;split
 ·rw[fM];have:((fun p:Int×Int=>p.1) ∘ fun p:Int×Int=>if p.1=k then(k,v)else p)=fun p:Int×Int=>p.1:=by
   funext p;simp only[Function.comp];split
   ·rename_i e;exact e.symm
   ·rfl
  rw[this];exact h
 ·rename_i hk;rw[bI,eI];refine⟨h,aD,fun a ha b hb=> ?_⟩;simp only[aU,cN,bA]at hb;subst hb;intro e;subst e;exact hk ha
section
variable {P:Program} {H:PH} {o:Oper} {x y z:Operand} {T kt et:TypeId}
def d5m (es:List (Int×Int×Nat)):∀e∈mE es,∃b,e.key= .int .i64 b:=fun e he=>by
 obtain⟨p,_,rfl⟩:=bK.1 he;exact⟨p.1,rfl⟩
def TD {L:List (Int×Int)} {es:List (Int×Int×Nat)} (rF:kv es=L) (k:Int):
  (Instr.findNow (.int .i64) (.int .i64 k) (mE es) 0=some none/\k∉L.map (·.1))\/∃j p,Instr.findNow (.int .i64) (.int .i64 k) (mE es) 0=some (some (j,.int .i64 p.2.1))/\es[j]? =some p/\p.1=k:=by
 rcases im (q:= .i64) (n:=k) (mE es) 0 (d5m es)with⟨h1,h2⟩|⟨j,e,h1,h2,h3⟩
 ·refine .inl ⟨h1,fun hk=> ?_⟩;subst rF;unfold kv at hk;rw[fM]at hk;obtain⟨p,hp,e⟩:=bK.1 hk;exact h2 _ (bK.2 ⟨p,hp,rfl⟩) (by simp only[Function.comp]at e;rw[<-e])
 ·unfold mE at h2;rw[aY]at h2;obtain⟨p,hp,rfl⟩:=fJ.1 h2;refine .inr ⟨j,p,by rw[h1,bP],hp,?_⟩;simp only[kG,true_and]at h3;exact h3
def TE {B:PH} {vs:List Value} {m:Value} {L:List (Int×Int)} {k v:Int} (ho:o.op= .mapUpdate T x y z) (hx:e8 [x,y,z] vs x=m) (hy:e8 [x,y,z] vs y= .int .i64 k) (hz:e8 [x,y,z] vs z= .int .i64 v) (hu:P.underlying T=some (.map kt et)) (hk:P.underlying kt=some (.int .i64))
  (oW:Pl B H) (h:MO B H m L):Opn P o vs H fun u H'=>u=undef/\Pl B H'/\MO B H' m (Jo L k v)/\∃g ob E c,B g=none/\H g=some (.map E c)/\H'=H.put g ob:=fun w hw=>by
 obtain⟨h0,r,es,clock,rfl,hB,hH,rF⟩:=h;have pD:o.op.operands.toList=[x,y,z]:=by simp[ho,Op.operands]
 have hb:=hw _ _ hH;unfold Stp;rw[pD];have sB:∀ob,Pl B (H.put r ob):=fun ob c cb hc=>by
  rw[PH.put_ne _ _ (fun e=>by subst e;rw[hB]at hc;cases hc)];exact oW _ _ hc
 simp only[execOp,ho,hx,hy,hz,eM,Instr.mapUpdate,run_underlying hu,eL,Hn hb,Jy hk,Instr.findKey,run_underlying hk];rcases TD rF k with⟨h1,h2⟩|⟨j,p,h1,h2,h3⟩
 ·rw[h1];simp only[eL,eO,Xi _ hb];refine⟨_,Step.setB hw hH _,by first|rfl|trivial,sB _,⟨TC h0,r,es++[(k,v,clock)],clock+1,rfl,hB,?_,?_⟩,r,_,_,_,hB,hH,rfl⟩
  ·rw[PH.put_self];simp[mE]
  ·unfold Jo;rw[if_neg h2,<-rF];simp[kv]
 ·rw[h1];have pU:∀w:World,(Instr.keyThatStays (.int .i64 k) (.int .i64 k)).run P w= .ok (.int .i64 k) w:=fun w=>by simp[Instr.keyThatStays,Instr.sameBits]
  have hje:((mE es).toArray[j]?.map (·.key)).getD (.int .i64 k)= .int .i64 k:=by
   simp[mE,h2,h3]
  simp only[eL,eO,hje,eM,pU,Xi _ hb];refine⟨_,Step.setB hw hH _,by first|rfl|trivial,sB _,⟨TC h0,r,es.set j (k,v,p.2.2),clock,rfl,hB,?_,?_⟩,r,_,_,_,hB,hH,rfl⟩
  ·rw[PH.put_self];congr 2;rw[<-cF];simp only[Array.toList_modify];apply bG;intro i;simp only[List.getElem?_modify,mE,aY,bZ];by_cases e:j=i
   ·subst e;obtain⟨xQ,h5⟩:=aH.1 h2;simp[xQ,h5,h3]
   ·simp[e]
  ·have rD:k∈L.map (·.1):=by
    rw[<-rF];unfold kv;rw[fM];exact bK.2 ⟨p,aJ h2,h3⟩
   unfold Jo;rw[if_pos rD,<-rF];rw[<-rF]at h0;unfold kv at h0⊢;rw[fM]at h0⊢;apply bG;intro i;simp only[aY,bZ,Function.comp];by_cases e:j=i
   ·subst e;obtain⟨xQ,h5⟩:=aH.1 h2;simp[xQ,h5,h3]
   ·rw[if_neg e];cases hi:es[i]? with
    |none=>rfl
    |some q=>
     have pI:q.1≠k:=fun e2=>e (by
      have l1:=(aH.1 h2).1;refine(gU (by simpa using l1) h0).1 ?_;rw[aY,aY,h2,hi];simp[h3,e2])
     simp[pI]
def c3W {vs:List Value} {m:Value} {L:List (Int×Int)} {k:Int} {ok:Bool} {w:World} (ho:o.op= .lookup T x y ok) (hx:e8 [x,y] vs x=m) (hy:e8 [x,y] vs y= .int .i64 k) (hu:P.underlying T=some (.map kt et)) (hk:P.underlying kt=some (.int .i64)) (hz:∀w,(zeroValue et).run P w= .ok (.int .i64 0) w) (h:MI H m L) (hw:H.In w) (u:Int) (b:Bool)
  (uB:(b=false/\u=0/\k∉L.map (·.1))\/(b=true/\(k,u)∈L)):(execOp (e8 o.op.operands.toList vs) o).run P w= .ok (.value (if ok then .tuple #[.int .i64 u,.bool b]else .int .i64 u)) w:=by
 obtain⟨h0,r,es,clock,rfl,hH,rF⟩:=h;have pD:o.op.operands.toList=[x,y]:=by simp[ho,Op.operands]
 have hb:=hw _ _ hH;rw[pD];simp only[execOp,ho,hx,hy,eM,Instr.lookup,run_underlying hu,eL,Hn hb,eO,Jy hk,Instr.findKey,run_underlying hk];rcases TD rF k with⟨h1,h2⟩|⟨j,p,h1,h2,h3⟩
 ·rcases uB with⟨rfl,rfl,_⟩|⟨_,hm⟩
  ·rw[h1];simp[hz]
  ·exact absurd (bK.2 ⟨_,hm,rfl⟩) h2
 ·have rQ:(k,p.2.1)∈L:=by
   rw[<-rF];unfold kv;exact bK.2 ⟨p,aJ h2,by rw[h3]⟩
  rcases uB with⟨_,_,hn⟩|⟨rfl,hm⟩
  ·exact absurd (bK.2 ⟨_,rQ,rfl⟩) hn
  ·have:p.2.1=u:=by
    obtain⟨i1,m1⟩:=eJ.1 rQ;obtain⟨i2,m2⟩:=eJ.1 hm;have l1:=(aH.1 m1).1;have:i1=i2:=(gU (by simpa using l1) h0).1 (by rw[aY,aY,m1,m2];rfl);subst this;rw[m1]at m2;simp only[dF,jK,true_and]at m2;exact m2
   rw[h1,this];simp
def BB {vs:List Value} {m:Value} {L:List (Int×Int)} {k u:Int} {b:Bool} (ho:o.op= .lookup T x y true) (hx:e8 [x,y] vs x=m) (hy:e8 [x,y] vs y= .int .i64 k) (hu:P.underlying T=some (.map kt et)) (hk:P.underlying kt=some (.int .i64)) (hz:∀w,(zeroValue et).run P w= .ok (.int .i64 0) w) (h:MI H m L)
  (uB:(b=false/\u=0/\k∉L.map (·.1))\/(b=true/\(k,u)∈L)):Rds P o vs H (.tuple #[.int .i64 u,.bool b]):=fun w hw=>by
 rw[c3W ho hx hy hu hk hz h hw u b uB];rfl
def mc {t:TypeId} {vs:List Value} {m:Value} {L:List (Int×Int)} (ho:o.op= .call ⟨.builtin .len,#[x],#[t]⟩) (hx:e8 [x] vs x=m) (hu:P.underlying t=some (.map kt et)) (h:MI H m L):Rds P o vs H (.int .i64 (L.length:Nat)):=by
 obtain⟨h0,r,es,clock,rfl,hH,rF⟩:=h;have:=LF (P:=P) ho hx hu hH;have e:(mE es).toArray.size=L.length:=by rw[<-rF];simp[mE,kv]
 rw[e]at this;exact this
def c3X (ho:o.op= .makeMap T none):Opn P o [] H fun v H'=>Pl H H'/\MO H H' v []:=fun w hw=>by
 refine(dh (P:=P) (H:=H) ho w hw).mono ?_;rintro u w' ⟨H',hs,r,hr,rfl,rfl⟩;exact⟨_,hs,PH.le_put hr _,fQ,r,[],0,rfl,hr,by rw[PH.put_self];rfl,rfl⟩
end
def bE (es:List (Int×Nat)):List MapEntry:=es.map fun p=>⟨.int .i64 p.1,.bool true,p.2⟩
def MB (H:PH) (m:Value) (S:List Int):Prop:=S.Nodup/\((m= .map none/\S=[])\/∃r es clock,m= .map (some r)/\H r=some (.map (bE es).toArray clock)/\es.map (·.1)=S)
def MB.none (H:PH):MB H (.map none) []:=⟨fQ,.inl ⟨rfl,rfl⟩⟩
def MB.mono {H H':PH} {m:Value} {S:List Int} (h:MB H m S) (hl:Pl H H'):MB H' m S:=by
 obtain⟨h0,h|⟨r,es,c,h1,h2,h3⟩⟩:=h
 ·exact⟨h0,.inl h⟩
 ·exact⟨h0,.inr ⟨r,es,c,h1,hl _ _ h2,h3⟩⟩
section
variable {P:Program} {H:PH} {o:Oper} {x y z:Operand} {T kt et:TypeId}
def d5n (es:List (Int×Nat)):∀e∈bE es,∃b,e.key= .int .i64 b:=fun e he=>by
 obtain⟨p,_,rfl⟩:=bK.1 he;exact⟨p.1,rfl⟩
def d5o {S:List Int} {es:List (Int×Nat)} (rF:es.map (·.1)=S) (k:Int):
  (Instr.findNow (.int .i64) (.int .i64 k) (bE es) 0=some none/\k∉S)\/∃j p,Instr.findNow (.int .i64) (.int .i64 k) (bE es) 0=some (some (j,.bool true))/\es[j]? =some p/\p.1=k:=by
 rcases im (q:= .i64) (n:=k) (bE es) 0 (d5n es)with⟨h1,h2⟩|⟨j,e,h1,h2,h3⟩
 ·refine .inl ⟨h1,fun hk=> ?_⟩;subst rF;obtain⟨p,hp,e⟩:=bK.1 hk;exact h2 _ (bK.2 ⟨p,hp,rfl⟩) (by simp only;rw[<-e])
 ·unfold bE at h2;rw[aY]at h2;obtain⟨p,hp,rfl⟩:=fJ.1 h2;refine .inr ⟨j,p,by rw[h1,bP],hp,?_⟩;simp only[kG,true_and]at h3;exact h3
def TF {vs:List Value} {m:Value} {S:List Int} {k:Int} (ho:o.op= .lookup T x y false) (hx:e8 [x,y] vs x=m) (hy:e8 [x,y] vs y= .int .i64 k) (hu:P.underlying T=some (.map kt et)) (hk:P.underlying kt=some (.int .i64)) (hz:∀w,(zeroValue et).run P w= .ok (.bool false) w) (h:MB H m S):Rds P o vs H (.bool (decide (k∈S))):=fun w hw=>by
 have pD:o.op.operands.toList=[x,y]:=by simp[ho,Op.operands]
 rw[pD];obtain⟨h0,⟨rfl,rfl⟩|⟨r,es,clock,rfl,hH,rF⟩⟩:=h
 ·simp[execOp,ho,hx,hy,eM,Instr.lookup,run_underlying hu,eL,eO,Jy hk,hz,Instr.findKey,run_underlying hk,Instr.findNow]
 ·have hb:=hw _ _ hH;simp only[execOp,ho,hx,hy,eM,Instr.lookup,run_underlying hu,eL,Hn hb,eO,Jy hk,Instr.findKey,run_underlying hk];rcases d5o rF k with⟨h1,h2⟩|⟨j,p,h1,h2,h3⟩
  ·rw[h1];simp[hz,h2]
  ·have:k∈S:=by rw[<-rF];exact bK.2 ⟨p,aJ h2,h3⟩
   rw[h1];simp[this]
end
end Go.RX
namespace Go.GS
def blk (k:Nat):List Nat:=(eT k).reverse
def TG (k:Nat):blk (k+1)=k::blk k:=by unfold blk;rw[iO,mB];rfl
def TI (k:Nat):(blk k).length=k:=by unfold blk;simp
def gk (F:Nat->Nat->Int) (k i j:Nat):Int:=dt (j::blk k) (F i::(blk k).map F)
def pk (F:Nat->Nat->Int) (k:Nat):Int:=dt (blk k) ((blk k).map F)
section
variable {F:Nat->Nat->Int} {k i j n:Nat}
def md (F:Nat->Nat->Int) (k:Nat):gk F k k k=pk F (k+1):=by unfold gk pk;rw[TG];rfl
def TJ (F:Nat->Nat->Int):pk F 0=1:=rfl
def d5p (F:Nat->Nat->Int) (i j:Nat):gk F 0 i j=F i j:=by simp[gk,blk,dt,dx]
def d5q:pk F k*gk F (k+1) i j=gk F k i j*gk F k k k-gk F k i k*gk F k k j:=by
 have:=d4p (blk k) ((blk k).map F) (F k) (F i) k j;unfold gk pk;rw[TG,aU,this]
 grind
def d8P (h:pk F k≠0):(gk F k i j*gk F k k k-gk F k i k*gk F k k j)/pk F k=gk F (k+1) i j:=by
 rw[<-d5q,Int.mul_ediv_cancel_left _ h]
def c8L {B:Nat} (h:∀i j,(F i j).natAbs<=B) (k i j:Nat):(gk F k i j).natAbs<=((k+1)*B)^(k+1):=by
 have:=QK (B:=B) (j::blk k) (F i::(blk k).map F) (k+1) (by simp[TI]) (fun r hr c hc=>by
  rcases aX.1 hr with rfl|hr
  ·exact h _ _
  ·obtain⟨x,_,rfl⟩:=bK.1 hr;exact h _ _)
 unfold gk;simpa[TI]using this
end
def TK {C R:Type} (φ:R->C) (c:R) (cs:List R) (ih:∀l:List (C->Int),dt (cs.map φ) l=dt cs (l.map fun r x=>r (φ x))):∀(l p:List (C->Int)),dx (φ c) (dt (cs.map φ)) p l=dx c (dt cs) (p.map fun r x=>r (φ x)) (l.map fun r x=>r (φ x))
 |[],_=>rfl
 |x::l,p=>by
  simp only[aU,dx];rw[ih,TK φ c cs ih l (p++[x]),bI,bI];rfl
def TL {C R:Type} (φ:R->C):∀(cs:List R) (l:List (C->Int)),dt (cs.map φ) l=dt cs (l.map fun r x=>r (φ x))
 |[],[]=>rfl
 |[],_::_=>rfl
 |c::cs,l=>TK φ c cs (TL φ cs) l []
def Lo (E:List (Nat×Nat)) (lab:Nat->Nat) (V:List Nat) (i j:Nat):Int:=Fm E (cv lab (V.getD i 0)) (cv lab (V.getD j 0))
def c8N (V:List Nat) {k:Nat} (hk:k<=V.length):(blk k).map (fun i=>V.getD i 0)=(V.take k).reverse:=by
 unfold blk;rw[List.map_reverse];congr 1;apply bG;intro i;rw[aY,dG];by_cases h:i<k
 ·rw[cC h,if_pos h,cJ,aK,aG aA];rfl
 ·rw[if_neg h,aP (by simp;omega)];rfl
def TM (E:List (Nat×Nat)) (lab:Nat->Nat) (V:List Nat) {k:Nat} (hk:k<=V.length):pk (Lo E lab V) k=Dg E lab (V.take k).reverse:=by
 unfold Dg Dv;rw[<-c8N V hk,fM,fM,TL,fM];rfl
def TN (E:List (Nat×Nat)) (lab:Nat->Nat) (V:List Nat):pk (Lo E lab V) V.length=Dg E lab V.reverse:=by
 rw[TM E lab V (aS _),dV]
def c4b (E:List (Nat×Nat)) (lab:Nat->Nat) {V:List Nat} (hn:V.Nodup) {k:Nat} (hk:k<=V.length) (h:pk (Lo E lab V) k=0):Dg E lab V.reverse=0:=by
 rw[TM E lab V hk]at h;have e:V.reverse=(V.drop k).reverse++(V.take k).reverse:=by rw[<-mB,dK]
 rw[e];refine Vk E lab _ _ ?_ h;rw[<-e];unfold List.Nodup;rw[List.pairwise_reverse];exact hn.imp fun h hh=>h hh.symm
def TO (E:List (Nat×Nat)) (lab:Nat->Nat) (V:List Nat) (i j:Nat):(Lo E lab V i j).natAbs<=E.length:=QM lab _ _ E
end Go.GS
namespace Go.Z
open Proofs.Tryz RowKit RX GS WD
abbrev LV:=Bool×Slc
def lc (x:LV):List Value:=[.bool x.1,vs x.2]
def lv (x:LV):Value:= .agg #[.bool x.1,vs x.2]
def el_long:El prog 307 142 2 true lc lv where
 und:=aB
 has:=aB
 cel:=aB
 agg:=aB
 pos:=aC
 one1:=fun h=>(nomatch h)
 small:=aC
 inf:=⟨(prog.info? 142).getD default,lv (false,(none,0,0)),aB,aB,aB,rfl,oDt aB⟩
 len:=fun _=>rfl
 val:=fun _=>rfl
 cells:=fun _=>rfl
 one:=fun x c hc=>by simp[lc]at hc;rcases hc with rfl|rfl<;>rfl
def Ew:El prog 306 307 1 false (fun s:Slc=>[vs s]) vs where
 und:=aB
 has:=aB
 cel:=aB
 agg:=aB
 pos:=aC
 one1:=fun _=>rfl
 small:=aC
 inf:=⟨(prog.info? 307).getD default,vs (none,0,0),aB,aB,aB,rfl,oDt aB⟩
 len:=fun _=>rfl
 val:=fun _=>rfl
 cells:=fun _=>rfl
 one:=fun x c hc=>by simp at hc;subst hc;rfl
def Oz {H:PH} {v:Value} {z:Int} (h:Lw H v z):∃x,v=lv x:=by
 obtain⟨w,rfl,l,⟨⟨_,a,c,rfl,_⟩,_⟩,_⟩:=h;exact⟨(_,(a,l.length,c)),rfl⟩
def e1d:j3 prog 142=lv (false,(none,0,0)):=aB
def d5r (H:PH):Lw H (lv (false,(none,0,0))) 0:=⟨.slice none 0 0,rfl,[],⟨⟨rfl,none,0,rfl,aS _,by simp[maxLen],.inl rfl⟩,fun d hd=>by cases hd⟩,fun i hi=>by simp at hi⊢,rfl⟩
def Dk (M:Nat->Nat->LV) (n i:Nat):List LV:=(eT n).map (M i)
def Rr {M:Nat->Nat->LV} {n i j:Nat} (h:j<n):(Dk M n i)[j]? =some (M i j):=by unfold Dk;rw[aY,cC h];rfl
def TP (M:Nat->Nat->LV) (n i:Nat):(Dk M n i).length=n:=by unfold Dk;simp
def putM (M:Nat->Nat->LV) (i j:Nat) (x:LV):Nat->Nat->LV:=fun a b=>if a=i/\b=j then x else M a b
def c8O (M:Nat->Nat->LV) (n i j:Nat) (x:LV):Dk (putM M i j x) n i=(Dk M n i).set j x:=by
 apply bG;intro b;unfold Dk putM;rw[bZ,aY,aY];by_cases hb:b<n
 ·rw[cC hb];by_cases e:b=j
  ·subst e;simp[hb]
  ·have e':¬j=b:=fun h=>e h.symm;simp[e,e']
 ·rw[aP (by simp;omega)];by_cases e:j=b
  ·subst e;simp[hb]
  ·simp[e]
def c8P {M:Nat->Nat->LV} {n i a j:Nat} {x:LV} (h:a≠i):Dk (putM M i j x) n a=Dk M n a:=by
 unfold Dk putM;exact dA fun b _=>if_neg fun hh=>h hh.1
def rsl (n g:Nat):Slc:=(some ⟨g,0,none⟩,n,n)
structure MX (X H:PH) (gs:List Nat) (n:Nat) (M:Nat->Nat->LV):Prop where
 nd:gs.Nodup
 n64:n<=64
 row:∀(i g:Nat),gs[i]? =some g->X g=none/\SO (r7 H g) H 142 2 lc (vs (rsl n g)) (Dk M n i)
def BC (H:PH) (g:Nat):r7 H g g=none:=if_pos rfl
def Vx {α:Type} {e:TypeId} {sz:Nat} {ce:α->List Value} {H H':PH} {g n:Nat} {l:List α} (h:SO (r7 H g) H e sz ce (vs (rsl n g)) l) (hk:∀ob,H g=some ob->H' g=some ob):SO (r7 H' g) H' e sz ce (vs (rsl n g)) l:=by
 obtain⟨h1,⟨h2,h3⟩|⟨g',cap,cur,h2,h3,h4,h5⟩⟩:=h
 ·cases h2
 ·simp only[vs,rsl,Value.slice.injEq,dF,Addr.mk.injEq]at h2;obtain⟨⟨rfl,-,-⟩,h6,h7⟩:=h2;exact⟨h1,.inr ⟨g,cap,cur,by simp only[vs,rsl];rw[<-h6,<-h7],BC _ _,hk _ h4,h5⟩⟩
section
variable {X H X' H':PH} {gs:List Nat} {n i j g:Nat} {M:Nat->Nat->LV} {x:LV} {v:Value} {z:Int}
def MX.se (h:MX X H gs n M) (hg:gs[i]? =some g):SE H 2 lc (vs (rsl n g)) (Dk M n i):=(h.row i g hg).2.se
def MX.bound (h:MX X H gs n M) (hg:gs[i]? =some g):∃ob,H g=some ob:=by
 obtain⟨h1,⟨h2,h3⟩|⟨g',cap,cur,h2,h3,h4,h5⟩⟩:=(h.row i g hg).2
 ·cases h2
 ·simp only[vs,rsl,Value.slice.injEq,dF,Addr.mk.injEq]at h2;obtain⟨⟨rfl,-,-⟩,h6,h7⟩:=h2;exact⟨_,h4⟩
def MX.mono (h:MX X H gs n M) (hl:Pl H H') (hk:∀k,H k≠none->X k=none->X' k=none):MX X' H' gs n M:=
 ⟨h.nd,h.n64,fun i g hg=>by
  obtain⟨ob,hb⟩:=h.bound hg;exact⟨hk g (by rw[hb];simp) (h.row i g hg).1,Vx (h.row i g hg).2 fun o ho=>hl _ _ ho⟩⟩
def MX.put (h:MX X H gs n M) (hg:gs[i]? =some g) (hl:Pl (r7 H g) H') (ho:SO (r7 H g) H' 142 2 lc (vs (rsl n g)) ((Dk M n i).set j x)):MX X H' gs n (putM M i j x):=
 ⟨h.nd,h.n64,fun a b hb=>by
  by_cases e:a=i
  ·subst e;obtain rfl:g=b:=fG.inj (hg.symm.trans hb);refine⟨(h.row a g hg).1,?_⟩;rw[c8O];have hc:r7 (r7 H g) g=r7 H g:=by
    funext k;unfold r7;split<;>simp_all
   have:SO (r7 H' g) H' 142 2 lc (vs (rsl n g)) ((Dk M n a).set j x):=by
    obtain⟨h1,⟨h2,h3⟩|⟨g',cap,cur,h2,h3,h4,h5⟩⟩:=ho
    ·cases h2
    ·simp only[vs,rsl,Value.slice.injEq,dF,Addr.mk.injEq]at h2;obtain⟨⟨rfl,-,-⟩,h6,h7⟩:=h2;exact⟨h1,.inr ⟨g,cap,cur,by simp only[vs,rsl];rw[<-h6,<-h7],BC _ _,h4,h5⟩⟩
   exact this
  ·have pI:b≠g:=fun hh=>by
    subst hh;have l1:=(aH.1 hg).1;exact e ((gU l1 h.nd).1 (hg.trans hb.symm)).symm
   obtain⟨h1,h2⟩:=h.row a b hb;rw[c8P e];exact⟨h1,Vx h2 fun ob qT=>hl _ _ (by unfold r7;rw[if_neg pI];exact qT)⟩⟩
def MX.cut (h:MX X H gs n M) (hg:gs[i]? =some g) (hX:Pl X H):Pl X (r7 H g):=fun k ob hk=>by
 unfold r7;rw[if_neg (fun e=>by subst e;rw[(h.row i k hg).1]at hk;cases hk)];exact hX _ _ hk
end
def Vl (X:PH) (n k:Nat) (M:Nat->Nat->LV) (Z:Nat->Nat->Int):Prop:=∀i j,k<=i->k<=j->i<n->j<n->Lw X (lv (M i j)) (Z i j)
def Vl.mono {X X':PH} {n k:Nat} {M:Nat->Nat->LV} {Z:Nat->Nat->Int} (h:Vl X n k M Z) (hl:Pl X X'):Vl X' n k M Z:=fun i j a b c d=>(h i j a b c d).mono hl
def Vl.put {X:PH} {n k i j:Nat} {M:Nat->Nat->LV} {Z Z':Nat->Nat->Int} {x:LV} (h:Vl X n k M Z) (hx:Lw X (lv x) (Z' i j)) (hz:∀a b,k<=a->k<=b->a<n->b<n->¬(a=i/\b=j)->Z' a b=Z a b):Vl X n k (putM M i j x) Z':=fun a b h1 h2 h3 h4=>by
 unfold putM;by_cases e:a=i/\b=j
 ·rw[if_pos e,e.1,e.2];exact hx
 ·rw[if_neg e,hz a b h1 h2 h3 h4 e];exact h a b h1 h2 h3 h4
def Zk (F:Nat->Nat->Int) (k r c i j:Nat):Int:=if k<i/\(i<r\/i=r/\j<c)then(gk F k i j*gk F k k k-gk F k i k*gk F k k j)/pk F k else gk F k i j
def SmZ (z:Int):Prop:=z.natAbs<BP 100
def SmZ.lm {z:Int} (h:SmZ z):Lm z:=aM h (Hq aC)
def SmZ.mul {y z:Int} (hy:SmZ y) (hz:SmZ z):(y*z).natAbs<BP 200:=by
 rw[Int.natAbs_mul,show 200=100+100 from rfl,D6];exact Nat.mul_lt_mul'' hy hz
def TQ {z:Int} (h:z.natAbs<BP 200):Lm z:=aM h (Hq aC)
def d8R {y z:Int} (hy:y.natAbs<BP 200) (hz:z.natAbs<BP 200):Lm (y-z):=by
 have h:BP 201<=BP 10000:=Hq aC;rw[BP_succ]at h;unfold Lm;omega
def Lq {gs:List Nat} {n i g:Nat} (h:gs[i]? =some g):(gs.map (rsl n))[i]? =some (rsl n g):=by rw[aY,h];rfl
def BD {gs:List Nat} {i n:Nat} (hn:gs.length=n) (h:i<n):∃g,gs[i]? =some g:=⟨_,aG aA⟩
structure Mt (X0 X H:PH) (gs:List Nat) (n k:Nat) (M:Nat->Nat->LV) (Z:Nat->Nat->Int):Prop where
 x0:Pl X0 X
 xh:Pl X H
 mx:MX X H gs n M
 vl:Vl X n k M Z
def Mt.grow {X0 X H X' H':PH} {gs:List Nat} {n k:Nat} {M:Nat->Nat->LV} {Z:Nat->Nat->Int} (h:Mt X0 X H gs n k M Z) (a:Pl X X') (b:Pl X' H') (c:Pl H H') (d:∀k,H k≠none->X k=none->X' k=none):Mt X0 X' H' gs n k M Z:=⟨h.x0.trans a,b,h.mx.mono c d,h.vl.mono a⟩
def e1e {F:Nat->Nat->Int} (hb:∀k i j,k<=64->SmZ (gk F k i j)) {k:Nat} (hk:k<=64):SmZ (pk F k):=by
 cases k with
 |zero=>
  rw[TJ];show(1:Nat)<BP 100;have:BP 0<BP 100:=BP_lt_iff.2 aC;rw[BP_zero]at this;exact this
 |succ k=>rw[<-md];exact hb k k k aA
def Vy {F:Nat->Nat->Int} {k r c i j:Nat} (h:¬(k<i/\(i<r\/i=r/\j<c))):Zk F k r c i j=gk F k i j:=if_neg h
def d8S {F:Nat->Nat->Int} {k r c i j:Nat} (h:¬(i=r/\j=c)):Zk F k r (c+1) i j=Zk F k r c i j:=by
 unfold Zk;split<;>split<;>(first|rfl|omega)
def d8T {F:Nat->Nat->Int} {k r c i j:Nat} (h:k<=j) (hj:j<c):Zk F k (r+1) k i j=Zk F k r c i j:=by
 unfold Zk;split<;>split<;>(first|rfl|omega)
def sgI_zeroG {z:Int}:(sgI z 0==0)=true↔z=0:=by
 unfold sgI;rw[beq_iff_eq];split<;>(try split)<;>simp<;>omega
def c8Q {H X:PH} {v:Value} {gs:List Nat} {n:Nat} {M:Nat->Nat->LV} {F:Nat->Nat->Int} (hX:Pl X H) (hv:SE X 1 (fun s:Slc=>[vs s]) v (gs.map (rsl n))) (hM:MX X H gs n M) (hn:gs.length=n) (hF:Vl X n 0 M F) (hb:∀k i j,k<=64->SmZ (gk F k i j)) (hc:∀k,k<=n->pk F k=0->pk F n=0):
  Con prog 199 [v] H fun u H'=>∃X',Pl X X'/\Pl X' H'/\Lw X' u (pk F n):=by
 refine g9 mixed d4S ?_;have sA:=hM.n64;refine Dz (Nx 1 aA aA) hX rfl fun v1 X1 H1 a1 w1 b1 c1 d1=> ?_;simp only[cA,nA];replace hM:=hM.mono c1 d1;obtain⟨x1,rfl⟩:=Oz w1;refine b4 w1.rq ?_;refine r8 Ew (hv.mono (a1.trans b1)) ?_;simp only[cA,nA];rw[aW,hn];refine t6 (α:=Nat×Value×LV) (fun⟨k,y,l⟩=>[ii (k:Nat),y,lv l]) (fun⟨k,y,l⟩=>fun H'=>k<=n/\∃X' M',Mt X X' H' gs n k M' (gk F k)/\Lw X' (lv l) (pk F k)/\pk F k≠0) (fun⟨k,y,l⟩=>n+1-k) ((0,j3 prog 142,x1)) rfl (⟨bJ _,X1,M,⟨a1,b1,hM,fun i j h1 h2 h3 h4=>by rw[d5p];exact(hF i j h1 h2 h3 h4).mono a1⟩,w1,by rw[TJ];omega⟩) fun⟨k,y,l⟩ H2 ⟨hk,X2,M2,t2,sH,qG⟩=> ?_;simp only[cA,nA];refine b9 (b9 ?_);refine g8 (b:=decide (((k:Nat):Int)<(n:Nat))) rfl (fun h=> ?_) (fun h=> ?_)
 ·replace h:=oDt h;have rB:k<n:=aA;obtain⟨g,hg⟩:=BD hn rB;refine r6 Ew (hv.mono (t2.x0.trans t2.xh)) (Lq hg) fun _=> ?_;simp only[cA,nA];refine r6 el_long (t2.mx.se hg) (Rr rB) fun _=> ?_;simp only[cA,nA];refine g5 (fc ((t2.vl k k (aS _) (aS _) rB rB).mono t2.xh)) rfl ?_;rintro _ _ ⟨rfl,rfl⟩;refine nmI ?_;simp only[cA,nA];refine b9 ?_;refine g8 (b:=(sgI (gk F k k k) 0==0)) rfl (fun h2=> ?_) (fun h2=> ?_)
  ·skip
   refine Dz (Nx 0 aA aA) t2.xh rfl fun v11 X3 H3 a3 w3 b3 c3 d3=> ?_;simp only[cA,nA];obtain⟨x3,rfl⟩:=Oz w3;refine b4 w3.rq ?_;exact c9 rfl ⟨X3,t2.x0.trans a3,b3,by rw[hc (k+1) rB (by rw[<-md];exact sgI_zeroG.1 h2)];exact w3⟩
  ·skip
   have a4r:gk F k k k≠0:=fun e=>by rw[sgI_zeroG.2 e]at h2;cases h2
   refine t6 (α:=Nat) (fun r=>[ii (r:Nat),y,lv l]) (fun r=>fun H'=>k<r/\r<=n/\∃X' M',Mt X X' H' gs n k M' (Zk F k r k)/\Lw X' (lv l) (pk F k)) (fun r=>n+1-r) (k+1) (Dp (p6 rfl aA) rfl rfl) (⟨aA,aA,X2,M2,⟨t2.x0,t2.xh,t2.mx,fun i j h1 h2 h3 h4=>by rw[Vy aA];exact t2.vl i j h1 h2 h3 h4⟩,sH⟩) fun r H3 ⟨rP,hr2,X3,M3,t3,uL⟩=> ?_;simp only[cA,nA];refine r8 Ew (hv.mono (t3.x0.trans t3.xh)) ?_;simp only[cA,nA];rw[aW,hn];refine b9 (b9 ?_);refine g8 (b:=decide (((r:Nat):Int)<(n:Nat))) rfl (fun h3=> ?_) (fun h3=> ?_)
   ·replace h3:=oDt h3;have hrn:r<n:=aA;obtain⟨g2,yP⟩:=BD hn hrn;refine r6 Ew (hv.mono (t3.x0.trans t3.xh)) (Lq yP) fun _=> ?_;simp only[cA,nA];refine r6 el_long (t3.mx.se yP) (Rr rB) fun _=> ?_;simp only[cA,nA];generalize hf:M3 r k=f;have hf3:Lw X3 (lv f) (gk F k r k):=by rw[<-hf,<-Vy (F:=F) (k:=k) (r:=r) (c:=k) (i:=r) (j:=k) aA];exact t3.vl r k aA (aS _) hrn rB
    refine b4 (el_long.vcells f) ?_;refine t6 (α:=Nat) (fun c=>[ii (c:Nat)]) (fun c=>fun H'=>k<=c/\c<=n/\∃X' M',Mt X X' H' gs n k M' (Zk F k r c)/\Lw X' (lv l) (pk F k)/\Lw X' (lv f) (gk F k r k)) (fun c=>n+1-c) (k) rfl (⟨aS _,aA,X3,M3,t3,uL,hf3⟩) fun c H4 ⟨qL,qO,X4,M4,t4,hl4,hf4⟩=> ?_;simp only[cA,nA];refine r8 Ew (hv.mono (t4.x0.trans t4.xh)) ?_;simp only[cA,nA];rw[aW,hn];refine b9 (b9 ?_);refine g8 (b:=decide (((c:Nat):Int)<(n:Nat))) rfl (fun h4=> ?_) (fun h4=> ?_)
    ·replace h4:=oDt h4;have wL:c<n:=aA;refine r6 Ew (hv.mono (t4.x0.trans t4.xh)) (Lq yP) fun _=> ?_;simp only[cA,nA];refine r6 el_long (t4.mx.se yP) (Rr wL) fun _=> ?_;simp only[cA,nA];refine r6 Ew (hv.mono (t4.x0.trans t4.xh)) (Lq hg) fun _=> ?_;simp only[cA,nA];refine r6 el_long (t4.mx.se hg) (Rr rB) fun _=> ?_;simp only[cA,nA];refine r6 Ew (hv.mono (t4.x0.trans t4.xh)) (Lq hg) fun _=> ?_;simp only[cA,nA];refine r6 el_long (t4.mx.se hg) (Rr wL) fun _=> ?_;simp only[cA,nA];have e1:Lw X4 (lv (M4 r c)) (gk F k r c):=by rw[<-Vy (F:=F) (k:=k) (r:=r) (c:=c) (i:=r) (j:=c) aA];exact t4.vl r c aA qL hrn wL
     have e2:Lw X4 (lv (M4 k k)) (gk F k k k):=by rw[<-Vy (F:=F) (k:=k) (r:=r) (c:=c) (i:=k) (j:=k) aA];exact t4.vl k k aA (aS _) rB rB
     have e3:Lw X4 (lv (M4 k c)) (gk F k k c):=by rw[<-Vy (F:=F) (k:=k) (r:=r) (c:=c) (i:=k) (j:=c) aA];exact t4.vl k c aA qL rB wL
     have s1:=hb k r c aA;have s2:=hb k k k aA;have s3:=hb k k c aA;have s4:=hb k r k aA;refine Dz (Nw e1 e2 s1.lm s2.lm) t4.xh rfl fun u1 X5 H5 a5 w5 b5 c5 d5=> ?_;simp only[cA,nA];replace t4:=t4.grow a5 b5 c5 d5;refine Dz (Nw (hf4.mono a5) (e3.mono a5) s4.lm s3.lm) t4.xh rfl fun u2 X6 H6 a6 w6 b6 c6 d6=> ?_;simp only[cA,nA];replace t4:=t4.grow a6 b6 c6 d6;refine Dz (HU (w5.mono a6) w6 (TQ (s1.mul s2)) (TQ (s4.mul s3))) t4.xh rfl fun u3 X7 H7 a7 w7 b7 c7 d7=> ?_;simp only[cA,nA];replace t4:=t4.grow a7 b7 c7 d7;obtain⟨x7,rfl⟩:=Oz w7;refine b4 w7.rq ?_;refine r6 Ew (hv.mono (t4.x0.trans t4.xh)) (Lq yP) fun _=> ?_;simp only[cA,nA];refine Dz ((uk w7 (hl4.mono (a5.trans (a6.trans a7))) (d8R (s1.mul s2) (s4.mul s3)) (e1e hb aA).lm qG)) t4.xh rfl fun u4 X8 H8 a8 w8 b8 c8 d8=> ?_;simp only[cA,nA];replace t4:=t4.grow a8 b8 c8 d8;obtain⟨qa,qb,rfl,q1,q2⟩:=w8;obtain⟨x8,rfl⟩:=Oz q1;refine g7 (g7 ?_);refine Dl el_long (a:=x8) rfl rfl rfl rfl aF aF (cut_le H8 g2) (t4.mx.row r g2 yP).2 (show c<(Dk M4 n r).length by rw[TP];exact wL) rfl aF rfl fun p9 u9 H9 l9 o9 _=> ?_;simp only[cA,nA];exact⟨c+1,aA,(j7 (p6 rfl aA)),⟨aA,aA,X8,putM M4 r c x8,⟨t4.x0,(t4.mx.cut yP t4.xh).trans l9,t4.mx.put yP l9 o9,t4.vl.put (by show Lw X8 (lv x8) (Zk F k r (c+1) r c);unfold Zk;rw[if_pos aA];exact q1) (fun i j h1 h2 h3 h4 h5=>d8S h5)⟩,hl4.mono (a5.trans (a6.trans (a7.trans a8))),hf4.mono (a5.trans (a6.trans (a7.trans a8)))⟩⟩
    ·replace h4:=oDf h4;exact⟨r+1,aA,(Dp (p6 rfl aA) rfl rfl),⟨aA,aA,X4,M4,⟨t4.x0,t4.xh,t4.mx,fun i j h1 h2 h3 h4=>by have:=t4.vl i j h1 h2 h3 h4;rw[d8T (c:=c) h2 aA];exact this⟩,hl4⟩⟩
   ·replace h3:=oDf h3;have hrn:r=n:=aA;refine r6 Ew (hv.mono (t3.x0.trans t3.xh)) (Lq hg) fun _=> ?_;simp only[cA,nA];refine r6 el_long (t3.mx.se hg) (Rr rB) fun _=> ?_;simp only[cA,nA];refine b4 (el_long.vcells _) ?_;exact⟨(k+1,y,M3 k k),by show n+1-(k+1)<n+1-k;omega,(Dp (p6 rfl aA) rfl rfl),⟨rB,X3,M3,⟨t3.x0,t3.xh,t3.mx,fun i j h1 h2 h3 h4=>by have:=t3.vl i j aA aA h3 h4;rw[<-d8P qG];unfold Zk at this;rw[if_pos aA]at this;exact this⟩,by rw[<-md,<-Vy (F:=F) (k:=k) (r:=r) (c:=k) (i:=k) (j:=k) aA];exact t3.vl k k (aS _) (aS _) rB rB,by rw[<-md];exact a4r⟩⟩
 ·replace h:=oDf h;have hke:k=n:=aA;subst hke;exact c9 rfl ⟨X2,t2.x0,t2.xh,sH⟩
def Lr:prog.underlying 210=some (.map 3 3):=aB
def Pe:prog.underlying 3=some (.int .i64):=aB
def BE:∀w,(zeroValue 3).run prog w= .ok (.int .i64 0) w:=fun w=>by
 have h:(prog.info? 3).bind (·.zero)=some (.int .i64 0):=aB;cases hi:prog.info? 3 with
 |none=>rw[hi]at h;cases h
 |some i=>
  rw[hi]at h;simp only[Option.bind_some]at h;simp[zeroValue,typeInfo,hi,h]
open Go.WD (BP Hq)
def d5t {n:Nat} {w:Value} (h1:n8 w=true):i8 (Value.cells (.agg #[ii n,w])):=fun c hc=>by
 simp[Value.cells]at hc;rcases hc with hc|hc
 ·subst hc;rfl
 ·subst hc;exact h1
def TR {H:PH} {n s:Nat} {w:Value} (hw:w.cells= #[w]) (h1:n8 w=true):Con prog 195 [gv n w,GS.uv s] H fun u H'=>∃b j,b≠j/\H'=H.or (Fh b j (ii n) w 25 s)/\Disj H (Fh b j (ii n) w 25 s)/\u= .func (.func 252) #[] #[.pointer (some ⟨b,0,none⟩),.pointer (some ⟨j,0,none⟩)]:=by
 refine g9 mixed d4R ?_;refine b4 ⟨rfl,d5t h1⟩ ?_;refine o0 (cs:= #[ii (n:Nat),w]) rfl fun b hb=> ?_;simp only[cA,nA];refine b4 ⟨rfl,fun c hc=>by simp[D,Value.cells,GS.uv]at hc;subst hc;rfl⟩ ?_;refine o0 (cs:= #[GS.uv s]) rfl fun j hj=> ?_;simp only[cA,nA];refine x5 (Ai (vs:=[.pointer (some ⟨b,0,none⟩),.pointer (some ⟨j,0,none⟩)]) rfl rfl) rfl ?_;simp only[cA,nA];have hbj:b≠j:=fun e=>by subst e;rw[PH.put_self]at hj;cases hj
 have xP:H j=none:=by rwa[PH.put_ne _ _ (fun e=>hbj e.symm)]at hj
 exact c9 rfl ⟨b,j,hbj,by unfold Fh;rw[PH.put_or hb,PH.or_put (X:=H) xP],fl (fl (Ue H) hb) xP,rfl⟩
def plL (V:List Nat):List (Int×Int):=(eT V.length).map fun i=>(((V.getD i 0:Nat):Int),(i:Int))
def d5u {V:List Nat} {a i:Nat} (h:V[i]? =some a):((a:Int),(i:Int))∈plL V:=by
 unfold plL;refine bK.2 ⟨i,bH.2 (aH.1 h).1,?_⟩;rw[aK,h];rfl
def c8R (V:List Nat):(plL V).map (·.1)=V.map fun x:Nat=>(x:Int):=by
 unfold plL;rw[fM];apply bG;intro i;rw[aY,aY];by_cases h:i<V.length
 ·rw[cC h,aG h];simp[aK,aG h]
 ·rw[aP (by simp;omega),aP aA];rfl
def TS {V:List Nat} {a:Nat} (h:a∉V):((a:Nat):Int)∉(plL V).map (·.1):=by
 rw[c8R];intro hh;obtain⟨x,hx,e⟩:=bK.1 hh;have:x=a:=aA;exact h (this ▸ hx)
def c8S (V:List Nat) (x:Nat):plL (V++[x])=plL V++[((x:Int),(V.length:Int))]:=by
 unfold plL;rw[aL,List.length_singleton,iO,bI];congr 1
 ·refine dA fun i hi=> ?_;rw[bH]at hi;simp[aK,aQ hi]
 ·simp[aK]
def BF (V:List Nat):(plL V).length=V.length:=by unfold plL;simp
def d5v {V:List Nat} {x:Nat} (h:x∉V):Jo (plL V) (x:Int) (V.length:Int)=plL (V++[x]):=by
 unfold Jo;rw[if_neg (TS h),c8S]
def addZ (V:List Nat) (Z:Nat->Nat->Int) (a b:Nat) (z:Int) (i k:Nat):Int:=if V[i]? =some a/\V[k]? =some b then Z i k+z else Z i k
def Rt:Sc prog 210:=⟨aB,aB,aB⟩
def Vz:Sc prog 306:=⟨aB,aB,aB⟩
def me:q8 prog 198=true:=aB
section
variable {X0 X H:PH} {gs:List Nat} {n pb qb a b:Nat} {mp v:Value} {V:List Nat} {M:Nat->Nat->LV} {Z:Nat->Nat->Int} {Tp Tq:TypeId} {z:Int} {fz:Nat×Nat}
def Vl.addZ (h:Vl X n 0 M Z) (hn:V.Nodup) {i k:Nat} {x:LV} (hi:V[i]? =some a) (hk:V[k]? =some b) (hx:Lw X (lv x) (Z i k+z)):Vl X n 0 (putM M i k x) (addZ V Z a b z):=by
 refine h.put (by unfold Go.Z.addZ;rw[if_pos ⟨hi,hk⟩];exact hx) fun c d _ _ _ _ pI=> ?_;unfold Go.Z.addZ;rw[if_neg];rintro⟨h1,h2⟩;exact pI ⟨(gU (aH.1 h1).1 hn).1 (h1.trans hi.symm),(gU (aH.1 h2).1 hn).1 (h2.trans hk.symm)⟩
def TT (h:a∉V\/b∉V):addZ V Z a b z=Z:=by
 funext i k;unfold addZ;rw[if_neg];rintro⟨h1,h2⟩;rcases h with h|h
 ·exact h (aJ h1)
 ·exact h (aJ h2)
def mf (ht:Mt X0 X H gs n 0 M Z) (hp:X0 pb=some (.cells #[mp] Tp fz)) (hq:X0 qb=some (.cells #[v] Tq fz)) (hm:MI X0 mp (plL V)) (hv:SE X0 1 (fun s:Slc=>[vs s]) v (gs.map (rsl n))) (hn:gs.length=n) (hVn:V.length=n) (uE:V.Nodup) (hz: -2<=z/\z<=2) (hZ:∀i k,Lm (Z i k)):
  Con prog 198 [ii (a:Nat),ii (b:Nat),ii z,.pointer (some ⟨pb,0,none⟩),.pointer (some ⟨qb,0,none⟩)] H fun _ H'=>∃X' M',Pl X X'/\Mt X0 X' H' gs n 0 M' (addZ V Z a b z):=by
 refine g9 mixed c8n ?_;have hp':=(ht.x0.trans ht.xh) _ _ hp;have tU:=(ht.x0.trans ht.xh) _ _ hq;have hm':=hm.mono (ht.x0.trans ht.xh);have zN:=hv.mono (ht.x0.trans ht.xh);have huk:prog.underlying 3=some (.int .i64):=Pe;have look:∀{c:Nat},∃(u:Int) (bb:Bool),((bb=false/\u=0/\((c:Nat):Int)∉(plL V).map (·.1))\/(bb=true/\(((c:Nat):Int),u)∈plL V))/\(bb=false/\c∉V\/bb=true/\∃i:Nat,u=(i:Int)/\V[i]? =some c):=fun{c}=>by
  by_cases h:c∈V
  ·obtain⟨i,hi⟩:=eJ.1 h;exact⟨(i:Int),true,.inr ⟨rfl,d5u hi⟩,.inr ⟨rfl,i,rfl,hi⟩⟩
  ·exact⟨0,false,.inl ⟨rfl,rfl,TS h⟩,.inl ⟨rfl,h⟩⟩
 obtain⟨u1,b1,rL,qL⟩:=look (c:=a);obtain⟨u2,b2,qW,qO⟩:=look (c:=b);have off1:b1=false->a∉V:=fun e=>by
  rcases qL with⟨_,h⟩|⟨h,_⟩
  ·exact h
  ·rw[e]at h;cases h
 have off2:b2=false->b∉V:=fun e=>by
  rcases qO with⟨_,h⟩|⟨h,_⟩
  ·exact h
  ·rw[e]at h;cases h
 have on1:b1=true->∃i:Nat,u1=(i:Int)/\V[i]? =some a:=fun e=>by
  rcases qL with⟨h,_⟩|⟨_,h⟩
  ·rw[e]at h;cases h
  ·exact h
 have on2:b2=true->∃i:Nat,u2=(i:Int)/\V[i]? =some b:=fun e=>by
  rcases qO with⟨h,_⟩|⟨_,h⟩
  ·rw[e]at h;cases h
  ·exact h
 refine i7 Rt rfl rfl hp' rfl rfl ?_;simp only[cA,nA];refine j6 (BB (k:=(a:Nat)) (vs:=[mp,ii (a:Nat)]) rfl rfl rfl Lr Pe BE hm' rL) rfl ?_;simp only[cA,nA];refine g7 (g7 ?_);refine i7 Rt rfl rfl hp' rfl rfl ?_;simp only[cA,nA];refine j6 (BB (k:=(b:Nat)) (vs:=[mp,ii (b:Nat)]) rfl rfl rfl Lr Pe BE hm' qW) rfl ?_;simp only[cA,nA];refine g7 (g7 (b9 ?_));refine g8 (b:=b1) rfl (fun h1=> ?_) (fun h1=> ?_)
 ·skip
  refine b9 ?_;refine g8 (b:=b2) rfl (fun h2=> ?_) (fun h2=> ?_)
  ·skip
   obtain⟨i,rfl,hi⟩:=on1 h1;obtain⟨k,rfl,hk⟩:=on2 h2;have pT:i<n:=by have:=(aH.1 hi).1;omega
   have rB:k<n:=by have:=(aH.1 hk).1;omega
   obtain⟨g,hg⟩:=BD hn pT;refine i7 Vz rfl rfl tU rfl rfl ?_;simp only[cA,nA];refine r6 Ew zN (Lq hg) fun _=> ?_;simp only[cA,nA];refine i7 Vz rfl rfl tU rfl rfl ?_;simp only[cA,nA];refine r6 Ew zN (Lq hg) fun _=> ?_;simp only[cA,nA];refine r6 el_long (ht.mx.se hg) (Rr rB) fun _=> ?_;simp only[cA,nA];refine Dz (Nx z aA aA) ht.xh rfl fun w1 X5 H5 a5 w5 b5 c5 d5=> ?_;simp only[cA,nA];replace ht:=ht.grow a5 b5 c5 d5;refine Dz (Xz ((ht.vl i k (bJ _) (bJ _) pT rB)) w5 (hZ i k) (by unfold Lm;have:=Hq (i:=1) (j:=10000) aC;rw[Go.WD.BP_succ,Go.WD.BP_zero]at this;omega)) ht.xh rfl fun w2 X6 H6 a6 w6 b6 c6 d6=> ?_;simp only[cA,nA];replace ht:=ht.grow a6 b6 c6 d6;obtain⟨x6,rfl⟩:=Oz w6;refine Dl el_long (a:=x6) rfl rfl rfl rfl aF aF (cut_le H6 g) (ht.mx.row i g hg).2 (show k<(Dk M n i).length by rw[TP];exact rB) rfl aF rfl fun p9 u9 H9 l9 o9 _=> ?_;simp only[cA,nA];exact c9 rfl ⟨X6,putM M i k x6,a5.trans a6,⟨ht.x0,(ht.mx.cut hg ht.xh).trans l9,ht.mx.put hg l9 o9,ht.vl.addZ uE hi hk w6⟩⟩
  ·skip
   exact c9 rfl ⟨X,M,Pl.refl _,by rw[TT (.inr (off2 (by simpa using h2)))];exact ht⟩
 ·skip
  exact c9 rfl ⟨X,M,Pl.refl _,by rw[TT (.inl (off1 (by simpa using h1)))];exact ht⟩
end
open Go.WD (wd toI iw)
section
variable {H:PH} {n:Nat} {w:Value} {es:List (Nat×Nat)} {set:Nat}
def BG (a:Nat):(wd a).cells.size=8/\i8 (wd a).cells:=⟨Go.WD.words_size a,Go.WD.words_one a⟩
end
def e2I {ρ:List Value} {x y:SV} {a b:Nat} (hx:D prog ρ x=ii (a:Nat)) (hy:D prog ρ y=ii (b:Nat)):D prog ρ (.put (.put (.z 54) 0 1 x 0 noI) 1 1 y 0 noI)=ev2 (a,b):=by
 show Value.agg (spl (Value.agg (spl (j3 prog 54).cells (0+0*x4 (D prog ρ noI)) (D prog ρ x).cells.toList)).cells (1+0*x4 (D prog ρ noI)) (D prog ρ y).cells.toList)=_;rw[z_2,hx,hy,bY];rfl
section
variable {H H0:PH} {u v w wts:Value} {p wl t:List Int} {n:Nat} {es:List (Nat×Nat)} {lo hi ds k:Int} {set x:Nat}
def SO.putM {α:Type} {e:TypeId} {sz:Nat} {ce:α->List Value} {v:Value} {l:List α} {X H:PH} {r:Nat} {E:Array MapEntry} {c:Nat} (h:SO X H e sz ce v l) (hr:H r=some (.map E c)) (ob:Obj):SO X (H.put r ob) e sz ce v l:=by
 obtain⟨pB,hv⟩:=h;refine⟨pB,hv.imp id ?_⟩;rintro⟨g,cap,cur,h3,rI,hg,h4⟩;exact⟨g,cap,cur,h3,rI,by rw[PH.put_ne _ _ (fun e=>by subst e;rw[hr]at hg;cases hg)];exact hg,h4⟩
def SO.splitM {α:Type} {e:TypeId} {sz:Nat} {ce:α->List Value} {v:Value} {l:List α} {B H:PH} (h:SO B H e sz ce v l) (hl:Pl B H):∃Bi,Pl Bi H/\SO Bi H e sz ce v l/\Pl B Bi/\∀r E c,H r=some (.map E c)->Bi r=some (.map E c):=by
 obtain⟨pB,hv⟩:=h;rcases hv with⟨rfl,h0⟩|⟨g,cap,cur,rfl,rI,hg,h4⟩
 ·exact⟨H,Pl.refl _,⟨pB,.inl ⟨rfl,h0⟩⟩,hl,fun _ _ _ h=>h⟩
 ·refine⟨r7 H g,cut_le _ _,⟨pB,.inr ⟨g,cap,cur,rfl,by unfold r7;rw[if_pos rfl],hg,h4⟩⟩,fun k o hk=> ?_,fun r E c hr=> ?_⟩
  ·unfold r7;rw[if_neg (fun e=>by subst e;rw[rI]at hk;cases hk)];exact hl _ _ hk
  ·unfold r7;rw[if_neg (fun e=>by subst e;rw[hg]at hr;cases hr)];exact hr
def MO.tr {B H H2:PH} {m:Value} {L:List (Int×Int)} (h:MO B H m L) (h2:∀r E c,H r=some (.map E c)->H2 r=some (.map E c)):MO B H2 m L:=by
 obtain⟨h0,r,es,c,h1,h4,h3,h5⟩:=h;exact⟨h0,r,es,c,h1,h4,h2 _ _ _ h3,h5⟩
def TU {done r:List Int} {i:Nat} {y z:Int} (h:done.length=i):(done++z::r).set i y=(done++[y])++r:=by
 subst h;rw[List.set_append_right _ _ (aS _),eA];simp
def c8T (hu:SI H u p) (hL:LabOk p 8):Con prog 77 [u] H fun r H'=>Pl H H'/\∃z,r= .tuple #[z,ii 0]/\OI H H' z (Gj p):=by
 refine g9 mixed d2q ?_;have hl:=hu.len;have yY:=hL.2.2;refine s7 (je hu 8) rfl ?_;simp only[cA,nA];refine b9 ?_;refine j1 (by show Value.bool (!decide (LabOk p 8))=_;rw[oDd hL];rfl) ?_;refine j4 (c3X rfl) rfl ?_;rintro v2 H1 ⟨l1,m1⟩;refine nmI ?_;simp only[cA,nA];refine r8 y6 (hu.mono l1) ?_;refine Nz y6 (z:=(0:Int)) wb rfl rfl rfl aA rfl fun v4 H2 l2 o2 _=> ?_;simp only[cA,nA];refine r8 y6 (hu.mono (l1.trans l2)) ?_;refine t6 (α:=Nat×List Int×List (Int×Int)×List Int) (fun⟨i,F,L,done⟩=>[ii (i:Nat)]) (fun⟨i,F,L,done⟩=>fun H'=>i<=p.length/\done.length=i/\done++Jm F (p.drop i)=Gj p/\L.length=F.length/\F.Nodup/\(∀a b:Int,(a,b)∈L↔∃j:Nat,F[j]? =some a/\b=j)/\Pl H H'/\MO H H' v2 L/\OI H H' v4 (done++eS (p.length-i) 0)) (fun⟨i,F,L,done⟩=>p.length-i) ((0,[],[],[])) rfl (⟨bJ _,rfl,rfl,rfl,fQ,fun a b=>aD,l1.trans l2,m1.mono l2,SO.less o2 l1⟩) fun⟨i,F,L,done⟩ H' hQ=> ?_;simp only[cA,nA];obtain⟨hi,hdl,hR,hLF,hF,uA,l3,m3,o3⟩:=hQ;refine b9 (b9 ?_);refine g8 (b:=decide (((i:Nat):Int)<(p.length:Nat))) rfl (fun h=> ?_) (fun h=> ?_)
 ·replace h:=oDt h;have pO:i<p.length:=aA;obtain⟨x,hx,tL⟩:=u6 pO;have a2p:eS (p.length-i) (0:Int)=0::eS (p.length-(i+1)) 0:=by rw[show p.length-i=(p.length-(i+1))+1 by omega,List.replicate_succ]
  refine r6 y6 (hu.mono l3) hx fun _=> ?_;simp only[cA,nA];have hmF:∀y:Int,y∈F↔y∈L.map (·.1):=fun y=>by
   constructor
   ·intro h;obtain⟨j,hj⟩:=eJ.1 h;exact bK.2 ⟨(y,(j:Int)),(uA _ _).2 ⟨j,hj,rfl⟩,rfl⟩
   ·intro h;obtain⟨q,hq,rfl⟩:=bK.1 h;obtain⟨j,hj,_⟩:=(uA q.1 q.2).1 hq;exact aJ hj
  have uB:(decide (x∈F)=false/\((if x∈F then F.idxOf x else 0:Nat):Int)=0/\x∉L.map (·.1))\/(decide (x∈F)=true/\(x,((if x∈F then F.idxOf x else 0:Nat):Int))∈L):=by
   by_cases vW:x∈F
   ·obtain⟨j,hj⟩:=eJ.1 vW;have hjl:=(aH.1 hj).1;have a4s:F.idxOf x=j:=by
     obtain⟨_,e⟩:=aH.1 hj;rw[<-e];exact kE hF j hjl
    exact .inr ⟨oDd vW,by rw[if_pos vW,a4s];exact(uA _ _).2 ⟨j,hj,rfl⟩⟩
   ·exact .inl ⟨decide_eq_false vW,by rw[if_neg vW];rfl,fun h=>vW ((hmF x).2 h)⟩
  refine j6 (BB (vs:=[v2,ii x]) (m:=v2) (k:=x) rfl rfl rfl Lr Pe BE m3.mi uB) rfl ?_;simp only[cA,nA];refine g7 (g7 (b9 ?_));refine g8 (b:= !decide (x∈F)) rfl (fun hb=> ?_) (fun hb=> ?_)
  ·skip
   have vW:x∉F:=by simpa using hb
   refine j6 (mc (m:=v2) rfl rfl Lr m3.mi) rfl ?_;simp only[cA,nA];refine j4 (TE (B:=H) (vs:=[v2,ii x,ii (L.length:Nat)]) (m:=v2) (k:=x) (v:=(L.length:Nat)) rfl rfl rfl rfl Lr Pe l3 m3) rfl ?_;rintro u4 H4 ⟨rfl,l4,m4,g,ob,E,cc,hgB,uN,rfl⟩;refine nmI ?_;simp only[cA,nA];have o4:=SO.putM o3 uN ob;obtain⟨Bi,g1,g2,g3,g4⟩:=SO.splitM o4 l4;refine Dl y6 (a:=((L.length:Nat):Int)) rfl rfl rfl rfl aF aF g1 g2 (by rw[aL,iI];omega) rfl aF rfl fun q u' H5 l5 o5 _=> ?_;simp only[cA,nA];have hxL:x∉L.map (·.1):=fun h=>vW ((hmF x).2 h);rw[a2p,TU hdl,hLF]at o5;exact⟨(i+1,F++[x],Jo L x (L.length:Nat),done++[((F.length:Nat):Int)]),by show p.length-(i+1)<p.length-i;omega,(j7 (p6 rfl aA)),⟨pO,by rw[aL,hdl];rfl,by rw[<-hR,tL];simp only[Jm,if_neg vW];rw[bL];rfl,by unfold Jo;rw[if_neg hxL];simp[hLF],eI.2 ⟨hF,aD,fun a ha b hb=>by obtain rfl:=bA.1 hb;exact fun e=>vW (e ▸ ha)⟩,by
    intro a b;unfold Jo;rw[if_neg hxL,bC,uA,bA,jK,hLF];constructor
    ·rintro(⟨j,h1,h2⟩|⟨rfl,rfl⟩)
     ·exact⟨j,by rw[aQ (aH.1 h1).1];exact h1,h2⟩
     ·exact⟨F.length,aD,rfl⟩
    ·rintro⟨j,h1,h2⟩;by_cases hj:j<F.length
     ·rw[aQ hj]at h1;exact .inl ⟨j,h1,h2⟩
     ·have uY:=(aH.1 h1).1;simp only[aL,aO,bR]at uY;have e:j=F.length:=aA;subst e;rw[aN (aS _),eA]at h1;simp only[dY,dF]at h1;exact .inr ⟨h1.symm,h2⟩,g3.trans l5,MO.tr m4 fun r E c hr=>l5 _ _ (g4 r E c hr),SO.less o5 g3⟩⟩
  ·skip
   have vW:x∈F:=by simpa using hb
   obtain⟨Bi,g1,g2,g3,g4⟩:=SO.splitM o3 l3;rw[if_pos vW];refine Dl y6 (a:=((F.idxOf x:Nat):Int)) rfl rfl rfl rfl aF aF g1 g2 (by rw[aL,iI];omega) rfl aF rfl fun q u' H5 l5 o5 _=> ?_;simp only[cA,nA];rw[a2p,TU hdl]at o5;exact⟨(i+1,F,L,done++[((F.idxOf x:Nat):Int)]),by show p.length-(i+1)<p.length-i;omega,(j7 (p6 rfl aA)),⟨pO,by rw[aL,hdl];rfl,by rw[<-hR,tL];simp only[Jm,if_pos vW];rw[bL];rfl,hLF,hF,uA,g3.trans l5,MO.tr m3 fun r E c hr=>l5 _ _ (g4 r E c hr),SO.less o5 g3⟩⟩
 ·replace h:=oDf h;have he:i=p.length:=aA;subst he;rw[List.drop_length]at hR;simp only[Jm,dM]at hR;rw[eA,List.replicate_zero,dM,hR]at o3;exact c9 rfl ⟨l3,v4,rfl,o3⟩
end
section
variable {H H0:PH} {u v w wts:Value} {p q wl t:List Int} {n a b:Nat} {es:List (Nat×Nat)} {lo hi ds k:Int} {set x:Nat}
abbrev OE (H0 H:PH) (v:Value) (l:List (Nat×Nat)):Prop:=SO H0 H 54 2 ec v l
def TV {k:Nat} (hk:k<=8):Con prog 122 [ii (k:Nat)] H fun r H'=>Pl H H'/\OE H H' r (Dn k):=by
 refine g9 mixed d3g ?_;refine t6 (α:=Nat×Value) (fun⟨i,v⟩=>[v,ii (i:Nat)]) (fun⟨i,v⟩=>fun H'=>i<=k/\Pl H H'/\OE H H' v (prI k i)) (fun⟨i,v⟩=>k-i) ((0,.slice none 0 0)) rfl (⟨bJ _,Pl.refl _,SO.nil _ _ _ _ _⟩) fun⟨i,v⟩ H' hQ=> ?_;simp only[cA,nA];obtain⟨hi,l1,o1⟩:=hQ;refine b9 (b9 ?_);refine g8 (b:=decide (((i:Nat):Int)<(k:Nat))) rfl (fun h=> ?_) (fun h=> ?_)
 ·replace h:=oDt h;have pO:i<k:=aA;refine t6 (α:=Nat×Value) (fun⟨j,v⟩=>[v,ii (j:Nat)]) (fun⟨j,v⟩=>fun H2=>i+1<=j/\j<=k/\Pl H H2/\OE H H2 v (prI k i++Im i j)) (fun⟨j,v⟩=>k-j) ((i+1,v)) (j0 rfl (p6 rfl aA)) (⟨aS _,pO,l1,by rw[c8J,dM];exact o1⟩) fun⟨j,v⟩ H2 hQ2=> ?_;simp only[cA,nA];obtain⟨hj1,uY,l2,o2⟩:=hQ2;refine b9 ?_;refine g8 (b:=decide (((j:Nat):Int)<(k:Nat))) rfl (fun h2=> ?_) (fun h2=> ?_)
  ·replace h2:=oDt h2;have xP:j<k:=aA;have tQ:=BA k i;have a5u:i*k<=64:=eC (show i<=8 by omega) hk;refine b4 (el_int.vcells _) ?_;refine b4 (el_int.vcells _) ?_;refine Hy el_edge rfl rfl rfl aF aF l2 o2 (by rw[aL,TB];omega) (j7 (e2I (a:=i) (b:=j) rfl rfl)) aF rfl fun p7 v7 H7 l7 o7=> ?_;simp only[cA,nA];exact⟨(j+1,v7),by show k-(j+1)<k-j;omega,(j0 rfl (p6 rfl aA)),⟨by show i+1<=j+1;omega,xP,l7,by rw[c3T hj1,<-bL];exact o7⟩⟩
  ·replace h2:=oDf h2;have hjk:j=k:=aA;subst hjk;exact⟨(i+1,v),by show j-(i+1)<j-i;omega,(j0 rfl (p6 rfl aA)),⟨pO,l2,by rw[TA];exact o2⟩⟩
 ·replace h:=oDf h;have hik:i=k:=aA;subst hik;exact c9 rfl ⟨l1,o1⟩
end
end Go.Z
namespace Go.GS
def Ru (c e m:Nat):Nat×Nat×Nat:=if e=0 then Eu c m else(0,c,e)
end Go.GS
namespace Go.Z
open Proofs.Tryz RowKit RX GS
def BH:Sc prog 36:=⟨aB,aB,aB⟩
def Zw:FA prog 154 0 0:=⟨aB,oDt aB,aB,aB,oDt aB⟩
def BI:FA prog 154 1 6:=⟨aB,oDt aB,aB,aB,oDt aB⟩
def BJ:FA prog 154 2 7:=⟨aB,oDt aB,aB,aB,oDt aB⟩
def c8U:q8 prog 121=true:=aB
def fwr (bw:Nat):Value:= .func (.func 121) #[.pointer (some ⟨bw,0,none⟩)] #[]
section
variable {H H0:PH} {u v w wts:Value} {p q wl t l:List Int} {n c e m bw:Nat} {es:List (Nat×Nat)} {lo hi ds:Int} {set x:Nat}
def rwc (wts:Value) (lo hi ds:Int) (n:Nat) (w:Value) (c e:Nat):Array Value:= #[wts,ii lo,ii hi,ii ds,ii (n:Nat),w,uv c,ii (e:Nat)]
def RwO (wts:Value) (lo hi ds:Int) (n:Nat) (w:Value) (c e:Nat):Obj:= .cells (rwc wts lo hi ds n w c e) 154 (0,0)
def SO.cut {α:Type} {e:TypeId} {sz:Nat} {ce:α->List Value} {v:Value} {l:List α} {X H:PH} {b:Nat} (h:SO X H e sz ce v l) (hX:X b≠none):SE (r7 H b) sz ce v l:=
 SO.se (H0:=X) (h.tr fun g ob h3 h4=>⟨h3,by unfold r7;rw[if_neg (fun e=>by subst e;exact hX h3)];exact h4⟩)
def mh {m:List Int} (hu:SI H u l) (hv:SI H v m):Asks prog 16 [u,v] H (.bool (decide (l=m))):=by
 refine g9 mixed Y9 ?_;have hl:=hu.len;have hm:=hv.len;refine r8 y6 hu ?_;refine r8 y6 hv ?_;refine b9 (b9 ?_);refine y7 (p:=(l.length≠m.length)) (by show Value.bool (((l.length:Nat):Int) !=((m.length:Nat):Int))=_;rw[bN];congr 1;apply decide_eq_decide.2;omega) (fun h=> ?_) fun h=> ?_
 ·exact c9 rfl ⟨rfl,by rw[decide_eq_false (fun e=>h (by rw[e]))];rfl⟩
 ·have hlm:l.length=m.length:=aA;refine r8 y6 hu ?_;refine Jg (α:=Nat×Value) (fun⟨i,p⟩=>[p,ii (i:Nat)]) (fun⟨i,p⟩=>i<=l.length/\l.take i=m.take i) (fun⟨i,p⟩=>l.length-i) ((0,.bool false)) rfl (⟨bJ _,rfl⟩) fun⟨i,p⟩ hQ=> ?_;simp only[cA,nA];obtain⟨hi,hq⟩:=hQ;refine b9 (b9 ?_);refine g8 (b:=decide (((i:Nat):Int)<(l.length:Nat))) rfl (fun h2=> ?_) (fun h2=> ?_)
  ·replace h2:=oDt h2;have pO:i<l.length:=aA;obtain⟨x,hx,tL⟩:=u6 pO;refine r6 y6 hu hx fun _=> ?_;simp only[cA,nA];obtain⟨y,hy,yI⟩:=u6 (l:=m) (i:=i) aA;refine r6 y6 hv hy fun _=> ?_;simp only[cA,nA];refine b9 (b9 ?_);refine y7 (p:=(x≠y)) (bN x y) (fun sO=> ?_) fun sO=> ?_
   ·exact c9 rfl ⟨rfl,by rw[decide_eq_false (fun e=>sO (by subst e;rw[hx]at hy;exact fG.inj hy))];rfl⟩
   ·have sO:x=y:=bW sO;exact⟨(i+1,p),by show l.length-(i+1)<l.length-i;omega,(j0 rfl (p6 rfl aA)),⟨⟨pO,by rw[take_snoc hx,take_snoc hy,hq,sO]⟩,rfl⟩⟩
  ·replace h2:=oDf h2;rw[aI aA,aI aA]at hq;exact c9 rfl ⟨rfl,by rw[oDd hq];rfl⟩
def c8V (hb:H bw=some (RwO wts lo hi ds n w c e)) (hc:c<M64) (hm:m<9223372036854775808):Con prog 121 [.pointer (some ⟨bw,0,none⟩),ii (m:Nat)] H fun u H'=>u=ii ((Ru c e m).1:Nat)/\Pl (H.put bw (RwO wts lo hi ds n w (Ru c e m).2.1 (Ru c e m).2.2)) H':=by
 refine g9 mixed d4V ?_;have pX:=d5j c m;refine j9 ?_;simp only[cA,nA];refine i0 BJ ?_;simp only[cA,nA];refine i7 BH rfl rfl hb rfl rfl ?_;simp only[cA,nA];refine b9 ?_;refine y7 (p:=(e≠0)) (bN0 e) (fun h=> ?_) fun h=> ?_
 ·exact c9 rfl ⟨by unfold Ru;rw[if_neg h];rfl,by unfold Ru;rw[if_neg h];exact lu (cut_le H bw) hb⟩
 ·have h0:e=0:=aA;subst h0;rw[show Ru c 0 m=Eu c m from if_pos rfl];refine j9 ?_;simp only[cA,nA];refine i0 BI ?_;simp only[cA,nA];refine s5 (vs:=[uv c]) lp rfl rfl hb rfl (show 0+6+1<=8 by omega) rfl ?_;simp only[cA,nA];refine i9 ((c8G c m ▸ c3O (s:=c) (z:=(m:Nat)) hc aA)) rfl fun H1 l1=> ?_;simp only[cA,nA];refine g7 (g7 (g7 ?_));refine b4 (Hh _) ?_;refine j9 ?_;simp only[cA,nA];refine i0 BI ?_;simp only[cA,nA];refine d5i (vs:=[uv (Eu c m).2.1]) lp rfl rfl rfl (l1 _ _ hb) (by show 0+6+1<=8;omega) (by intro c hc;simp at hc;subst hc;rfl) rfl rfl ?_;simp only[cA,nA];have pS:=PH.put_self H1 bw (.cells (spl (rwc wts lo hi ds n w c 0) (0+6) [uv (Eu c m).2.1]) 154 (0,0));refine j9 ?_;simp only[cA,nA];refine i0 BJ ?_;simp only[cA,nA];refine Ek (u:=ii ((Eu c m).2.2:Nat)) BH rfl rfl rfl pS (by show 0+7<8;omega) rfl rfl rfl (fun h=>(nomatch h)) ?_;simp only[cA,nA];rw[PH.put_put];exact c9 rfl ⟨rfl,lu (b8y l1 _) (PH.put_self _ _ _)⟩
end
end Go.Z

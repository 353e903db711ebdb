/- Lemmas of the proof. -/
import Derived.Test.YtcdnhlplkhldbaaGreatDoorGfG
open Go.Sem renaming run_bind->eK
open Int renaming bmod->pW
open List renaming countP_append->nI,countP_le_length->gV,filter_append->fF,length_filter_le->iS,length_range->gY,range->eO,range_succ->gU,sum_append->jC,sum_cons->eP,sum_nil->mS
set_option linter.all false
set_option maxRecDepth 100000
namespace Go.GS
def nmD (us:List Un) (lv n:Nat):List Int:=((eO 64).filter fun d:Nat=>decide (((d:Nat):Int)∈Br us lv n)).map fun d:Nat=>(d:Int)
def c4u {l m:List Int} (h:l.Perm m):l.sum=m.sum:=by
 induction h with
 |nil=>rfl
 |cons x _ ih=>rw[eP,eP,ih]
 |swap x y l=>rw[eP,eP,eP,eP];omega
 |trans _ _ ih1 ih2=>exact ih1.trans ih2
end Go.GS
namespace Go.Z
open Proofs.Tryz RowKit RX GS RZ WD
section
variable {dm:Dm} {H B:PH} {n k lv:Nat} {us:List Un} {w:Value} {u v:Value} {p:List Int}
noncomputable def ocS:ByteArray:=match(opr f334 1 1).op with| .index _ (.const (.string s)) _=>s|_=>default
noncomputable def ocN (m:Nat):Nat:=(ocS.data.getD m 0).toNat
def CY (m:Nat):ocN m<256:=(ocS.data.getD m 0).toNat_lt
def d7a:ocS.size=256:=aB
def e3i:(opr f334 1 1).op= .index 9 (.const (.string ocS)) (.tmp 3):=aB
def e3j {ρ:List Value} {a:SV} {m:Nat} (ha:D prog ρ a= .int .u8 (m:Nat)) (hm:m<256):D prog ρ (.cv .i64 a)=ii (m:Nat):=by
 show Value.int .i64 (IntKind.i64.wrap (intOf (D prog ρ a)))=_;rw[ha];show Value.int .i64 (IntKind.i64.wrap ((m:Nat):Int))=_;congr 1;simp[IntKind.wrap,IntKind.bits,IntKind.signed,pW];omega
def d7b {m:Nat} (hm:m<256):Asks prog 334 [.int .u8 (m:Nat)] H (ii (ocN m:Nat)):=by
 refine g5 mixed e0J ?_;refine j8 ((IF (s:=ocS) (k:= .u8) (m:=m) (vs:=[.string ocS,.int .u8 (m:Nat)]) e3i rfl rfl ax (by rw[d7a];exact hm)).rds _) rfl ?_;refine b9 ?_;exact d4 rfl ⟨rfl,e3j (m:=ocN m) rfl (CY m)⟩
def TF {q:PaT} (hm:q.1.2.2<256):Asks prog 306 [veP q] H (ii (ocN q.1.2.2:Nat)):=by
 refine g5 mixed d6O ?_;refine b4 (Nh q) ?_;refine j9 (d7b hm) rfl ?_;exact d4 rfl ⟨rfl,rfl⟩
def d0l (q:PaT):Asks prog 310 [veP q] H (.bool true):=by
 refine g5 mixed d6Q ?_;refine b4 (Nh q) ?_;exact d4 rfl ⟨rfl,rfl⟩
def d0m (q:PaT):Asks prog 308 [veP q] H (ii q.1.1):=by
 refine g5 mixed d6R ?_;refine b4 (Nh q) ?_;exact d4 rfl ⟨rfl,rfl⟩
def c4w {q:PaT} (hm:q.1.2.2<256):Asks prog 305 [veP q] H (.bool (decide (1<ocN q.1.2.2))):=by
 refine g5 mixed d0c ?_;refine b4 (Nh q) ?_;refine j9 (TF hm) rfl ?_;refine b9 ?_;exact d4 rfl ⟨rfl,by show Value.bool (decide (((ocN q.1.2.2:Nat):Int)>1))=_;congr 1;apply decide_eq_decide.2;omega⟩
def TG {l:List PaT} {f g:FuncId} {wf:PaT->Bool} {tf:PaT->Int} (hu:SE H 3 ceP u l) (hl:l.length<=1000) (ef:n8 prog f=true) (eg:n8 prog g=true) (hf:∀H q,q∈l->Asks prog f [veP q] H (.bool (wf q))) (hg:∀H q,q∈l->Asks prog g [veP q] H (ii (tf q))):
  Con prog 307 [u,.func (.func f) #[] #[],.func (.func g) #[] #[]] H fun r H'=>Pl H H'/\SI H' r ((l.filter wf).map tf):=by
 refine g5 mixed d6P ?_;refine m9 CW hu ?_;refine r7 (α:=Nat×Value) (fun⟨i,out⟩=>[out,ii (i:Nat)]) (fun⟨i,out⟩=>fun H'=>i<=l.length/\Pl H H'/\SO H H' 3 1 (fun z:Int=>[ii z]) out (((l.take i).filter wf).map tf)) (fun⟨i,out⟩=>l.length-i) ((0,.slice none 0 0)) rfl (⟨bK _,Pl.refl _,SO.nil _ _ _ _ _⟩) fun⟨i,out⟩ H' hQ=> ?_;obtain⟨hi,l1,o1⟩:=hQ;refine b9 (b9 ?_);refine g6 (b:=decide (((i:Nat):Int)<(l.length:Nat))) rfl (fun h=> ?_) (fun h=> ?_)
 ·replace h:=oDt h;have qG:i<l.length:=aA;obtain⟨x,hx,_⟩:=q8 qG;have hxm:=aK hx;refine n9 CW (hu.mono l1) hx fun _=> ?_;refine b4 (Nh x) ?_;refine j1 (Aj (f:=f) (caps:= #[]) (vs:=[veP x]) rfl rfl rfl ef (hf _ x hxm)) rfl ?_;rintro _ _ ⟨rfl,rfl⟩;refine nmI ?_;refine b9 ?_;refine g6 (b:=wf x) rfl (fun hw=> ?_) (fun hw=> ?_)
  ·skip
   refine j1 (Aj (f:=g) (caps:= #[]) (vs:=[veP x]) rfl rfl rfl eg (hg _ x hxm)) rfl ?_;rintro _ _ ⟨rfl,rfl⟩;refine nmI ?_;have hfl:=iS wf (l.take i);rw[bH]at hfl;refine Cf el_int rfl rfl rfl aF aF l1 o1 (by rw[aR];omega) rfl aF rfl fun pv v11 H7 l7 o7=> ?_;exact⟨(i+1,v11),by show l.length-(i+1)<l.length-i;omega,(i0 rfl (j5 rfl aA)),⟨qG,l7,by rw[take_snoc hx,fF,bM,eE hw];exact o7⟩⟩
  ·skip
   exact⟨(i+1,out),by show l.length-(i+1)<l.length-i;omega,(i0 rfl (j5 rfl aA)),⟨qG,l1,by rw[take_snoc hx,fF,bM,dH (by rw[hw];decide)];simp only[List.filter_nil,bR,cC];exact o1⟩⟩
 ·replace h:=oDf h;rw[aI aA]at o1;exact d4 rfl ⟨l1,o1.se⟩
def c4x {l:List Int} (hu:SI H u l) (hl:l.length<=1000) (hb:∀x∈l,0<=x/\x<=1000):j4 prog 309 [u] H (ii l.sum):=by
 refine g5 mixed d6U ?_;have hs:∀i:Nat,i<=l.length->0<=(l.take i).sum/\(l.take i).sum<=(i:Nat)*1000:=by
  intro i;induction i with
  |zero=>intro _;simp
  |succ i ih=>
   intro hi;obtain⟨x,hx,_⟩:=q8 (show i<l.length by omega);have:=hb x (aK hx);have:=ih aA;rw[take_snoc hx,jC];simp only[eP,mS];omega
 refine m9 el_int hu ?_;refine Df (α:=Nat) (fun i=>[ii (l.take i).sum,ii (i:Nat)]) (fun i=>i<=l.length) (fun i=>l.length-i) (0) rfl ((bK _)) fun i hQ=> ?_;refine b9 (b9 ?_);refine g6 (b:=decide (((i:Nat):Int)<(l.length:Nat))) rfl (fun h=> ?_) (fun h=> ?_)
 ·replace h:=oDt h;have qG:i<l.length:=aA;obtain⟨x,hx,_⟩:=q8 qG;have h1:=hs i aA;have h2:=hb x (aK hx);refine n9 el_int hu hx fun _=> ?_;refine b9 (b9 ?_);exact⟨(i+1),by show l.length-(i+1)<l.length-i;omega,(i0 (by rw[take_snoc hx,jC];simp only[eP,mS,Int.add_zero];exact Hm rfl rfl aA aA) (j5 rfl aA)),⟨qG,rfl⟩⟩
 ·replace h:=oDf h;rw[aI aA];exact d4 rfl ⟨Pl.refl _,rfl⟩
def d0n (hr:RoR H w us) (hv:RoV dm n us) (hl:lv<dm.l) (hk:1<=k/\k<=8) (hp:SI H v p) (ho:PlOk n k p):Con prog 304 [rov dm w,v,ii (k:Nat),ii (lv:Nat)] H fun r H'=>Pl H H'/\∃t,r= .tuple #[t,ii 0]/\∃l:List PaT,SE H' 3 ceP t l/\(l.map fun q=>q.1.1).Nodup/\(∀nm,nm∈(l.map fun q=>q.1.1)↔nm∈Br us lv n)/\∀q∈l,q.1.2.2=Cc us p lv q.1.1 n:=by
 refine g5 mixed d6S ?_;refine b4 (Gp hr.one) ?_;refine i8 (c3X hr hv hk hp ho) rfl fun H1 l1=> ?_;refine b9 ?_;refine i7 (bF (p:=(0:Int)≠0) aD) ?_;refine i8 (c4m (hr.mono l1) hv hl) rfl fun H2 l2=> ?_;refine g7 (g7 ?_);refine b4 (CP hr.one) ?_;refine b9 ?_;refine i7 (bF (p:=(0:Int)≠0) aD) ?_;refine f0 (d0k (hr.mono (l1.trans l2)) hv hl hk (hp.mono (l1.trans l2)) ho) rfl ?_;rintro t H3 ⟨l3,h3⟩;refine nmI ?_;exact d4 rfl ⟨l1.trans (l2.trans l3),t,rfl,h3⟩
noncomputable def Ua (us:List Un) (p:List Int) (lv n:Nat):Nat:=(nmD us lv n).countP fun nm=>decide (1<ocN (Cc us p lv nm n))
noncomputable def Qc (us:List Un) (p:List Int) (lv n:Nat):Int:=((nmD us lv n).map fun nm=>((ocN (Cc us p lv nm n):Nat):Int)).sum
def d0o {l:List Int} (hn:l.Nodup) (hm:∀nm,nm∈l↔nm∈Br us lv n) (h:∀nm∈Br us lv n,0<=nm/\nm<64):l.Perm (nmD us lv n):=by
 unfold nmD;rw[List.perm_ext_iff_of_nodup hn]
 ·intro x;rw[hm];constructor
  ·intro hx;obtain⟨h1,h2⟩:=h x hx;refine aZ.2 ⟨x.toNat,bZ.2 ⟨aW.2 aA,oDd ?_⟩,aA⟩;rw[show((x.toNat:Nat):Int)=x by omega];exact hx
  ·intro hx;obtain⟨d,hd,rfl⟩:=aZ.1 hx;exact oDt (bZ.1 hd).2
 ·exact List.pairwise_map.2 ((List.nodup_range.filter _).imp fun h e=>h aA)
def c4y:n8 prog 305=true:=aB
def d0p:n8 prog 308=true:=aB
def d0q:n8 prog 310=true:=aB
def d0r:n8 prog 306=true:=aB
def TI (hr:RoR H w us) (hv:RoV dm n us) (hl:lv<dm.l) (hk:1<=k/\k<=8) (hp:SI H v p) (ho:PlOk n k p):j4 prog 268 [rov dm w,v,ii (k:Nat),ii (lv:Nat)] H (.tuple #[.agg #[ii (Ua us p lv n:Nat),ii (Qc us p lv n)],ii 0]):=by
 refine g5 mixed d6T ?_;have hp8:∀x∈p,0<=x/\x<8:=fun x hx=>by have:=ho.lab x hx;omega
 have uD:∀nm,nm∈Br us lv n->0<=nm/\nm<64:=fun nm h=>by
  unfold Br at h;obtain⟨x,hx,rfl⟩:=aZ.1 h;have hxu:=hv.un x (cM hx);have:=hxu.pz _ (aK (CQ hxu hl));split at this<;>omega
 refine b4 (Gp hr.one) ?_;refine f0 (d0n hr hv hl hk hp ho) rfl ?_;rintro _ H1 ⟨l1,t,rfl,l,hL,uA,hmm,yL⟩;refine nmI ?_;refine g7 (g7 (b9 ?_));refine i7 (bF (p:=(0:Int)≠0) aD) ?_;have rJ:=d0o uA hmm uD;have a6o:l.length<=64:=by
  have:=TE uA (fun x hx=>uD x ((hmm x).1 hx));simpa using this
 have hm:∀q∈l,q.1.2.2<256:=fun q hq=>by rw[yL q hq];exact SR hp8 n
 refine f0 (TG (f:=305) (g:=308) (wf:=fun q=>decide (1<ocN q.1.2.2)) (tf:=fun q=>q.1.1) hL aA c4y d0p (fun H q hq=>c4w (hm q hq)) (fun H q hq=>d0m q)) rfl ?_;rintro v5 H2 ⟨l2,h2⟩;refine nmI ?_;refine m9 el_int h2 ?_;refine f0 (TG (f:=310) (g:=306) (wf:=fun _=>true) (tf:=fun q=>((ocN q.1.2.2:Nat):Int)) (hL.mono l2) aA d0q d0r (fun H q hq=>d0l q) (fun H q hq=>TF (hm q hq))) rfl ?_;rintro v7 H3 ⟨l3,h3⟩;refine nmI ?_;rw[show l.filter (fun _=>true)=l from List.filter_eq_self.2 fun _ _=>rfl]at h3;refine i8 (c4x h3 (by rw[aR];omega) (fun x hx=>by obtain⟨q,_,rfl⟩:=aZ.1 hx;have:=CY q.1.2.2;omega)) rfl fun H4 l4=> ?_;refine b4 (el_int.vcells _) ?_;refine b4 (el_int.vcells _) ?_;have e1:((l.filter fun q=>decide (1<ocN q.1.2.2)).map fun q=>q.1.1).length=Ua us p lv n:=by
  rw[aR,<-List.countP_eq_length_filter];unfold Ua;rw[<-rJ.countP_eq,List.countP_map];exact List.countP_congr fun q hq=>by simp only[Function.comp];rw[yL q hq]
 have e2:(l.map fun q=>((ocN q.1.2.2:Nat):Int)).sum=Qc us p lv n:=by
  unfold Qc;rw[<-c4u (rJ.map _),dO];congr 1;exact dK fun q hq=>by simp only[Function.comp];rw[yL q hq]
 rw[e1,e2];exact d4 rfl ⟨l1.trans (l2.trans (l3.trans l4)),rfl⟩
end
end Go.Z
namespace Go.RX
open RowKit
section
variable {P:Program} {H:PH} {o:Oper} {x y:Operand}
def Qd {fn:Fn} {v:Value} (ho:o.op= .makeFunc fn #[x] #[]) (hx:e8 [x] [v] x=v):Run P o [v] (.func fn #[v] #[]):=fun w=>by
 have qE:o.op.operands.toList=[x]:=by simp[ho,Op.operands]
 unfold Stp;rw[qE];simp only[execOp,ho,eK,Instr.makeFunc];simp[hx,Ext.refl]
def c4z {f:FuncId} {az:Array Operand} {tys:Array TypeId} {fs caps:Array Value} {vs:List Value} {V:Value->PH->Prop} (ho:o.op= .call ⟨.value x,az,tys⟩) (hx:e8 (x::az.toList) (.func (.func f) fs caps::vs) x= .func (.func f) fs caps) (vD:az.toList.map (e8 (x::az.toList) (.func (.func f) fs caps::vs))=vs) (hf:n8 P f=true)
  (hc:Con P f (fs.toList++vs++caps.toList) H V):Opn P o (.func (.func f) fs caps::vs) H V:=fun w hw=>by
 have ha:az.map (e8 (x::az.toList) (.func (.func f) fs caps::vs))=vs.toArray:=by rw[<-bS,dR];exact vD
 have qE:o.op.operands.toList=x::az.toList:=by simp[ho,Op.operands,Call.operands]
 have hr:(execOp (e8 (x::az.toList) (.func (.func f) fs caps::vs)) o).run P w= .ok (.enter f (fs.toList++vs++caps.toList).toArray) w:=by
  simp only[execOp,ho,resolve,hx,ha,Deferred.ofValue,eK,Sem.run_pure,Result.andThen_ok,invoke];rw[La hf];congr 2;simp
 unfold Stp;rw[qE,hr];exact(hc w hw).mono fun e w' ⟨v,H',he,hs,hV⟩=>⟨v,he,H',hs,hV⟩
end
end Go.RX
namespace Go.Z
open Proofs.Tryz RowKit RX GS RZ WD
section
variable {dm:Dm} {H B:PH} {n k:Nat} {es:List (Nat×Nat)} {us:List Un} {w rw pv tv:Value} {u v:Value} {p:List Int} {s:Nat}
def CZ:Asks prog 148 [ii 0] H (.tuple #[]):=by
 refine g5 mixed d6h ?_;refine b9 ?_;refine i7 (bF (p:=(0:Int)≠0) aD) ?_;exact d4 rfl ⟨rfl,rfl⟩
def od (e:Int):Asks prog 149 [.bool false,ii e] H (.tuple #[]):=by
 refine g5 mixed d6g ?_;refine b9 ?_;refine i7 rfl ?_;exact d4 rfl ⟨rfl,rfl⟩
def d0s (v:Value):Asks prog 150 [v,ii 0] H v:=by
 refine g5 mixed d6c ?_;refine b9 ?_;refine i7 (bF (p:=(0:Int)≠0) aD) ?_;exact d4 rfl ⟨rfl,rfl⟩
def d0t (v:Value):Asks prog 265 [v,ii 0] H v:=by
 refine g5 mixed d6e ?_;refine b9 ?_;refine i7 (bF (p:=(0:Int)≠0) aD) ?_;exact d4 rfl ⟨rfl,rfl⟩
def TJ (a b:Nat):Asks prog 262 [shv a b,ii 0] H (shv a b):=by
 refine g5 mixed d6d ?_;refine b4 (j7 a b) ?_;refine b9 ?_;refine i7 (bF (p:=(0:Int)≠0) aD) ?_;exact d4 rfl ⟨rfl,rfl⟩
def Ko (a b:Int):(Value.agg #[ii a,ii b]).cells.size=2/\j0 (Value.agg #[ii a,ii b]).cells:=⟨rfl,fun c hc=>by
 simp[Value.cells]at hc;rcases hc with rfl|rfl<;>rfl⟩
def TK (a b:Int):Asks prog 267 [.agg #[ii a,ii b],ii 0] H (.agg #[ii a,ii b]):=by
 refine g5 mixed d6f ?_;refine b4 (Ko a b) ?_;refine b9 ?_;refine i7 (bF (p:=(0:Int)≠0) aD) ?_;exact d4 rfl ⟨rfl,rfl⟩
def Kp {z:Int} (h:z.natAbs<2^62):Rg (z:Rat):=d9C h aC aC
def Ub {z:Int} (h:z.natAbs<2^62):j4 prog 264 [ii z] H (shR (z:Rat)):=by
 refine g5 mixed d6l ?_;have e:Gi z 1= .tuple #[shR (z:Rat),ii 0]:=by unfold Gi;rw[if_neg aC,RU,Sj (Kp h)];rfl
 refine i8 ((show j4 prog 59 [ii z,ii 1] H (.tuple #[shR (z:Rat),ii 0])from(yt z 1 aA aA aC aC).mono fun u H' h=>⟨h.1,h.2.trans e⟩)) rfl fun H1 l1=> ?_;refine g7 (g7 ?_);refine j9 (TJ _ _) rfl ?_;refine b4 (j7 _ _) ?_;exact d4 rfl ⟨l1,rfl⟩
def scC (dm:Dm) (n k:Nat) (w rw pv tv:Value):Array Value:= #[ii (n:Nat),w,ii (dm.g:Nat),ii (dm.p:Nat),ii (dm.l:Nat),rw,pv,ii (k:Nat),tv]
def d7d (h1:y6 w=true) (h2:y6 rw=true) (h3:y6 pv=true) (h4:y6 tv=true):(Value.agg (scC dm n k w rw pv tv)).cells.size=9/\j0 (Value.agg (scC dm n k w rw pv tv)).cells:=⟨rfl,fun c hc=>by
 simp[scC,Value.cells]at hc;rcases hc with rfl|rfl|rfl|rfl|rfl|rfl|rfl|rfl|rfl
 ·rfl
 ·exact h1
 ·rfl
 ·rfl
 ·rfl
 ·exact h2
 ·exact h3
 ·rfl
 ·exact h4⟩
structure Sce (dm:Dm) (H:PH) (s n:Nat) (w:Value) (es:List (Nat×Nat)) (rw:Value) (us:List Un) (pv:Value) (p:List Int) (k:Nat) (tv:Value):Prop where
 bk:H s=some (.cells (scC dm n k w rw pv tv) 259 (0,0))
 gr:SG H w es
 gv:GV n es
 ro:RoR H rw us
 rv:RoV dm n us
 pl:SI H pv p
 po:PlOk n k p
 hk:1<=k/\k<=8
 to:SI H tv (s0 Un.ppl us p k n)
def Sce.mono {H':PH} (h:Sce dm H s n w es rw us pv p k tv) (hl:Pl H H'):Sce dm H' s n w es rw us pv p k tv:=⟨hl _ _ h.bk,h.gr.mono hl,h.gv,h.ro.mono hl,h.rv,h.pl.mono hl,h.po,h.hk,h.to.mono hl⟩
def Uc {v:Value} (h:y6 v=true) (h2:v.cells= #[v]):v.cells.size=1/\j0 v.cells:=by
 rw[h2];exact⟨rfl,fun c hc=>by simp at hc;subst hc;exact h⟩
def e0W:(j3 prog 3).cells= #[ii 0]:=aB
def e0X:(j3 prog 39).cells= #[.slice none 0 0]:=aB
def og (a b p k t:SV):SV:= .cat (.ag a) 2 (.cat (.ag b) 4 (.cat (.sub (.put (.cat p 1 (.cat (.z 3) 1 (.z 39))) 1 1 k 0 noI) 0 2 0 noI) 2 t))
def TL {a b p' k' t:SV} {ρ:List Value} (ha:D prog ρ a=gv n w) (hb:D prog ρ b=rov dm rw) (hp:D prog ρ p'=pv) (hk:D prog ρ k'=ii (k:Nat)) (ht:D prog ρ t=tv) (hpc:pv.cells= #[pv]) (htc:tv.cells= #[tv]):(D prog ρ (og a b p' k' t)).cells=scC dm n k w rw pv tv:=by
 show(Value.agg ((Value.agg (D prog ρ a).cells).cells++(Value.agg ((Value.agg (D prog ρ b).cells).cells++(Value.agg ((D prog ρ (.sub (.put (.cat p' 1 (.cat (.z 3) 1 (.z 39))) 1 1 k' 0 noI) 0 2 0 noI)).cells++(D prog ρ t).cells)).cells)).cells)).cells=_;have e:D prog ρ (.sub (.put (.cat p' 1 (.cat (.z 3) 1 (.z 39))) 1 1 k' 0 noI) 0 2 0 noI)= .agg #[pv,ii (k:Nat)]:=by
  simp only[D,hp,hk,hpc,e0W,e0X];rfl
 rw[e,ha,hb,ht,htc];rfl
def e0Z {a b p' k' t:SV} {ρ:List Value} (ha:D prog ρ a=gv n w) (hb:D prog ρ b=rov dm rw) (hp:D prog ρ p'=pv) (hk:D prog ρ k'=ii (k:Nat)) (ht:D prog ρ t=tv) (hpc:pv.cells= #[pv]) (htc:tv.cells= #[tv]) (h1:y6 w=true) (h2:y6 rw=true) (h3:y6 pv=true) (h4:y6 tv=true):Rq.holds prog ρ (.cells 9 (og a b p' k' t)):=by
 show(D prog ρ (og a b p' k' t)).cells.size=9/\j0 (D prog ρ (og a b p' k' t)).cells;rw[TL ha hb hp hk ht hpc htc];exact d7d h1 h2 h3 h4
def d0u (hw:SG H w es) (hg:GV n es) (hr:RoR H rw us) (hv:RoV dm n us) (hp:SI H pv p) (ho:PlOk n k p) (hk:1<=k/\k<=8):Con prog 103 [gv n w,rov dm rw,pv,ii (k:Nat)] H fun r H'=>Pl H H'/\∃s tv,r= .pointer (some ⟨s,0,none⟩)/\Sce dm H' s n w es rw us pv p k tv:=by
 refine g5 mixed d6i ?_;have pY:=hv.le;have sM:=hv.l64;obtain⟨hL,hU⟩:=ho.ok hg.n1 hg.n64;have hpE:plE n p (k:Nat)=0:=by
  unfold plE;rw[if_neg aA,if_pos ⟨ho.len,hL,by rw[bU];exact hU⟩]
 obtain⟨ul,sW,qC,rT⟩:=id hr;refine b4 (Ci hw) ?_;refine b4 (Gp hr.one) ?_;refine i8 (Lu hw hg) rfl fun H1 l1=> ?_;simp only[cA,nA];refine j9 (CZ) rfl ?_;simp only[cA,nA];refine i8 (ay (hr.mono l1) hv) rfl fun H2 l2=> ?_;simp only[cA,nA];refine j9 (CZ) rfl ?_;simp only[cA,nA];have l02:=l1.trans l2;refine m9 Cb (sW.mono l02) ?_;simp only[cA,nA];refine Df (α:=Nat) (fun i=>[ii (min i n:Nat),ii (i:Nat)]) (fun i=>i<=us.length) (fun i=>us.length-i) (0) (by rw[Nat.zero_min];rfl) ((bK _)) fun i hQ=> ?_;simp only[cA,nA];refine b9 (b9 ?_);refine g6 (b:=decide (((i:Nat):Int)<(ul.length:Nat))) rfl (fun h=> ?_) (fun h=> ?_)
 ·replace h:=oDt h;have xC:i<ul.length:=aA;obtain⟨u,hu,_⟩:=q8 xC;obtain⟨x,hx,_⟩:=q8 (show i<us.length by omega);have rG:u.wat=decide (n<=i):=(rT i u x hu hx).wat.trans (hv.wat i x hx);refine n9 Cb (sW.mono l02) hu fun _=> ?_;simp only[cA,nA];refine b4 (Gn u) ?_;refine b9 ?_;refine⟨(fun l H'=>l=[ii (min (i+1) n:Nat)]/\H'=H2),?_,?_⟩
  ·skip
   refine g6 (b:= !u.wat) rfl (fun hb=> ?_) (fun hb=> ?_)
   ·skip
    have wZ:¬n<=i:=fun hh=>by rw[rG,oDd hh]at hb;cases hb
    refine b9 ?_;exact⟨by rw[show min (i+1) n=i+1 by omega];exact p6 (j5 (by rw[show min i n=i by omega];rfl) aA),rfl⟩
   ·skip
    have wZ:n<=i:=by rw[rG]at hb;simpa using hb
    exact⟨by rw[show min (i+1) n=min i n by omega];rfl,rfl⟩
  rintro vals H' _ ⟨rfl,rfl⟩;simp only[cA,nA];exact⟨(i+1),by show us.length-(i+1)<us.length-i;omega,(i0 rfl (j5 rfl aA)),⟨by show i+1<=us.length;omega,rfl⟩⟩
 ·replace h:=oDf h;refine b9 (b9 ?_);refine j9 (od 5) (i0 (Py (a:=((min i n:Nat):Int)) (b:=((n:Nat):Int)) aA) rfl) ?_;simp only[cA,nA];refine i8 (AA (hw.mono l02) hg (hp.mono l02) (k:Nat)) rfl fun H3 l3=> ?_;simp only[cA,nA];rw[hpE];refine j9 (CZ) rfl ?_;simp only[cA,nA];have l03:=l02.trans l3;refine f0 (d0f (hr.mono l03) hv hk (hp.mono l03) ho) rfl ?_;rintro _ H4 ⟨l4,t,rfl,ht⟩;refine⟨(fun _=>l4),?_⟩;simp only[cA,nA];refine g7 (g7 ?_);refine j9 (d0s t) rfl ?_;simp only[cA,nA];have l04:=l03.trans l4;refine b4 (hp.one) ?_;refine b4 (el_int.vcells _) ?_;refine b4 (ht.one) ?_;refine b4 (e0Z rfl rfl rfl rfl rfl hp.cells ht.cells (t8 hw) (t8 sW) (t8 hp) (t8 ht)) ?_;refine o0 (cs:=scC dm n k w rw pv t) (TL rfl rfl rfl rfl rfl hp.cells ht.cells) fun s hs=> ?_;simp only[cA,nA];have ls:=PH.le_put hs (.cells (scC dm n k w rw pv t) 259 (0,0));exact d4 rfl ⟨l04.trans ls,s,_,rfl,PH.put_self _ _ _,hw.mono (l04.trans ls),hg,hr.mono (l04.trans ls),hv,hp.mono (l04.trans ls),ho,hk,ht.mono ls⟩
def e1a:FA prog 259 0 0:=⟨aB,oDt aB,aB,aB,oDt aB⟩
def Ud:FA prog 259 1 2:=⟨aB,oDt aB,aB,aB,oDt aB⟩
def ca:FA prog 259 2 6:=⟨aB,oDt aB,aB,aB,oDt aB⟩
def Xc:FA prog 259 3 7:=⟨aB,oDt aB,aB,aB,oDt aB⟩
def cc:FA prog 259 4 8:=⟨aB,oDt aB,aB,aB,oDt aB⟩
def TM {g:FuncId} {caps:List Value} {f:Un->Int} (hS:Sce dm H s n w es rw us pv p k tv) (eg:n8 prog g=true) (hf:∀H' x u,Pl H H'->x∈us->UnR H' u x->Asks prog g (veU u::caps) H' (ii (f x))) (hb:∀x∈us,0<=f x/\f x<=1000000000):Con prog 269 [.pointer (some ⟨s,0,none⟩),.func (.func g) #[] caps.toArray] H fun r H'=>Pl H H'/\SO H H' 3 1 (fun z:Int=>[ii z]) r (s0 f us p k n):=by
 refine g5 mixed d6j ?_;have hk:=hS.hk;have hv:=hS.rv;have pY:=hv.le;have sM:=hv.l64;have tQ:=hS.po.len;obtain⟨ul,sW,qC,rT⟩:=id hS.ro;refine j6 ?_;simp only[cA,nA];refine g8 Xc ?_;simp only[cA,nA];refine g9 sc_int rfl rfl hS.bk rfl rfl ?_;simp only[cA,nA];refine Ot el_int (m:=k) (z:=0) aB rfl rfl rfl aA rfl fun v5 H2 l2 o2 _=> ?_;simp only[cA,nA];refine j6 ?_;simp only[cA,nA];refine g8 ca ?_;simp only[cA,nA];refine g9 Fb rfl rfl (l2 _ _ hS.bk) rfl rfl ?_;simp only[cA,nA];refine m9 z6 (hS.pl.mono l2) ?_;simp only[cA,nA];refine r7 (α:=Nat) (fun i=>[ii (i:Nat)]) (fun i=>fun H'=>i<=n/\Pl H H'/\SO H H' 3 1 (fun z:Int=>[ii z]) v5 (s0 f us p k i)) (fun i=>n-i) (0) rfl (⟨bK _,l2,by rw[RJ];exact o2⟩) fun i H' hQ=> ?_;simp only[cA,nA];obtain⟨hi,lX,oX⟩:=hQ;refine b9 (b9 ?_);refine g6 (b:=decide (((i:Nat):Int)<(p.length:Nat))) rfl (fun h=> ?_) (fun h=> ?_)
 ·replace h:=oDt h;have qG:i<n:=aA;obtain⟨y,hy,_⟩:=q8 (show i<p.length by omega);obtain⟨tW,hyk⟩:=hS.po.lab y (aK hy);obtain⟨d,rfl⟩:∃d:Nat,y=((d:Nat):Int):=⟨y.toNat,aA⟩;have hdk:d<k:=aA;obtain⟨u,hu,_⟩:=q8 (show i<ul.length by omega);obtain⟨x,hx,_⟩:=q8 (show i<us.length by omega);have qU:=Wz (p:=p) (f:=f) aA hb d i;have hxb:=hb x (aK hx);refine n9 z6 (hS.pl.mono lX) hy fun _=> ?_;simp only[cA,nA];refine Ac el_int rfl rfl rfl rfl aF oX.se (Gq (f:=f) (us:=us) (p:=p) (i:=i) hdk) rfl aF fun _=> ?_;simp only[cA,nA];refine j6 ?_;simp only[cA,nA];refine g8 Ud ?_;simp only[cA,nA];refine g8 CE ?_;simp only[cA,nA];refine g9 CG rfl rfl (lX _ _ hS.bk) rfl rfl ?_;simp only[cA,nA];refine n9 Cb (sW.mono lX) hu fun _=> ?_;simp only[cA,nA];refine j1 (Aj (f:=g) (caps:=caps.toArray) (vs:=[veU u]) rfl rfl rfl eg (hf _ x u lX (aK hx) ((rT i u x hu hx).mono lX))) rfl ?_;rintro _ _ ⟨rfl,rfl⟩;refine⟨(fun _=>Pl.refl _),?_⟩;simp only[cA,nA];refine b9 (b9 ?_);refine Ee el_int (a:=i9 f us p i d+f x) rfl rfl rfl rfl aF aF lX oX (by rw[Iw];exact hdk) rfl (fun _=>i0 rfl (Hm rfl rfl aA aA)) rfl fun p5 u5 H5 l5 o5 _=> ?_;simp only[cA,nA];have e5:(s0 f us p k i).set d (i9 f us p i d+f x)=s0 f us p k (i+1):=(RL hy hx).symm;rw[e5]at o5;exact⟨(i+1),by show n-(i+1)<n-i;omega,(p6 (j5 rfl aA)),⟨qG,l5,o5⟩⟩
 ·replace h:=oDf h;obtain rfl:i=n:=aA;exact d4 rfl ⟨lX,oX⟩
def TN {g:FuncId} {caps:List Value} {q:Nat->Bool} (hb:∃w rw pv tv T,H s=some (.cells (scC dm n k w rw pv tv) T (0,0))) (hk:k<=8) (eg:n8 prog g=true) (hf:∀H' d,Pl H H'->d<k->Asks prog g (ii (d:Nat)::caps) H' (.bool (q d))):Con prog 271 [.pointer (some ⟨s,0,none⟩),.func (.func g) #[] caps.toArray] H fun r H'=>Pl H H'/\∃l:List Int,SI H' r l/\l.length=(eO k).countP q:=by
 refine g5 mixed d6k ?_;obtain⟨w,rw',pv,tv,T,hb⟩:=hb;refine j6 ?_;refine g8 Xc ?_;refine g9 sc_int rfl rfl hb rfl rfl ?_;refine r7 (α:=Nat×Value×List Int) (fun⟨i,out,l⟩=>[out,ii (i:Nat)]) (fun⟨i,out,l⟩=>fun H'=>i<=k/\Pl H H'/\SO H H' 3 1 (fun z:Int=>[ii z]) out l/\l.length=(eO i).countP q) (fun⟨i,out,l⟩=>k-i) ((0,.slice none 0 0,[])) rfl (⟨bK _,Pl.refl _,SO.nil _ _ _ _ _,rfl⟩) fun⟨i,out,l⟩ H' hQ=> ?_;obtain⟨hi,l1,o1,qC⟩:=hQ;refine b9 (b9 ?_);refine g6 (b:=decide (((i:Nat):Int)<(k:Nat))) rfl (fun h=> ?_) (fun h=> ?_)
 ·replace h:=oDt h;have yJ:i<k:=aA;refine j1 (Aj (f:=g) (caps:=caps.toArray) (vs:=[ii (i:Nat)]) rfl rfl rfl eg (hf _ i l1 yJ)) rfl ?_;rintro _ _ ⟨rfl,rfl⟩;refine nmI ?_;refine b9 ?_;refine g6 (b:=q i) rfl (fun hq=> ?_) (fun hq=> ?_)
  ·skip
   have sR:=gV (p:=q) (l:=eO i);rw[gY]at sR;refine Cf el_int rfl rfl rfl aF aF l1 o1 aA rfl aF rfl fun pv2 v11 H7 l7 o7=> ?_;exact⟨(i+1,v11,l++[((i:Nat):Int)]),by show k-(i+1)<k-i;omega,(i0 rfl (j5 rfl aA)),⟨yJ,l7,o7,by rw[aL,gU,nI,qC];simp[hq]⟩⟩
  ·skip
   exact⟨(i+1,out,l),by show k-(i+1)<k-i;omega,(i0 rfl (j5 rfl aA)),⟨yJ,l1,o1,by rw[gU,nI,qC];simp[hq]⟩⟩
 ·replace h:=oDf h;obtain rfl:i=k:=aA;exact d4 rfl ⟨l1,l,o1.se,qC⟩
end
end Go.Z
namespace Go.GS
def Gs (j:Nat) (x:Un):Int:=(x.grp[j]?).getD 0
def Au (j:Nat) (x:Un):Int:=(x.vot[j]?).getD 0
def Qe (us:List Un) (p:List Int) (k n j:Nat):Nat:=(eO k).countP fun d=>decide (2*i9 (Gs j) us p n d>i9 Un.ppl us p n d)
def Qf (dm:Dm) (us:List Un) (p:List Int) (k n j:Nat):Nat:=(eO k).countP fun d=>(eO dm.p).all fun i=>decide (i=j)||decide (i9 (Au i) us p n d<i9 (Au j) us p n d)
end Go.GS
namespace Go.Z
open Proofs.Tryz RowKit RX GS RZ WD
section
variable {dm:Dm} {H B:PH} {n k lv who:Nat} {es:List (Nat×Nat)} {us:List Un} {w rw pv tv:Value} {u v:Value} {p:List Int} {s:Nat}
def qV (lv who:Nat):Value:= .agg #[ii (lv:Nat),ii (who:Nat)]
def Qg:Ag prog 33 2:=⟨aB,aB,aB⟩
def c4A (hS:Sce dm H s n w es rw us pv p k tv) (hz:Aw us n≠0):j4 prog 210 [.pointer (some ⟨s,0,none⟩),qV lv who] H (shR (Nc us p k n)):=by
 refine g5 mixed d6m ?_;refine b4 (Ko _ _) ?_;refine j6 ?_;refine g8 Ud ?_;refine x5 (vs:=[ii (dm.g:Nat),ii (dm.p:Nat),ii (dm.l:Nat),rw]) Pz rfl rfl hS.bk rfl (show 2+4<=9 by decide) rfl ?_;refine j6 ?_;refine g8 ca ?_;refine g9 Fb rfl rfl hS.bk rfl rfl ?_;refine j6 ?_;refine g8 Xc ?_;refine g9 sc_int rfl rfl hS.bk rfl rfl ?_;refine i8 (c4b hS.ro hS.rv hS.hk hS.pl hS.po hz) rfl fun H1 l1=> ?_;refine g7 (g7 ?_);refine j9 (TJ _ _) rfl ?_;refine b4 (j7 _ _) ?_;exact d4 rfl ⟨l1,rfl⟩
def Ue (hv:RoV dm n us) (d:Nat):0<=i9 Un.ppl us p n d/\i9 Un.ppl us p n d<=64000000000:=by
 have h1:=hv.l64;have h2:=hv.le;have:=Wz (p:=p) (f:=Un.ppl) aA (Iy hv) d n;omega
def Xd (hv:RoV dm n us):∀x∈s0 Un.ppl us p k n,0<=x/\x<=64000000000:=fun x hx=>by
 obtain⟨d,_,rfl⟩:=aZ.1 hx;exact Ue hv d
def c4B (hS:Sce dm H s n w es rw us pv p k tv):j4 prog 211 [.pointer (some ⟨s,0,none⟩),qV lv who] H (shR ((Dx (i9 Un.ppl us p n 0) (s0 Un.ppl us p k n):Int):Rat)):=by
 refine g5 mixed d6n ?_;have hk:=hS.hk;have qC:(s0 Un.ppl us p k n).length=k:=Iw;have hmx:=nl _ _ (Ue (p:=p) hS.rv 0) (Xd (p:=p) (k:=k) hS.rv);generalize hl:s0 Un.ppl us p k n=l at qC hmx⊢;have zO:SI H tv l:=hl ▸ hS.to;have h0:l[0]? =some (i9 Un.ppl us p n 0):=by rw[<-hl];exact Gq aA
 refine b4 (Ko _ _) ?_;refine j6 ?_;simp only[cA,nA];refine g8 cc ?_;simp only[cA,nA];refine g9 Dt rfl rfl hS.bk rfl rfl ?_;simp only[cA,nA];refine n9 el_int zO h0 fun _=> ?_;simp only[cA,nA];refine j6 ?_;simp only[cA,nA];refine g8 cc ?_;simp only[cA,nA];refine g9 Dt rfl rfl hS.bk rfl rfl ?_;simp only[cA,nA];refine m9 el_int zO ?_;simp only[cA,nA];refine Df (α:=Nat) (fun i=>[ii (Dx (i9 Un.ppl us p n 0) (l.take i)),ii (i:Nat)]) (fun i=>i<=l.length) (fun i=>l.length-i) (0) rfl ((bK _)) fun i hQ=> ?_;simp only[cA,nA];refine b9 (b9 ?_);refine g6 (b:=decide (((i:Nat):Int)<(l.length:Nat))) rfl (fun h=> ?_) (fun h=> ?_)
 ·replace h:=oDt h;have qG:i<l.length:=aA;obtain⟨x,hx,_⟩:=q8 qG;refine n9 el_int zO hx fun _=> ?_;simp only[cA,nA];refine j8 ((MP (vs:=[ii (Dx (i9 Un.ppl us p n 0) (l.take i)),ii x]) rfl rfl rfl).rds _) rfl ?_;simp only[cA,nA];exact⟨(i+1),by show l.length-(i+1)<l.length-i;omega,(i0 (by rw[take_snoc hx,RR];rfl) (j5 rfl aA)),⟨qG,rfl⟩⟩
 ·replace h:=oDf h;rw[aI aA];refine i8 (Ub aA) rfl fun H1 l1=> ?_;simp only[cA,nA];refine b4 (j7 _ _) ?_;exact d4 rfl ⟨l1,rfl⟩
def c4C (hS:Sce dm H s n w es rw us pv p k tv):j4 prog 213 [.pointer (some ⟨s,0,none⟩),qV lv who] H (shR ((Em (i9 Un.ppl us p n 0) (s0 Un.ppl us p k n):Int):Rat)):=by
 refine g5 mixed d6p ?_;have hk:=hS.hk;have qC:(s0 Un.ppl us p k n).length=k:=Iw;have hmx:=nj _ _ (Ue (p:=p) hS.rv 0) (Xd (p:=p) (k:=k) hS.rv);generalize hl:s0 Un.ppl us p k n=l at qC hmx⊢;have zO:SI H tv l:=hl ▸ hS.to;have h0:l[0]? =some (i9 Un.ppl us p n 0):=by rw[<-hl];exact Gq aA
 refine b4 (Ko _ _) ?_;refine j6 ?_;simp only[cA,nA];refine g8 cc ?_;simp only[cA,nA];refine g9 Dt rfl rfl hS.bk rfl rfl ?_;simp only[cA,nA];refine n9 el_int zO h0 fun _=> ?_;simp only[cA,nA];refine j6 ?_;simp only[cA,nA];refine g8 cc ?_;simp only[cA,nA];refine g9 Dt rfl rfl hS.bk rfl rfl ?_;simp only[cA,nA];refine m9 el_int zO ?_;simp only[cA,nA];refine Df (α:=Nat) (fun i=>[ii (Em (i9 Un.ppl us p n 0) (l.take i)),ii (i:Nat)]) (fun i=>i<=l.length) (fun i=>l.length-i) (0) rfl ((bK _)) fun i hQ=> ?_;simp only[cA,nA];refine b9 (b9 ?_);refine g6 (b:=decide (((i:Nat):Int)<(l.length:Nat))) rfl (fun h=> ?_) (fun h=> ?_)
 ·replace h:=oDt h;have qG:i<l.length:=aA;obtain⟨x,hx,_⟩:=q8 qG;refine n9 el_int zO hx fun _=> ?_;simp only[cA,nA];refine j8 ((ic (vs:=[ii (Em (i9 Un.ppl us p n 0) (l.take i)),ii x]) rfl rfl rfl).rds _) rfl ?_;simp only[cA,nA];exact⟨(i+1),by show l.length-(i+1)<l.length-i;omega,(i0 (by rw[take_snoc hx,RQ];rfl) (j5 rfl aA)),⟨qG,rfl⟩⟩
 ·replace h:=oDf h;rw[aI aA];refine i8 (Ub aA) rfl fun H1 l1=> ?_;simp only[cA,nA];refine b4 (j7 _ _) ?_;exact d4 rfl ⟨l1,rfl⟩
def c4D (hS:Sce dm H s n w es rw us pv p k tv):j4 prog 212 [.pointer (some ⟨s,0,none⟩),qV lv who] H (shR (((Qa es p:Nat):Int):Rat)):=by
 refine g5 mixed d6o ?_;have rY:=hS.gv.len;have sR:=CJ (es:=es) (p:=p);refine b4 (Ko _ _) ?_;refine j6 ?_;refine g8 e1a ?_;refine x5 (vs:=[ii (n:Nat),w]) Qg rfl rfl hS.bk rfl (show 0+2<=9 by decide) rfl ?_;refine j6 ?_;refine g8 ca ?_;refine g9 Fb rfl rfl hS.bk rfl rfl ?_;refine j6 ?_;refine g8 Xc ?_;refine g9 sc_int rfl rfl hS.bk rfl rfl ?_;refine i8 (c4e hS.gr hS.gv hS.pl hS.hk hS.po) rfl fun H1 l1=> ?_;refine g7 (g7 ?_);refine j9 (d0t _) rfl ?_;refine i8 (Ub aA) rfl fun H2 l2=> ?_;refine b4 (j7 _ _) ?_;exact d4 rfl ⟨l1.trans l2,rfl⟩
def TO:Ua us p lv n<=64:=by
 unfold Ua;refine cK gV ?_;unfold nmD;rw[aR];refine cK (iS _ _) ?_;rw[gY];exact aS _
def e3k {l:List Int} {M:Int} (h:∀x∈l,0<=x/\x<=M):0<=l.sum/\l.sum<=(l.length:Nat)*M:=by
 induction l with
 |nil=>simp
 |cons a l ih=>
  have h1:=h a aD;have h2:=ih (fun x hx=>h x (by simp[hx]));rw[eP,aP,Int.natCast_succ,Int.add_mul,Int.one_mul];omega
def TP:0<=Qc us p lv n/\Qc us p lv n<=100000:=by
 have hl:(nmD us lv n).length<=64:=by
  unfold nmD;rw[aR];refine cK (iS _ _) ?_;rw[gY];exact aS _
 have:=e3k (l:=(nmD us lv n).map fun nm=>((ocN (Cc us p lv nm n):Nat):Int)) (M:=256) (fun x hx=>by
  obtain⟨nm,_,rfl⟩:=aZ.1 hx;have:=CY (Cc us p lv nm n);omega)
 rw[aR]at this;unfold Qc;omega
def c4E (hS:Sce dm H s n w es rw us pv p k tv) (hl:lv<dm.l):j4 prog 214 [.pointer (some ⟨s,0,none⟩),qV lv who] H (shR (((Ua us p lv n:Nat):Int):Rat)):=by
 refine g5 mixed d6q ?_;have hb:=TO (us:=us) (p:=p) (lv:=lv) (n:=n);refine b4 (Ko _ _) ?_;refine j6 ?_;simp only[cA,nA];refine g8 Ud ?_;simp only[cA,nA];refine x5 (vs:=[ii (dm.g:Nat),ii (dm.p:Nat),ii (dm.l:Nat),rw]) Pz rfl rfl hS.bk rfl (show 2+4<=9 by decide) rfl ?_;simp only[cA,nA];refine j6 ?_;simp only[cA,nA];refine g8 ca ?_;simp only[cA,nA];refine g9 Fb rfl rfl hS.bk rfl rfl ?_;simp only[cA,nA];refine j6 ?_;simp only[cA,nA];refine g8 Xc ?_;simp only[cA,nA];refine g9 sc_int rfl rfl hS.bk rfl rfl ?_;simp only[cA,nA];refine i8 (TI hS.ro hS.rv hl hS.hk hS.pl hS.po) rfl fun H1 l1=> ?_;simp only[cA,nA];refine g7 (g7 ?_);refine j9 (TK _ _) rfl ?_;simp only[cA,nA];refine b4 ⟨_,rfl,rfl⟩ ?_;refine i8 (Ub aA) rfl fun H2 l2=> ?_;simp only[cA,nA];refine b4 (j7 _ _) ?_;exact d4 rfl ⟨l1.trans l2,rfl⟩
def c4F (hS:Sce dm H s n w es rw us pv p k tv) (hl:lv<dm.l):j4 prog 215 [.pointer (some ⟨s,0,none⟩),qV lv who] H (shR ((Qc us p lv n:Int):Rat)):=by
 refine g5 mixed d6r ?_;have hb:=TP (us:=us) (p:=p) (lv:=lv) (n:=n);refine b4 (Ko _ _) ?_;refine j6 ?_;simp only[cA,nA];refine g8 Ud ?_;simp only[cA,nA];refine x5 (vs:=[ii (dm.g:Nat),ii (dm.p:Nat),ii (dm.l:Nat),rw]) Pz rfl rfl hS.bk rfl (show 2+4<=9 by decide) rfl ?_;simp only[cA,nA];refine j6 ?_;simp only[cA,nA];refine g8 ca ?_;simp only[cA,nA];refine g9 Fb rfl rfl hS.bk rfl rfl ?_;simp only[cA,nA];refine j6 ?_;simp only[cA,nA];refine g8 Xc ?_;simp only[cA,nA];refine g9 sc_int rfl rfl hS.bk rfl rfl ?_;simp only[cA,nA];refine i8 (TI hS.ro hS.rv hl hS.hk hS.pl hS.po) rfl fun H1 l1=> ?_;simp only[cA,nA];refine g7 (g7 ?_);refine j9 (TK _ _) rfl ?_;simp only[cA,nA];refine b4 ⟨_,rfl,rfl⟩ ?_;refine i8 (Ub aA) rfl fun H2 l2=> ?_;simp only[cA,nA];refine b4 (j7 _ _) ?_;exact d4 rfl ⟨l1.trans l2,rfl⟩
end
section
variable {dm:Dm} {H B:PH} {n k lv who:Nat} {es:List (Nat×Nat)} {us:List Un} {w rw pv tv:Value} {u v:Value} {p:List Int} {s:Nat}
def Uf:FA prog 195 1 1:=⟨aB,oDt aB,aB,aB,oDt aB⟩
def TQ:FA prog 36 0 0:=⟨aB,oDt aB,aB,aB,oDt aB⟩
def DC:FA prog 36 1 1:=⟨aB,oDt aB,aB,aB,oDt aB⟩
def oh:Sc prog 191:=⟨aB,aB,aB⟩
def TR {x:Un} (hx:UnV dm x) (hl:who<dm.g):x.grp[who]? =some (Gs who x):=by
 have:=hx.gl;unfold Gs;rw[aG aA];rfl
def TS {x:Un} (hx:UnV dm x) (hl:who<dm.p):x.vot[who]? =some (Au who x):=by
 have:=hx.vl;unfold Au;rw[aG aA];rfl
def TT (hv:RoV dm n us) (hw:who<dm.g):∀x∈us,0<=Gs who x/\Gs who x<=1000000000:=fun x hx=>by
 have h:=(hv.un x hx).gz _ (aK (TR (hv.un x hx) hw));have h2:=Iy hv x hx;omega
def e3l (hv:RoV dm n us) (hw:who<dm.p):∀x∈us,0<=Au who x/\Au who x<=1000000000:=fun x hx=>by
 have h:=(hv.un x hx).vz _ (aK (TS (hv.un x hx) hw));split at h<;>omega
def c4H {b:Nat} {T:TypeId} {x:Un} {u:UC} (hb:H b=some (.cells #[ii (lv:Nat),ii (who:Nat)] T (0,0))) (hu:UnR H u x) (hx:UnV dm x) (hw:who<dm.g):Asks prog 270 [veU u,.pointer (some ⟨b,0,none⟩)] H (ii (Gs who x)):=by
 refine g5 mixed c9R ?_;refine b4 (Gn u) ?_;refine g8 Uf ?_;refine g9 sc_int rfl rfl hb rfl rfl ?_;refine Ac el_int rfl rfl rfl rfl aF hu.grp (TR hx hw) rfl aF fun _=> ?_;exact d4 rfl ⟨rfl,rfl⟩
def e1c {ρ:List Value} {a:SV} {x:Int} (ha:D prog ρ a=ii x) (h1:0<=x) (h2:x<4611686018427387904):D prog ρ (.op2 .mul .i64 (.k (.int .i64 2)) a)=ii (2*x):=by
 show w9 .mul .i64 2 (intOf (D prog ρ a))=_;rw[ha];show Value.int .i64 (IntKind.i64.wrap (2*x))=_;congr 1;simp[IntKind.wrap,IntKind.bits,IntKind.signed,pW];omega
def c4I {a b d:Nat} {T T2:TypeId} {f:Un->Int} (hS:Sce dm H s n w es rw us pv p k tv) (ha:H a=some (.cells #[v] T (0,0))) (hb:H b=some (.cells #[.pointer (some ⟨s,0,none⟩)] T2 (0,0))) (hv:SI H v (s0 f us p k n)) (hf:∀x∈us,0<=f x/\f x<=1000000000) (hd:d<k):Asks prog 272 [ii (d:Nat),.pointer (some ⟨a,0,none⟩),.pointer (some ⟨b,0,none⟩)] H (.bool (decide (2*i9 f us p n d>i9 Un.ppl us p n d))):=by
 refine g5 mixed c9S ?_;have h1:=hS.rv.l64;have h2:=hS.rv.le;have h3:=Wz (p:=p) (f:=f) aA hf d n;refine g9 Dt rfl rfl ha rfl rfl ?_;refine n9 el_int hv (Gq (f:=f) (us:=us) (p:=p) (i:=n) hd) fun _=> ?_;refine b9 ?_;refine g9 oh rfl rfl hb rfl rfl ?_;refine j6 ?_;refine g8 cc ?_;refine g9 Dt rfl rfl hS.bk rfl rfl ?_;refine Ac el_int rfl rfl rfl rfl aF hS.to (Gq (f:=Un.ppl) (us:=us) (p:=p) (i:=n) hd) rfl aF fun _=> ?_;refine b9 ?_;exact d4 rfl ⟨rfl,by show Value.bool (decide (intOf (D prog _ (.op2 .mul .i64 (.k (.int .i64 2)) (.v 5)))>intOf (ii (i9 Un.ppl us p n d))))=_;rw[e1c (x:=i9 f us p n d) rfl h3.1 aA];rfl⟩
def DD:(j3 prog 39).cells= #[.slice none 0 0]:=aB
def c4K:n8 prog 270=true:=aB
def c4L:n8 prog 272=true:=aB
def c4M (hS:Sce dm H s n w es rw us pv p k tv) (hw:who<dm.g):j4 prog 216 [.pointer (some ⟨s,0,none⟩),qV lv who] H (shR (((Qe us p k n who:Nat):Int):Rat)):=by
 refine g5 mixed d6s ?_;have hk:=hS.hk;have hmb:Qe us p k n who<=k:=by
  unfold Qe;refine cK gV ?_;rw[gY];exact aS _
 refine b4 (Uc rfl rfl) ?_;refine o0 (cs:= #[.pointer (some ⟨s,0,none⟩)]) rfl fun b hb=> ?_;simp only[cA,nA];refine b4 (Ko _ _) ?_;refine o0 (cs:= #[ii (lv:Nat),ii (who:Nat)]) rfl fun q hq=> ?_;simp only[cA,nA];have lb:=PH.le_put hb (.cells #[.pointer (some ⟨s,0,none⟩)] 191 (0,0));have lq:=PH.le_put hq (.cells #[ii (lv:Nat),ii (who:Nat)] 195 (0,0));have qM:=lq _ _ (PH.put_self H b (.cells #[.pointer (some ⟨s,0,none⟩)] 191 (0,0)));have hqq:=PH.put_self (H.put b (.cells #[.pointer (some ⟨s,0,none⟩)] 191 (0,0))) q (.cells #[ii (lv:Nat),ii (who:Nat)] 195 (0,0));have l0:=lb.trans lq;have zP:=hS.mono l0;generalize (H.put b (.cells #[.pointer (some ⟨s,0,none⟩)] 191 (0,0))).put q (.cells #[ii (lv:Nat),ii (who:Nat)] 195 (0,0))=H0 at qM hqq l0 zP⊢;refine g8 Uf ?_;simp only[cA,nA];refine g9 sc_int rfl rfl hqq rfl rfl ?_;simp only[cA,nA];refine b9 ?_;refine i7 (bF (p:=((who:Nat):Int)<0) aA) ?_;refine g8 Uf ?_;simp only[cA,nA];refine g9 sc_int rfl rfl hqq rfl rfl ?_;simp only[cA,nA];refine g9 oh rfl rfl qM rfl rfl ?_;simp only[cA,nA];refine j6 ?_;simp only[cA,nA];refine g8 Ud ?_;simp only[cA,nA];refine g8 TQ ?_;simp only[cA,nA];refine g9 sc_int rfl rfl zP.bk rfl rfl ?_;simp only[cA,nA];refine b9 (b9 ?_);refine j9 (od 2) (i0 (bF (p:=((who:Nat):Int)≥(dm.g:Nat)) aA) rfl) ?_;simp only[cA,nA];refine g9 oh rfl rfl qM rfl rfl ?_;simp only[cA,nA];refine y8 (Ai (vs:=[.pointer (some ⟨q,0,none⟩)]) rfl rfl) rfl ?_;simp only[cA,nA];refine f0 (TM (g:=270) (caps:=[.pointer (some ⟨q,0,none⟩)]) (f:=Gs who) zP c4K (fun H' x u hl hx hu=>c4H (hl _ _ hqq) hu (hS.rv.un x hx) hw) (TT hS.rv hw)) rfl ?_;rintro v16 H1 ⟨l1,o1⟩;refine nmI ?_;simp only[cA,nA];obtain⟨_,a1,c1,rfl,_⟩:=id o1.se;refine o0 (cs:= #[.slice none 0 0]) rfl fun z hz=> ?_;simp only[cA,nA];have lz:=PH.le_put hz (.cells #[.slice none 0 0] 39 (0,0));refine Bq (u:= .slice a1 (s0 (Gs who) us p k n).length c1) Dt rfl rfl rfl (PH.put_self _ _ _) aD rfl rfl rfl (fun h=>(nomatch h)) ?_;simp only[cA,nA];rw[PH.put_put];have lz2:=PH.le_put hz (.cells #[.slice a1 (s0 (Gs who) us p k n).length c1] 39 (0,0));have vL:=PH.put_self H1 z (.cells #[.slice a1 (s0 (Gs who) us p k n).length c1] 39 (0,0));change den _ _ _ _ _ _ (H1.put z (.cells #[.slice a1 (s0 (Gs who) us p k n).length c1] 39 (0,0)));generalize H1.put z (.cells #[.slice a1 (s0 (Gs who) us p k n).length c1] 39 (0,0))=H2 at lz2 vL⊢;have l02:=l1.trans lz2;refine g9 oh rfl rfl (l02 _ _ qM) rfl rfl ?_;simp only[cA,nA];refine y8 (Ai (vs:=[.pointer (some ⟨z,0,none⟩),.pointer (some ⟨b,0,none⟩)]) rfl rfl) rfl ?_;simp only[cA,nA];refine f0 (TN (g:=272) (caps:=[.pointer (some ⟨z,0,none⟩),.pointer (some ⟨b,0,none⟩)]) (q:=fun d=>decide (2*i9 (Gs who) us p n d>i9 Un.ppl us p n d)) ⟨_,_,_,_,_,(zP.mono l02).bk⟩ hk.2 c4L (fun H' d hl hd=>c4I ((zP.mono l02).mono hl) (hl _ _ vL) (hl _ _ (l02 _ _ qM)) ((o1.se.mono lz2).mono hl) (TT hS.rv hw) hd)) rfl ?_;rintro v21 H3 ⟨l3,l,hl,qC⟩;refine nmI ?_;simp only[cA,nA];refine m9 el_int hl ?_;simp only[cA,nA];have hlm:l.length=Qe us p k n who:=qC;rw[hlm];refine i8 (Ub (z:=((Qe us p k n who:Nat):Int)) aA) rfl fun H4 l4=> ?_;simp only[cA,nA];refine b4 (j7 _ _) ?_;exact d4 rfl ⟨l0.trans (l02.trans (l3.trans l4)),rfl⟩
def ol:El prog 385 39 1 false (fun s:Slc=>[vs s]) vs where
 und:=aB
 has:=aB
 cel:=aB
 agg:=aB
 pos:=aC
 one1:=fun _=>rfl
 small:=aC
 inf:=⟨(prog.info? 39).getD default,vs (none,0,0),aB,aB,aB,rfl,oDt aB⟩
 len:=fun _=>rfl
 val:=fun _=>rfl
 cells:=fun _=>rfl
 one:=fun x c hc=>by simp at hc;subst hc;rfl
def om:Sc prog 385:=⟨aB,aB,aB⟩
def c4N {b j:Nat} {T:TypeId} {x:Un} {u:UC} (hb:H b=some (.cells #[ii (j:Nat)] T (0,0))) (hu:UnR H u x) (hx:UnV dm x) (hj:j<dm.p):Asks prog 273 [veU u,.pointer (some ⟨b,0,none⟩)] H (ii (Au j x)):=by
 refine g5 mixed c9T ?_;refine b4 (Gn u) ?_;refine g9 sc_int rfl rfl hb rfl rfl ?_;refine Ac el_int rfl rfl rfl rfl aF hu.vot (TS hx hj) rfl aF fun _=> ?_;exact d4 rfl ⟨rfl,rfl⟩
def Qh (us:List Un) (p:List Int) (n who d i:Nat):Bool:=(eO i).all fun i=>decide (i=who)||decide (i9 (Au i) us p n d<i9 (Au who) us p n d)
def TU {d i:Nat}:Qh us p n who d (i+1)=(Qh us p n who d i&&(decide (i=who)||decide (i9 (Au i) us p n d<i9 (Au who) us p n d))):=by
 unfold Qh;rw[gU,List.all_append];simp
def d7e {d i:Nat} (hi:i<dm.p) (h:(decide (i=who)||decide (i9 (Au i) us p n d<i9 (Au who) us p n d))=false):Qh us p n who d dm.p=false:=by
 unfold Qh;rw[List.all_eq_false];exact⟨i,aW.2 hi,by rw[h];decide⟩
def c4O {z q d:Nat} {T T2:TypeId} {out:Value} {l:List Slc} (hz:H z=some (.cells #[out] T (0,0))) (hq:H q=some (.cells #[ii (lv:Nat),ii (who:Nat)] T2 (0,0))) (hl:SE H 1 (fun s:Slc=>[vs s]) out l) (hdp:dm.p<=12) (h3:l.length=dm.p) (hc:∀(i:Nat) r,l[i]? =some r->SI H (vs r) (s0 (Au i) us p k n)) (hd:d<k) (hw:who<dm.p):Asks prog 274 [ii (d:Nat),.pointer (some ⟨z,0,none⟩),.pointer (some ⟨q,0,none⟩)] H (.bool (Qh us p n who d dm.p)):=by
 refine g5 mixed c9U ?_;refine g9 om rfl rfl hz rfl rfl ?_;simp only[cA,nA];refine m9 ol hl ?_;simp only[cA,nA];refine Df (α:=Nat) (fun i=>[.bool false,ii (i:Nat)]) (fun i=>i<=dm.p/\Qh us p n who d i=true) (fun i=>dm.p-i) (0) rfl (⟨bK _,rfl⟩) fun i hQ=> ?_;simp only[cA,nA];obtain⟨hi,yE⟩:=hQ;refine b9 (b9 ?_);refine g6 (b:=decide (((i:Nat):Int)<(l.length:Nat))) rfl (fun h=> ?_) (fun h=> ?_)
 ·replace h:=oDt h;have qG:i<dm.p:=aA;obtain⟨r,hr,_⟩:=q8 (show i<l.length by omega);obtain⟨r2,hr2,_⟩:=q8 (show who<l.length by omega);refine n9 ol hl hr fun _=> ?_;simp only[cA,nA];refine g8 Uf ?_;simp only[cA,nA];refine g9 sc_int rfl rfl hq rfl rfl ?_;simp only[cA,nA];refine b9 ?_;refine y5 (p:=(i≠who)) (by show Value.bool (((i:Nat):Int) !=((who:Nat):Int))=_;rw[bN];congr 1;apply decide_eq_decide.2;omega) (fun hiw=> ?_) fun hiw=> ?_
  ·refine n9 el_int (hc i r hr) (Gq (f:=Au i) (us:=us) (p:=p) (i:=n) hd) fun _=> ?_;simp only[cA,nA];refine g9 om rfl rfl hz rfl rfl ?_;simp only[cA,nA];refine g8 Uf ?_;simp only[cA,nA];refine g9 sc_int rfl rfl hq rfl rfl ?_;simp only[cA,nA];refine n9 ol hl hr2 fun _=> ?_;simp only[cA,nA];refine n9 el_int (hc who r2 hr2) (Gq (f:=Au who) (us:=us) (p:=p) (i:=n) hd) fun _=> ?_;simp only[cA,nA];refine b9 (b9 ?_);refine g6 (b:=decide (i9 (Au i) us p n d≥i9 (Au who) us p n d)) rfl (fun vW=> ?_) (fun vW=> ?_)
   ·replace vW:=oDt vW;exact d4 rfl ⟨rfl,by rw[d7e qG (by rw[decide_eq_false hiw,decide_eq_false aA];rfl)];rfl⟩
   ·replace vW:=oDf vW;exact⟨(i+1),by show dm.p-(i+1)<dm.p-i;omega,(i0 rfl (j5 rfl aA)),⟨⟨qG,by rw[TU,yE,oDd (show i9 (Au i) us p n d<i9 (Au who) us p n d by omega)];simp⟩,rfl⟩⟩
  ·have a5p:i=who:=by simpa using hiw
   exact⟨(i+1),by show dm.p-(i+1)<dm.p-i;omega,(i0 rfl (j5 rfl aA)),⟨⟨qG,by rw[TU,yE,oDd a5p];rfl⟩,rfl⟩⟩
 ·replace h:=oDf h;obtain rfl:i=dm.p:=aA;exact d4 rfl ⟨rfl,by rw[yE];rfl⟩
def c4P:n8 prog 273=true:=aB
def c4Q:n8 prog 274=true:=aB
def TV:(39:TypeId)≠385:=aC
def d7f:(3:TypeId)≠385:=aC
def TW:(3:TypeId)≠39:=aC
def c4S (hS:Sce dm H s n w es rw us pv p k tv) (hw:who<dm.p):j4 prog 217 [.pointer (some ⟨s,0,none⟩),qV lv who] H (shR (((Qf dm us p k n who:Nat):Int):Rat)):=by
 refine g5 mixed d6t ?_;have hdp:=hS.rv.dp;have hk:=hS.hk;have hmb:Qf dm us p k n who<=k:=by
  unfold Qf;refine cK gV ?_;rw[gY];exact aS _
 refine b4 (Ko _ _) ?_;refine o0 (cs:= #[ii (lv:Nat),ii (who:Nat)]) rfl fun q hq=> ?_;simp only[cA,nA];have lq:=PH.le_put hq (.cells #[ii (lv:Nat),ii (who:Nat)] 195 (0,0));have hqq:=PH.put_self H q (.cells #[ii (lv:Nat),ii (who:Nat)] 195 (0,0));have zP:=hS.mono lq;generalize H.put q (.cells #[ii (lv:Nat),ii (who:Nat)] 195 (0,0))=H0 at hqq lq zP⊢;refine g8 Uf ?_;simp only[cA,nA];refine g9 sc_int rfl rfl hqq rfl rfl ?_;simp only[cA,nA];refine b9 ?_;refine i7 (bF (p:=((who:Nat):Int)<0) aA) ?_;refine g8 Uf ?_;simp only[cA,nA];refine g9 sc_int rfl rfl hqq rfl rfl ?_;simp only[cA,nA];refine j6 ?_;simp only[cA,nA];refine g8 Ud ?_;simp only[cA,nA];refine g8 DC ?_;simp only[cA,nA];refine g9 sc_int rfl rfl zP.bk rfl rfl ?_;simp only[cA,nA];refine b9 (b9 ?_);refine j9 (od 2) (i0 (bF (p:=((who:Nat):Int)≥(dm.p:Nat)) aA) rfl) ?_;simp only[cA,nA];refine o0 (cs:= #[.slice none 0 0]) rfl fun z hz=> ?_;simp only[cA,nA];have lz:=PH.le_put hz (.cells #[.slice none 0 0] 385 (0,0));have vL:=PH.put_self H0 z (.cells #[.slice none 0 0] 385 (0,0));generalize H0.put z (.cells #[.slice none 0 0] 385 (0,0))=H1 at lz vL⊢;refine j6 ?_;simp only[cA,nA];refine g8 Ud ?_;simp only[cA,nA];refine g8 DC ?_;simp only[cA,nA];refine g9 sc_int rfl rfl (lz _ _ zP.bk) rfl rfl ?_;simp only[cA,nA];refine r7 (α:=Nat×Value×List Slc) (fun⟨j,out,l⟩=>[ii (j:Nat)]) (fun⟨j,out,l⟩=>fun H'=>j<=dm.p/\Pl H0 H'/\H' z=some (.cells #[out] 385 (0,0))/\SO H0 H' 39 1 (fun s:Slc=>[vs s]) out l/\l.length=j/\∀(i:Nat) r,l[i]? =some r->SO H0 H' 3 1 (fun z:Int=>[ii z]) (vs r) (s0 (Au i) us p k n)) (fun⟨j,out,l⟩=>dm.p-j) ((0,.slice none 0 0,[])) rfl (⟨bK _,lz,vL,SO.nil _ _ _ _ _,rfl,(fun i r h=>nomatch h)⟩) fun⟨j,out,l⟩ H' hQ=> ?_;simp only[cA,nA];obtain⟨hj,lX,hzX,oX,hlX,hcX⟩:=hQ;refine b9 (b9 ?_);refine g6 (b:=decide (((j:Nat):Int)<(dm.p:Nat))) rfl (fun h=> ?_) (fun h=> ?_)
 ·replace h:=oDt h;have xN:j<dm.p:=aA;refine o0 (cs:= #[ii 0]) rfl fun c hc=> ?_;simp only[cA,nA];refine Bq (u:=ii (j:Nat)) sc_int rfl rfl rfl (PH.put_self _ _ _) aD rfl rfl rfl (fun h=>(nomatch h)) ?_;simp only[cA,nA];rw[PH.put_put];change den _ _ _ _ _ _ (H'.put c (.cells #[ii (j:Nat)] 3 (0,0)));have lc:=PH.le_put hc (.cells #[ii (j:Nat)] 3 (0,0));have vF:=PH.put_self H' c (.cells #[ii (j:Nat)] 3 (0,0));generalize H'.put c (.cells #[ii (j:Nat)] 3 (0,0))=H2 at lc vF⊢;refine g9 om rfl rfl (lc _ _ hzX) rfl rfl ?_;simp only[cA,nA];refine y8 (Ai (vs:=[.pointer (some ⟨c,0,none⟩)]) rfl rfl) rfl ?_;simp only[cA,nA];refine f0 (TM (g:=273) (caps:=[.pointer (some ⟨c,0,none⟩)]) (f:=Au j) (zP.mono (lX.trans lc)) c4P (fun H' x u hl hx hu=>c4N (hl _ _ vF) hu (hS.rv.un x hx) xN) (e3l hS.rv xN)) rfl ?_;rintro v16 H3 ⟨l3,o3⟩;refine⟨(fun _=>l3),?_⟩;simp only[cA,nA];obtain⟨_,a1,c1,rfl,_⟩:=id o3.se;have l23:=lc.trans l3;obtain⟨XB,xb1,xb2,xb3,xb4⟩:=It (oX.mono l23) (lX.trans l23);refine Cf ol rfl rfl rfl aF aF xb2 xb3 aA (show _=[vs (a1,(s0 (Au j) us p k n).length,c1)]from rfl) aF rfl fun pv2 v24 H7 l7 o7=> ?_;simp only[cA,nA];obtain⟨_,a2,c2,rfl,_⟩:=id o7.se;have hz7:H7 z=some (.cells #[out] 385 (0,0)):=l7 _ _ ((xb4 z (fun cs=>by rw[l23 _ _ hzX];simp only[ne_eq,cN,Obj.cells.injEq,not_and];intro _ e;exact absurd e.symm TV)).trans (l23 _ _ hzX));have a5q:∀(i:Nat) r,(l++[(a1,(s0 (Au j) us p k n).length,c1)])[i]? =some r->SO H0 H7 3 1 (fun z:Int=>[ii z]) (vs r) (s0 (Au i) us p k n):=fun i r hr=>by
   by_cases hi:i<l.length
   ·rw[aM hi]at hr;exact(Pv ((hcX i r hr).mono l23) xb4 TW).mono l7
   ·rw[aN aA]at hr;have tJ:=(aH.1 hr).1;have uS:i=j:=by simp at tJ;omega
    subst uS;rw[hlX,dS]at hr
    injection hr with hr
    subst hr;exact(Pv (o3.less (lX.trans lc)) xb4 TW).mono l7
  refine Bq (u:= .slice a2 (l++[(a1,(s0 (Au j) us p k n).length,c1)]).length c2) om rfl rfl rfl hz7 aD rfl rfl rfl (fun h=>(nomatch h)) ?_;simp only[cA,nA];change den _ _ _ _ _ _ (H7.put z (.cells #[.slice a2 (l++[(a1,(s0 (Au j) us p k n).length,c1)]).length c2] 385 (0,0)));have l8:Pl H0 (H7.put z (.cells #[.slice a2 (l++[(a1,(s0 (Au j) us p k n).length,c1)]).length c2] 385 (0,0))):=fun b' ob' qM=>by rw[PH.put_ne _ _ (fun e=>by subst e;rw[hz]at qM;cases qM)];exact l7 _ _ (xb1 _ _ qM)
  exact⟨(j+1,.slice a2 (l++[(a1,(s0 (Au j) us p k n).length,c1)]).length c2,l++[(a1,(s0 (Au j) us p k n).length,c1)]),by show dm.p-(j+1)<dm.p-j;omega,(p6 (j5 rfl aA)),⟨xN,l8,PH.put_self _ _ _,(Ej (o7.less xb1) hz7 TV).mono (PH.cut_put _ _ _),by rw[aL];simp;omega,fun i r hr=>(Ej (a5q i r hr) hz7 d7f).mono (PH.cut_put _ _ _)⟩⟩
 ·replace h:=oDf h;obtain rfl:j=dm.p:=aA;refine y8 (Ai (vs:=[.pointer (some ⟨z,0,none⟩),.pointer (some ⟨q,0,none⟩)]) rfl rfl) rfl ?_;simp only[cA,nA];refine f0 (TN (g:=274) (caps:=[.pointer (some ⟨z,0,none⟩),.pointer (some ⟨q,0,none⟩)]) (q:=fun d=>Qh us p n who d dm.p) ⟨_,_,_,_,_,(zP.mono lX).bk⟩ hk.2 c4Q (fun H' d hl hd=>c4O (hl _ _ hzX) (hl _ _ (lX _ _ hqq)) ((oX.mono hl).se) hS.rv.dp hlX (fun i r hr=>((hcX i r hr).mono hl).se) hd hw)) rfl ?_;rintro v19 H3 ⟨l3,l',yU,qC⟩;refine nmI ?_;simp only[cA,nA];refine m9 el_int yU ?_;simp only[cA,nA];have hlm:l'.length=Qf dm us p k n who:=qC;rw[hlm];refine i8 (Ub (z:=((Qf dm us p k n who:Nat):Int)) aA) rfl fun H4 l4=> ?_;simp only[cA,nA];refine b4 (j7 _ _) ?_;exact d4 rfl ⟨lq.trans (lX.trans (l3.trans l4)),rfl⟩
end
section
variable {dm:Dm} {H B:PH} {n k lv who ms:Nat} {es:List (Nat×Nat)} {us:List Un} {w rw pv tv:Value} {u v:Value} {p:List Int} {s:Nat}
noncomputable def An (dm:Dm) (n:Nat) (es:List (Nat×Nat)) (us:List Un) (k ms lv who:Nat) (p:List Int):Rat:=
 match ms with
 |1=>Nc us p k n
 |2=>((Dx (i9 Un.ppl us p n 0) (s0 Un.ppl us p k n):Int):Rat)
 |3=>(((Qa es p:Nat):Int):Rat)
 |4=>((Em (i9 Un.ppl us p n 0) (s0 Un.ppl us p k n):Int):Rat)
 |5=>(((Ua us p lv n:Nat):Int):Rat)
 |6=>((Qc us p lv n:Int):Rat)
 |7=>(((Qe us p k n who:Nat):Int):Rat)
 |8=>(((Qf dm us p k n who:Nat):Int):Rat)
 |_=>0
structure Xe (dm:Dm) (n:Nat) (us:List Un) (ms lv who:Nat):Prop where
 m1:1<=ms
 m8:ms<=8
 lv:ms=5\/ms=6->lv<dm.l
 wg:ms=7->who<dm.g
 wp:ms=8->who<dm.p
 liv:ms=1->Aw us n≠0
def mF (f:FuncId) (s:Nat):Value:= .func (.func f) #[.pointer (some ⟨s,0,none⟩)] #[]
def mA (s:Nat):Value:= .agg #[.nilFunc,mF 210 s,mF 211 s,mF 212 s,mF 213 s,mF 214 s,mF 215 s,mF 216 s,mF 217 s]
def e1d (s:Nat):(mA s).cells.size=9/\j0 (mA s).cells:=⟨rfl,fun c hc=>by
 simp[mA,mF,Value.cells]at hc;rcases hc with rfl|rfl|rfl|rfl|rfl|rfl|rfl|rfl|rfl<;>rfl⟩
def Qi (f:FuncId) (s:Nat):(mF f s).cells.size=1/\j0 (mF f s).cells:=⟨rfl,fun c hc=>by
 simp[mF,Value.cells]at hc;subst hc;rfl⟩
def e3m:j3 prog 261= .agg #[.nilFunc,.nilFunc,.nilFunc,.nilFunc,.nilFunc,.nilFunc,.nilFunc,.nilFunc,.nilFunc]:=aB
def d0v:Asks prog 152 [.pointer (some ⟨s,0,none⟩)] H (mA s):=by
 refine g5 mixed d6u ?_;refine y8 (Qd (v:= .pointer (some ⟨s,0,none⟩)) rfl rfl) rfl ?_;simp only[cA,nA];refine y8 (Qd (v:= .pointer (some ⟨s,0,none⟩)) rfl rfl) rfl ?_;simp only[cA,nA];refine y8 (Qd (v:= .pointer (some ⟨s,0,none⟩)) rfl rfl) rfl ?_;simp only[cA,nA];refine y8 (Qd (v:= .pointer (some ⟨s,0,none⟩)) rfl rfl) rfl ?_;simp only[cA,nA];refine y8 (Qd (v:= .pointer (some ⟨s,0,none⟩)) rfl rfl) rfl ?_;simp only[cA,nA];refine y8 (Qd (v:= .pointer (some ⟨s,0,none⟩)) rfl rfl) rfl ?_;simp only[cA,nA];refine y8 (Qd (v:= .pointer (some ⟨s,0,none⟩)) rfl rfl) rfl ?_;simp only[cA,nA];refine y8 (Qd (v:= .pointer (some ⟨s,0,none⟩)) rfl rfl) rfl ?_;simp only[cA,nA];refine b4 (Qi _ s) ?_;refine b4 (Qi _ s) ?_;refine b4 (Qi _ s) ?_;refine b4 (Qi _ s) ?_;refine b4 (Qi _ s) ?_;refine b4 (Qi _ s) ?_;refine b4 (Qi _ s) ?_;refine b4 (Qi _ s) ?_;exact d4 rfl ⟨rfl,by show Value.agg (spl (Value.agg (spl (Value.agg (spl (Value.agg (spl (Value.agg (spl (Value.agg (spl (Value.agg (spl (Value.agg (spl (j3 prog 261).cells 1 _)).cells 2 _)).cells 3 _)).cells 4 _)).cells 5 _)).cells 6 _)).cells 7 _)).cells 8 _)=_;rw[e3m];rfl⟩
def e1e (hS:Sce dm H s n w es rw us pv p k tv) (hM:Xe dm n us ms lv who):∃f,(mA s).cells.getD ms undef=mF f s/\n8 prog f=true/\j4 prog f [.pointer (some ⟨s,0,none⟩),qV lv who] H (shR (An dm n es us k ms lv who p)):=by
 obtain⟨h1,h8,hl,hg,hp,hz⟩:=hM
 match ms,h1,h8,hl,hg,hp,hz with
 |1,_,_,_,_,_,hz=>exact⟨_,rfl,aB,c4A hS (hz rfl)⟩
 |2,_,_,_,_,_,_=>exact⟨_,rfl,aB,c4B hS⟩
 |3,_,_,_,_,_,_=>exact⟨_,rfl,aB,c4D hS⟩
 |4,_,_,_,_,_,_=>exact⟨_,rfl,aB,c4C hS⟩
 |5,_,_,hl,_,_,_=>exact⟨_,rfl,aB,c4E hS (hl (.inl rfl))⟩
 |6,_,_,hl,_,_,_=>exact⟨_,rfl,aB,c4F hS (hl (.inr rfl))⟩
 |7,_,_,_,hg,_,_=>exact⟨_,rfl,aB,c4M hS (hg rfl)⟩
 |8,_,_,_,_,hp,_=>exact⟨_,rfl,aB,c4S hS (hp rfl)⟩
def c4T (hS:Sce dm H s n w es rw us pv p k tv) (hM:Xe dm n us ms lv who):j4 prog 104 [.pointer (some ⟨s,0,none⟩),ii (ms:Nat),qV lv who] H (shR (An dm n es us k ms lv who p)):=by
 refine g5 mixed d6v ?_;obtain⟨f,hf1,hf2,hf3⟩:=e1e hS hM;have h1:=hM.m1;have h8:=hM.m8;refine b4 (Ko _ _) ?_;refine j9 (d0v) rfl ?_;refine b4 (e1d s) ?_;refine b9 ?_;refine i7 (bF (p:=((ms:Nat):Int)<1) aA) ?_;refine j9 (od 2) (i0 (bF (p:=((ms:Nat):Int)≥9) aA) rfl) ?_;refine b4 ⟨_,_,rfl⟩ ?_;refine b4 ⟨eC ms,by show((ms:Nat):Int)<((9:Nat):Int);omega⟩ ?_;refine j1 (c4z (f:=f) (fs:= #[.pointer (some ⟨s,0,none⟩)]) (caps:= #[]) (vs:=[qV lv who]) rfl rfl rfl hf2 hf3) (i0 (show(mA s).cells.getD (0+1*((ms:Nat):Int).toNat) undef=_ by rw[bU,bJ,cQ];exact hf1) rfl) ?_;rintro _ H1 ⟨l1,rfl⟩;refine⟨(fun _=>l1),?_⟩;refine b4 (j7 _ _) ?_;exact d4 rfl ⟨l1,rfl⟩
end
section
variable {dm:Dm} {H B:PH} {n k lv who ms:Nat} {es:List (Nat×Nat)} {us:List Un} {w rw pv tv:Value} {u v:Value} {p:List Int} {s:Nat}
def c4U:n8 prog 102=true:=aB
def e3n:Hu prog 101 147 53 45 20 ((prog.funcs[101]?).getD default) ((prog.funcs[147]?).getD default) (Iu ((prog.funcs[147]?).getD default).body):=⟨aB,aB,aB,aB,aB,aB,aB,aB,aB,aB⟩
def pt0 (b:Nat):Value:= .pointer (some ⟨b,0,none⟩)
structure TX (dm:Dm) (H:PH) (a b c d e f g n:Nat) (w rw pv:Value) (k ms lv who:Nat):Prop where
 gr:H a=some (.cells #[ii (n:Nat),w] 33 (0,0))
 ro:H b=some (.cells #[ii (dm.g:Nat),ii (dm.p:Nat),ii (dm.l:Nat),rw] 36 (0,0))
 pl:H c=some (.cells #[pv] 40 (0,0))
 nk:H d=some (.cells #[ii (k:Nat)] 3 (0,0))
 ms:H e=some (.cells #[ii (ms:Nat)] 3 (0,0))
 lv:H f=some (.cells #[ii (lv:Nat)] 3 (0,0))
 wh:H g=some (.cells #[ii (who:Nat)] 3 (0,0))
def b9k {a b c d e f g:Nat} (hc:TX dm H a b c d e f g n w rw pv k ms lv who) (hw:SG H w es) (hg:GV n es) (hr:RoR H rw us) (hv:RoV dm n us) (hp:SI H pv p) (ho:PlOk n k p) (hk:1<=k/\k<=8) (hM:Xe dm n us ms lv who):j4 prog 102 [pt0 a,pt0 b,pt0 c,pt0 d,pt0 e,pt0 f,pt0 g] H (shR (An dm n es us k ms lv who p)):=by
 refine g5 mixed c9V ?_;refine x5 (vs:=[ii (n:Nat),w]) Qg rfl rfl hc.gr rfl aD rfl ?_;refine x5 (vs:=[ii (dm.g:Nat),ii (dm.p:Nat),ii (dm.l:Nat),rw]) Pz rfl rfl hc.ro rfl aD rfl ?_;refine g9 Fb rfl rfl hc.pl rfl rfl ?_;refine g9 sc_int rfl rfl hc.nk rfl rfl ?_;refine g9 sc_int rfl rfl hc.ms rfl rfl ?_;refine g9 sc_int rfl rfl hc.lv rfl rfl ?_;refine g9 sc_int rfl rfl hc.wh rfl rfl ?_;refine b4 (el_int.vcells _) ?_;refine b4 (el_int.vcells _) ?_;refine f0 (d0u hw hg hr hv hp ho hk) rfl ?_;rintro _ H1 ⟨l1,s,tv,rfl,hS⟩;refine⟨(fun _=>l1),?_⟩;refine i8 (c4T hS hM) rfl fun H2 l2=> ?_;refine b4 (j7 _ _) ?_;exact d4 rfl ⟨l1.trans l2,rfl⟩
def TY (hw:SG H w es) (hg:GV n es) (hr:RoR H rw us) (hv:RoV dm n us) (hp:SI H pv p) (ho:PlOk n k p) (hk:1<=k/\k<=8) (hM:Xe dm n us ms lv who):j4 prog 55 [gv n w,rov dm rw,pv,ii (k:Nat),ii (ms:Nat),ii (lv:Nat),ii (who:Nat)] H (.tuple #[shR (An dm n es us k ms lv who p),ii 0]):=by
 refine g5 mixed d6w ?_;refine b4 (Ci hw) ?_;refine o0 (cs:= #[ii (n:Nat),w]) rfl fun a ha=> ?_;refine b4 (Gp hr.one) ?_;refine o0 (cs:= #[ii (dm.g:Nat),ii (dm.p:Nat),ii (dm.l:Nat),rw]) rfl fun b hb=> ?_;refine b4 (hp.one) ?_;refine o0 (cs:= #[pv]) hp.cells fun c hc=> ?_;refine b4 (el_int.vcells _) ?_;refine o0 (cs:= #[ii (k:Nat)]) rfl fun d hd=> ?_;refine b4 (el_int.vcells _) ?_;refine o0 (cs:= #[ii (ms:Nat)]) rfl fun e he=> ?_;refine b4 (el_int.vcells _) ?_;refine o0 (cs:= #[ii (lv:Nat)]) rfl fun f hf=> ?_;refine b4 (el_int.vcells _) ?_;refine o0 (cs:= #[ii (who:Nat)]) rfl fun g hgg=> ?_;refine y8 (Ai (vs:=[pt0 a,pt0 b,pt0 c,pt0 d,pt0 e,pt0 f,pt0 g]) rfl rfl) rfl ?_;have la:=PH.le_put ha (.cells #[ii (n:Nat),w] 33 (0,0));have lb:=PH.le_put hb (.cells #[ii (dm.g:Nat),ii (dm.p:Nat),ii (dm.l:Nat),rw] 36 (0,0));have lc:=PH.le_put hc (.cells #[pv] 40 (0,0));have ld:=PH.le_put hd (.cells #[ii (k:Nat)] 3 (0,0));have le:=PH.le_put he (.cells #[ii (ms:Nat)] 3 (0,0));have lf:=PH.le_put hf (.cells #[ii (lv:Nat)] 3 (0,0));have lg:=PH.le_put hgg (.cells #[ii (who:Nat)] 3 (0,0));have l6:=lf.trans lg;have l5:=le.trans l6;have l4:=ld.trans l5;have l3:=lc.trans l4;have l2:=lb.trans l3;have l1:=la.trans l2;have tX:TX dm _ a b c d e f g n w rw pv k ms lv who:=⟨l2 _ _ (PH.put_self _ _ _),l3 _ _ (PH.put_self _ _ _),l4 _ _ (PH.put_self _ _ _),l5 _ _ (PH.put_self _ _ _),l6 _ _ (PH.put_self _ _ _),lg _ _ (PH.put_self _ _ _),PH.put_self _ _ _⟩;refine f0 (Px (caps:=[pt0 a,pt0 b,pt0 c,pt0 d,pt0 e,pt0 f,pt0 g]) mixed e3n RV c4U (b9k tX (hw.mono l1) hg (hr.mono l1) hv (hp.mono l1) ho hk hM) (fun _ _ h=>by rw[h.2];exact RY _ _)) rfl ?_;rintro _ H4 ⟨t,⟨l9,rfl⟩,rfl⟩;refine nmI ?_;refine g7 (g7 ?_);refine b4 (j7 _ _) ?_;exact d4 rfl ⟨l1.trans l9,rfl⟩
end
end Go.Z

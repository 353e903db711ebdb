/- Lemmas of the proof. -/
import Derived.Test.YtlmbepjdokomkaaGreatDoorRxI
open Array renaming ext'->gI
open Bool renaming and_true->jJ
open Go.Sem renaming run_bind->eM
open List renaming all_cons->nS,all_nil->nW,getElem?_append->jS
set_option linter.all false
set_option maxRecDepth 100000
namespace Go.RX
open RowKit
section
variable {P:Program} {T e e2:TypeId} {sz:Nat} {ag:Bool} {α:Type} {ce:α->List Value} {ve:α->Value} (E:El P T e sz ag ce ve)
variable {G Xp:Value->PH->Prop} {nx:List (List Value->PH->Prop)} {ρ:List Value} {H H0:PH} {o1 o2 o3:Oper} {x y x2 x3 y3:Operand} {id1 i1 id2 i2 id3 i3:Nat} {args1 args2 args3:List SV} {t:Tree} {v c:Value} {l:List α} {a a':α} {k:IntKind} {j f off:Nat} {pf:Bool}
include E
def d7C {ws:List Value} (hF:FA P e f off) (hA:Ag P e2 ws.length) (hw:((ce a).drop off).take ws.length=ws) (zS:off+ws.length<=sz) (sY:o1.op= .indexAddr T x y) (sZ:o2.op= .fieldAddr e x2 f) (ho3:o3.op= .load e2 x3) (hx:e8 [x,y] [v,.int k (j:Nat)] x=v) (hy:e8 [x,y] [v,.int k (j:Nat)] y= .int k (j:Nat)) (rA:∀p,e8 [x2] [p] x2=p) (hx3:∀p,e8 [x3] [p] x3=p)
  (h:SE H sz ce v l) (hj:l[j]? =some a) (ha:args1.map (D P ρ)=[v,.int k (j:Nat)]) (rY:∀p,args2.map (D P (ρ++[p]))=[p]) (ha3:∀p p',args3.map (D P (ρ++[p]++[p']))=[p'])
  (n:∀p p',den P G Xp t nx (ρ++[p]++[p']++[.agg ws.toArray]) H):den P G Xp (.prim id1 i1 o1 args1 (.prim id2 i2 o2 args2 (.prim id3 i3 o3 args3 t))) nx ρ H:=by
 refine JE E sY hx hy h hj ha fun p hp=> ?_;obtain⟨b,q,cs,T',fz,rfl,h2,h3,h4⟩:=hp;rw[E.len]at h3 h4;refine vo hF sZ (rA _) (rY _) ?_;refine s5 hA ho3 (hx3 _) h2 ?_ aA (ha3 _ _) (n _ _);rw[<-h4,List.drop_take,List.take_take,cH aA,List.drop_drop]at hw;exact hw
def c7D (hF:FA P e f off) (hS:Sc P e2) (zL:off<sz) (hce:ce a'=(ce a).set off c) (qL:c.cells= #[c]) (hco:n8 c=true) (sY:o1.op= .indexAddr T x y) (sZ:o2.op= .fieldAddr e x2 f) (ho3:o3.op= .store e2 x3 y3) (hx:e8 [x,y] [v,.int k (j:Nat)] x=v) (hy:e8 [x,y] [v,.int k (j:Nat)] y= .int k (j:Nat)) (rA:∀p,e8 [x2] [p] x2=p) (hx3:∀p,e8 [x3,y3] [p,c] x3=p) (hy3:∀p,e8 [x3,y3] [p,c] y3=c)
  (oW:Pl H0 H) (h:SO H0 H e sz ce v l) (hj:l[j]? =some a) (ha:args1.map (D P ρ)=[v,.int k (j:Nat)]) (rY:∀p,args2.map (D P (ρ++[p]))=[p]) (ha3:∀p p',args3.map (D P (ρ++[p]++[p']))=[p',c]) (sF:pf=false)
  (n:∀p p' u H',Pl H0 H'->SO H0 H' e sz ce v (l.set j a')->den P G Xp t nx (ρ++[p]++[p']++[u]) H'):den P G Xp (.prim id1 i1 o1 args1 (.prim id2 i2 o2 args2 (.eff pf id3 i3 o3 args3 t))) nx ρ H:=by
 obtain⟨hjl,hja⟩:=aH.1 hj;have hs:=h.se;obtain⟨pB,hv⟩:=h;rcases hv with⟨_,h0⟩|⟨g,cap,cur,rfl,rI,hg,zU,yB,pM,wH⟩
 ·omega
 have qF:=E.pos;have hjs:(j+1)*sz<=l.length*sz:=bQ _ hjl;have tA:l.length*sz<=cap*sz:=bQ _ zU;rw[cM,cL]at hjs;have wV:=de (P:=P) (m:=(j:Int)) (n:=l.length) (c:=cap) sY hx hy E.und E.has aA aA;rw[bO,E.cel,bP]at wV;refine j6 (wV.rds H) ha (vo hF sZ (rA _) (rY _) ?_);have hq:j*sz+off<cur.size:=aA;refine Ek hS ho3 (hx3 _) (hy3 _) hg hq qL hco (ha3 _ _) (fun h=>by rw[sF]at h;cases h) ?_;refine n _ _ _ _ (fun k' ob hk=> ?_) ⟨by rw[Hv E.len,cD],.inr ⟨g,cap,_,by rw[cD],rI,PH.put_self _ _ _,by rw[cD];exact zU,yB,by rw[Array.size_setIfInBounds];exact pM,?_⟩⟩
 ·rw[PH.put_ne _ _ (fun e=>by rw[e,rI]at hk;cases hk)];exact oW _ _ hk
 ·have xO:l.length*sz<=cur.size:=by rw[pM];exact tA
  have hN:(cur.toList.take (l.length*sz)).length=l.length*sz:=by rw[bD,bU];exact cH xO
  have qK:((l.flatMap ce).drop (j*sz)).take sz=ce a:=vf E.len hj;rw[<-wH]at qK;clear pM tA hs;rw[cD,JC E.len hjl,<-wH,hce,Array.toList_setIfInBounds];apply bG;intro m;rw[dG,bZ,bL,jS,bD,hN,cH aA,jS,cD,E.len,dG,dI,dG,dG,bZ,E.len,bU (xs:=cur)];by_cases h1:m<l.length*sz
  ·rw[if_pos h1];by_cases h2:m<j*sz
   ·rw[if_neg aA,if_pos h2,if_pos h2,if_pos h1]
   ·rw[if_neg h2];by_cases h3:m-j*sz<sz
    ·rw[if_pos h3];by_cases h4:j*sz+off=m
     ·rw[if_pos h4,if_pos hq,if_pos aA,if_pos zL]
     ·rw[if_neg h4,if_neg aA,<-qK,dU h3,dI,dU aA,show j*sz+(m-j*sz)=m by omega]
    ·rw[if_neg h3,if_neg aA];rw[if_pos aA,show j*sz+sz+(m-j*sz-sz)=m from aA]
  ·rw[if_neg h1,if_neg aA,if_neg aA,if_neg aA]
end
def yk {κ:Type} {ok:κ->Prop} {ke:κ->Value} {P:Program} {H:PH} {o:Oper} {x y:Operand} {T kt et:TypeId} (hK:Qr P kt ok ke) {vs:List Value} {m zr u:Value} {L:List (κ×Value)} {k:κ} (ho:o.op= .lookup T x y false) (hx:e8 [x,y] vs x=m) (hy:e8 [x,y] vs y=ke k) (hu:P.underlying T=some (.map kt et)) (hk:ok k) (hz:∀w,(zeroValue et).run P w= .ok zr w) (h:MK ok ke H m L)
  (uB:(u=zr/\k∉L.map (·.1))\/(k,u)∈L):Rds P o vs H u:=by
 rcases uB with⟨h1,h2⟩|h1
 ·exact Yt hK (ok2:=false) (b:=false) ho hx hy hu hk hz h (.inl ⟨rfl,h1,h2⟩)
 ·exact Yt hK (ok2:=false) (b:=true) ho hx hy hu hk hz h (.inr ⟨rfl,h1⟩)
end Go.RX
namespace Go.Z
open Proofs.Tryz RowKit RX GS RZ WD
section
variable {dm:Dm} {H B:PH} {n k lv:Nat} {us:List Un} {w:Value} {u v:Value} {p:List Int}
def e0D {P:Program} {t:TypeId} (hT:r9 P t=true) (h:p8 P t=true):∀w,(isAgg t).run P w= .ok true w:=fun w=>by
 obtain⟨_,⟨d,hd⟩⟩:=Ez hT;rw[qd hd,h]
def e0E {P:Program} {t:TypeId} {n:Nat} (hT:r9 P t=true) (h:P.cellsOf t=n):∀w,(Go.sizeOf t).run P w= .ok n w:=fun w=>by
 obtain⟨⟨i,hi⟩,_⟩:=Ez hT;rw[Gl hi,h]
def Zb (r:Nat):(Value.map (some r)).cells.size=1/\i8 (Value.map (some r)).cells:=⟨rfl,fun c hc=>by simp[Value.cells]at hc;subst hc;rfl⟩
def d7D:FA prog 35 1 1:=⟨aB,oDt aB,aB,aB,oDt aB⟩
end
end Go.Z
namespace Go.RX
open RowKit
section
variable {P:Program} {H:PH} {o:Oper} {x y:Operand}
def Om {fn:Fn} {v:Value} (ho:o.op= .makeFunc fn #[x] #[]) (hx:e8 [x] [v] x=v):Run P o [v] (.func fn #[v] #[]):=fun w=>by
 have pD:o.op.operands.toList=[x]:=by simp[ho,Op.operands]
 unfold Stp;rw[pD];simp only[execOp,ho,eM,Instr.makeFunc];simp[hx,Ext.refl]
def c2q {f:FuncId} {az:Array Operand} {tys:Array TypeId} {fs caps:Array Value} {vs:List Value} {V:Value->PH->Prop} (ho:o.op= .call ⟨.value x,az,tys⟩) (hx:e8 (x::az.toList) (.func (.func f) fs caps::vs) x= .func (.func f) fs caps) (sV:az.toList.map (e8 (x::az.toList) (.func (.func f) fs caps::vs))=vs) (hf:q8 P f=true)
  (hc:Con P f (fs.toList++vs++caps.toList) H V):Opn P o (.func (.func f) fs caps::vs) H V:=fun w hw=>by
 have ha:az.map (e8 (x::az.toList) (.func (.func f) fs caps::vs))=vs.toArray:=by rw[<-cF,dO];exact sV
 have pD:o.op.operands.toList=x::az.toList:=by simp[ho,Op.operands,Call.operands]
 have hr:(execOp (e8 (x::az.toList) (.func (.func f) fs caps::vs)) o).run P w= .ok (.enter f (fs.toList++vs++caps.toList).toArray) w:=by
  simp only[execOp,ho,resolve,hx,ha,Deferred.ofValue,eM,Sem.run_pure,Result.andThen_ok,invoke];rw[Jw hf];congr 2;simp
 unfold Stp;rw[pD,hr];exact(hc w hw).mono fun e w' ⟨v,H',he,hs,hV⟩=>⟨v,he,H',hs,hV⟩
end
end Go.RX
namespace Go.Z
open Proofs Proofs.Tryz RowKit RX GS RZ WD
section
variable {dm:Dm} {H B:PH} {n k:Nat} {es:List (Nat×Nat)} {us:List Un} {w rw pv tv:Value} {u v:Value} {p:List Int} {s:Nat}
def yl:Asks prog 177 [ii 0] H (.tuple #[]):=by
 refine g9 mixed d3p ?_;refine b9 ?_;refine j1 (bF (p:=(0:Int)≠0) aD) ?_;exact c9 rfl ⟨rfl,rfl⟩
def NU (e:Int):Asks prog 178 [.bool false,ii e] H (.tuple #[]):=by
 refine g9 mixed d3o ?_;refine b9 ?_;refine j1 rfl ?_;exact c9 rfl ⟨rfl,rfl⟩
def c7E (v:Value):Asks prog 179 [v,ii 0] H v:=by
 refine g9 mixed d3l ?_;refine b9 ?_;refine j1 (bF (p:=(0:Int)≠0) aD) ?_;exact c9 rfl ⟨rfl,rfl⟩
def c7F (v:Value):Asks prog 271 [v,ii 0] H v:=by
 refine g9 mixed d3n ?_;refine b9 ?_;refine j1 (bF (p:=(0:Int)≠0) aD) ?_;exact c9 rfl ⟨rfl,rfl⟩
def c7G (a b:Nat):Asks prog 268 [shv a b,ii 0] H (shv a b):=by
 refine g9 mixed d3m ?_;refine b4 (r4 a b) ?_;refine b9 ?_;refine j1 (bF (p:=(0:Int)≠0) aD) ?_;exact c9 rfl ⟨rfl,rfl⟩
def ym (a b:Int):(Value.agg #[ii a,ii b]).cells.size=2/\i8 (Value.agg #[ii a,ii b]).cells:=⟨rfl,fun c hc=>by
 simp[Value.cells]at hc;rcases hc with rfl|rfl<;>rfl⟩
def Vb {z:Int} (h:z.natAbs<2^62):Rg (z:Rat):=U9 h aC aC
def NV {z:Int} (h:z.natAbs<2^62):j5 prog 270 [ii z] H (shR (z:Rat)):=by
 refine g9 mixed d3r ?_;have e:Hu z 1= .tuple #[shR (z:Rat),ii 0]:=by unfold Hu;rw[if_neg aC,b4L,fk (Vb h)];rfl
 refine i9 ((show j5 prog 49 [ii z,ii 1] H (.tuple #[shR (z:Rat),ii 0])from(IY z 1 aA aA aC aC).mono fun u H' h=>⟨h.1,h.2.trans e⟩)) rfl fun H1 l1=> ?_;simp only[cA,nA];refine g7 (g7 ?_);refine s7 (c7G _ _) rfl ?_;simp only[cA,nA];refine b4 (r4 _ _) ?_;exact c9 rfl ⟨l1,rfl⟩
def scC (dm:Dm) (n k:Nat) (w rw pv tv:Value):Array Value:= #[ii (n:Nat),w,ii (dm.g:Nat),ii (dm.p:Nat),ii (dm.l:Nat),rw,pv,ii (k:Nat),tv]
def d3F (h1:n8 w=true) (h2:n8 rw=true) (h3:n8 pv=true) (h4:n8 tv=true):(Value.agg (scC dm n k w rw pv tv)).cells.size=9/\i8 (Value.agg (scC dm n k w rw pv tv)).cells:=⟨rfl,fun c hc=>by
 simp[scC,Value.cells]at hc;rcases hc with rfl|rfl|rfl|rfl|rfl|rfl|rfl|rfl|rfl
 ·rfl
 ·exact h1
 ·rfl
 ·rfl
 ·rfl
 ·exact h2
 ·exact h3
 ·rfl
 ·exact h4⟩
structure Sce (dm:Dm) (H:PH) (s n:Nat) (w:Value) (es:List (Nat×Nat)) (rw:Value) (us:List Un) (pv:Value) (p:List Int) (k:Nat) (tv:Value):Prop where
 bk:H s=some (.cells (scC dm n k w rw pv tv) 277 (0,0))
 gr:SG H w es
 gv:GV n es
 ro:RoR H rw us
 rv:RoV dm n us
 pl:SI H pv p
 po:PlOk n k p
 hk:1<=k/\k<=8
 to:SI H tv (Bt Un.ppl us p k n)
def yn {v:Value} (h:n8 v=true) (h2:v.cells= #[v]):v.cells.size=1/\i8 v.cells:=by
 rw[h2];exact⟨rfl,fun c hc=>by simp at hc;subst hc;exact h⟩
def d7E:(j3 prog 3).cells= #[ii 0]:=aB
def d7F:(j3 prog 33).cells= #[.slice none 0 0]:=aB
def jm (a b p k t:SV):SV:= .cat (.ag a) 2 (.cat (.ag b) 4 (.cat (.sub (.put (.cat p 1 (.cat (.z 3) 1 (.z 33))) 1 1 k 0 noI) 0 2 0 noI) 2 t))
def NW {a b p' k' t:SV} {ρ:List Value} (ha:D prog ρ a=gv n w) (hb:D prog ρ b=rov dm rw) (hp:D prog ρ p'=pv) (hk:D prog ρ k'=ii (k:Nat)) (ht:D prog ρ t=tv) (hpc:pv.cells= #[pv]) (htc:tv.cells= #[tv]):(D prog ρ (jm a b p' k' t)).cells=scC dm n k w rw pv tv:=by
 show(Value.agg ((Value.agg (D prog ρ a).cells).cells++(Value.agg ((Value.agg (D prog ρ b).cells).cells++(Value.agg ((D prog ρ (.sub (.put (.cat p' 1 (.cat (.z 3) 1 (.z 33))) 1 1 k' 0 noI) 0 2 0 noI)).cells++(D prog ρ t).cells)).cells)).cells)).cells=_;have e:D prog ρ (.sub (.put (.cat p' 1 (.cat (.z 3) 1 (.z 33))) 1 1 k' 0 noI) 0 2 0 noI)= .agg #[pv,ii (k:Nat)]:=by
  simp only[D,hp,hk,hpc,d7E,d7F];rfl
 rw[e,ha,hb,ht,htc];rfl
def d7H {a b p' k' t:SV} {ρ:List Value} (ha:D prog ρ a=gv n w) (hb:D prog ρ b=rov dm rw) (hp:D prog ρ p'=pv) (hk:D prog ρ k'=ii (k:Nat)) (ht:D prog ρ t=tv) (hpc:pv.cells= #[pv]) (htc:tv.cells= #[tv]) (h1:n8 w=true) (h2:n8 rw=true) (h3:n8 pv=true) (h4:n8 tv=true):Rq.holds prog ρ (.cells 9 (jm a b p' k' t)):=by
 show(D prog ρ (jm a b p' k' t)).cells.size=9/\i8 (D prog ρ (jm a b p' k' t)).cells;rw[NW ha hb hp hk ht hpc htc];exact d3F h1 h2 h3 h4
def c7H (hw:SG H w es) (hg:GV n es) (hr:RoR H rw us) (hv:RoV dm n us) (hp:SI H pv p) (ho:PlOk n k p) (hk:1<=k/\k<=8):Con prog 118 [gv n w,rov dm rw,pv,ii (k:Nat)] H fun r H'=>Pl H H'/\∃s tv,r= .pointer (some ⟨s,0,none⟩)/\Sce dm H' s n w es rw us pv p k tv:=by
 refine g9 mixed d3q ?_;have oW:=hv.le;have sA:=hv.l64;obtain⟨hL,hU⟩:=ho.ok hg.n1 hg.n64;have hpE:plE n p (k:Nat)=0:=by
  unfold plE;rw[if_neg aA,if_pos ⟨ho.len,hL,by rw[bO];exact hU⟩]
 obtain⟨ul,zK,pB,sC⟩:=id hr;refine b4 (Be hw) ?_;refine b4 (Oi hr.one) ?_;refine i9 (Fv hw hg) rfl fun H1 l1=> ?_;simp only[cA,nA];refine s7 (yl) rfl ?_;simp only[cA,nA];refine i9 (Uz (hr.mono l1) hv) rfl fun H2 l2=> ?_;simp only[cA,nA];refine s7 (yl) rfl ?_;simp only[cA,nA];have l02:=l1.trans l2;refine r8 el_unit (zK.mono l02) ?_;simp only[cA,nA];refine Jg (α:=Nat) (fun i=>[ii (min i n:Nat),ii (i:Nat)]) (fun i=>i<=us.length) (fun i=>us.length-i) (0) (by rw[Nat.zero_min];rfl) ((bJ _)) fun i hQ=> ?_;simp only[cA,nA];refine b9 (b9 ?_);refine g8 (b:=decide (((i:Nat):Int)<(ul.length:Nat))) rfl (fun h=> ?_) (fun h=> ?_)
 ·replace h:=oDt h;have yR:i<ul.length:=aA;obtain⟨u,hu,_⟩:=u6 yR;obtain⟨x,hx,_⟩:=u6 (show i<us.length by omega);have pY:u.wat=decide (n<=i):=(sC i u x hu hx).wat.trans (hv.wat i x hx);refine r6 el_unit (zK.mono l02) hu fun _=> ?_;simp only[cA,nA];refine b4 (La u) ?_;refine b9 ?_;refine⟨(fun l H'=>l=[ii (min (i+1) n:Nat)]/\H'=H2),?_,?_⟩
  ·skip
   refine g8 (b:= !u.wat) rfl (fun hb=> ?_) (fun hb=> ?_)
   ·skip
    have hni:¬n<=i:=fun hh=>by rw[pY,oDd hh]at hb;cases hb
    refine b9 ?_;exact⟨by rw[show min (i+1) n=i+1 by omega];exact j7 (p6 (by rw[show min i n=i by omega];rfl) aA),rfl⟩
   ·skip
    have hni:n<=i:=by rw[pY]at hb;simpa using hb
    exact⟨by rw[show min (i+1) n=min i n by omega];rfl,rfl⟩
  rintro vals H' _ ⟨rfl,rfl⟩;simp only[cA,nA];exact⟨(i+1),by show us.length-(i+1)<us.length-i;omega,(j0 rfl (p6 rfl aA)),⟨by show i+1<=us.length;omega,rfl⟩⟩
 ·replace h:=oDf h;refine b9 (b9 ?_);refine s7 (NU 5) (j0 (Za (a:=((min i n:Nat):Int)) (b:=((n:Nat):Int)) aA) rfl) ?_;simp only[cA,nA];refine i9 (xz (hw.mono l02) hg (hp.mono l02) (k:Nat)) rfl fun H3 l3=> ?_;simp only[cA,nA];rw[hpE];refine s7 (yl) rfl ?_;simp only[cA,nA];have l03:=l02.trans l3;refine g5 (c7A (hr.mono l03) hv hk (hp.mono l03) ho) rfl ?_;rintro _ H4 ⟨l4,t,rfl,ht⟩;refine⟨(fun _=>l4),?_⟩;simp only[cA,nA];refine g7 (g7 ?_);refine s7 (c7E t) rfl ?_;simp only[cA,nA];have l04:=l03.trans l4;refine b4 (hp.one) ?_;refine b4 (el_int.vcells _) ?_;refine b4 (ht.one) ?_;refine b4 (d7H rfl rfl rfl rfl rfl hp.cells ht.cells (t7 hw) (t7 zK) (t7 hp) (t7 ht)) ?_;refine o0 (cs:=scC dm n k w rw pv t) (NW rfl rfl rfl rfl rfl hp.cells ht.cells) fun s hs=> ?_;simp only[cA,nA];have ls:=PH.le_put hs (.cells (scC dm n k w rw pv t) 277 (0,0));exact c9 rfl ⟨l04.trans ls,s,_,rfl,PH.put_self _ _ _,hw.mono (l04.trans ls),hg,hr.mono (l04.trans ls),hv,hp.mono (l04.trans ls),ho,hk,ht.mono ls⟩
def d7I:FA prog 277 0 0:=⟨aB,oDt aB,aB,aB,oDt aB⟩
def d7J:FA prog 277 2 6:=⟨aB,oDt aB,aB,aB,oDt aB⟩
def d7K:FA prog 277 3 7:=⟨aB,oDt aB,aB,aB,oDt aB⟩
def NX:FA prog 277 4 8:=⟨aB,oDt aB,aB,aB,oDt aB⟩
end
section
variable {dm:Dm} {H B:PH} {n k lv who:Nat} {es:List (Nat×Nat)} {us:List Un} {w rw pv tv:Value} {u v:Value} {p:List Int} {s:Nat}
def qV (lv who:Nat):Value:= .agg #[ii (lv:Nat),ii (who:Nat)]
def Lc:Ag prog 25 2:=⟨aB,aB,aB⟩
def yo (hv:RoV dm n us) (d:Nat):0<=Br Un.ppl us p n d/\Br Un.ppl us p n d<=64000000000:=by
 have h1:=hv.l64;have h2:=hv.le;have:=ND (p:=p) (f:=Un.ppl) aA (jk hv) d n;omega
def NY (hv:RoV dm n us):∀x∈Bt Un.ppl us p k n,0<=x/\x<=64000000000:=fun x hx=>by
 obtain⟨d,_,rfl⟩:=bK.1 hx;exact yo hv d
def c2t (hS:Sce dm H s n w es rw us pv p k tv):j5 prog 233 [.pointer (some ⟨s,0,none⟩),qV lv who] H (shR ((Ff (Br Un.ppl us p n 0) (Bt Un.ppl us p k n):Int):Rat)):=by
 refine g9 mixed d3s ?_;have hk:=hS.hk;have pB:(Bt Un.ppl us p k n).length=k:=Qx;have hmx:=NJ _ _ (yo (p:=p) hS.rv 0) (NY (p:=p) (k:=k) hS.rv);generalize hl:Bt Un.ppl us p k n=l at pB hmx⊢;have hto:SI H tv l:=hl ▸ hS.to;have h0:l[0]? =some (Br Un.ppl us p n 0):=by rw[<-hl];exact Yz aA
 refine b4 (ym _ _) ?_;refine j9 ?_;simp only[cA,nA];refine i0 NX ?_;simp only[cA,nA];refine i7 Uw rfl rfl hS.bk rfl rfl ?_;simp only[cA,nA];refine r6 el_int hto h0 fun _=> ?_;simp only[cA,nA];refine j9 ?_;simp only[cA,nA];refine i0 NX ?_;simp only[cA,nA];refine i7 Uw rfl rfl hS.bk rfl rfl ?_;simp only[cA,nA];refine r8 el_int hto ?_;simp only[cA,nA];refine Jg (α:=Nat) (fun i=>[ii (Ff (Br Un.ppl us p n 0) (l.take i)),ii (i:Nat)]) (fun i=>i<=l.length) (fun i=>l.length-i) (0) rfl ((bJ _)) fun i hQ=> ?_;simp only[cA,nA];refine b9 (b9 ?_);refine g8 (b:=decide (((i:Nat):Int)<(l.length:Nat))) rfl (fun h=> ?_) (fun h=> ?_)
 ·replace h:=oDt h;have pO:i<l.length:=aA;obtain⟨x,hx,_⟩:=u6 pO;refine r6 el_int hto hx fun _=> ?_;simp only[cA,nA];refine j6 ((c7d (vs:=[ii (Ff (Br Un.ppl us p n 0) (l.take i)),ii x]) rfl rfl rfl).rds _) rfl ?_;simp only[cA,nA];exact⟨(i+1),by show l.length-(i+1)<l.length-i;omega,(j0 (by rw[take_snoc hx,c2e];rfl) (p6 rfl aA)),⟨pO,rfl⟩⟩
 ·replace h:=oDf h;rw[aI aA];refine i9 (NV aA) rfl fun H1 l1=> ?_;simp only[cA,nA];refine b4 (r4 _ _) ?_;exact c9 rfl ⟨l1,rfl⟩
def c2u (hS:Sce dm H s n w es rw us pv p k tv):j5 prog 234 [.pointer (some ⟨s,0,none⟩),qV lv who] H (shR (((Jk es p:Nat):Int):Rat)):=by
 refine g9 mixed d3t ?_;have qP:=hS.gv.len;have rZ:=yj (es:=es) (p:=p);refine b4 (ym _ _) ?_;refine j9 ?_;simp only[cA,nA];refine i0 d7I ?_;simp only[cA,nA];refine s5 (vs:=[ii (n:Nat),w]) Lc rfl rfl hS.bk rfl (show 0+2<=9 by decide) rfl ?_;simp only[cA,nA];refine j9 ?_;simp only[cA,nA];refine i0 d7J ?_;simp only[cA,nA];refine i7 Jj rfl rfl hS.bk rfl rfl ?_;simp only[cA,nA];refine j9 ?_;simp only[cA,nA];refine i0 d7K ?_;simp only[cA,nA];refine i7 sc_int rfl rfl hS.bk rfl rfl ?_;simp only[cA,nA];refine i9 (c2j hS.gr hS.gv hS.pl hS.hk hS.po) rfl fun H1 l1=> ?_;simp only[cA,nA];refine g7 (g7 ?_);refine s7 (c7F _) rfl ?_;simp only[cA,nA];refine i9 (NV aA) rfl fun H2 l2=> ?_;simp only[cA,nA];refine b4 (r4 _ _) ?_;exact c9 rfl ⟨l1.trans l2,rfl⟩
end
section
variable {dm:Dm} {H B:PH} {n k lv who:Nat} {es:List (Nat×Nat)} {us:List Un} {w rw pv tv:Value} {u v:Value} {p:List Int} {s:Nat}
def d7L:FA prog 28 0 0:=⟨aB,oDt aB,aB,aB,oDt aB⟩
def d7M:FA prog 28 1 1:=⟨aB,oDt aB,aB,aB,oDt aB⟩
def d7N:(j3 prog 33).cells= #[.slice none 0 0]:=aB
end
section
variable {dm:Dm} {H B:PH} {n k lv who ms:Nat} {es:List (Nat×Nat)} {us:List Un} {w rw pv tv:Value} {u v:Value} {p:List Int} {s:Nat}
noncomputable def s0 (dm:Dm) (n:Nat) (es:List (Nat×Nat)) (us:List Un) (k ms lv who:Nat) (p:List Int):Rat:=
 match ms with
 |2=>((Ff (Br Un.ppl us p n 0) (Bt Un.ppl us p k n):Int):Rat)
 |3=>(((Jk es p:Nat):Int):Rat)
 |_=>0
structure Vd (dm:Dm) (n:Nat) (us:List Un) (ms lv who:Nat):Prop where
 m1:1<=ms
 m8:ms<=8
 mv:ms=2\/ms=3
def mF (f:FuncId) (s:Nat):Value:= .func (.func f) #[.pointer (some ⟨s,0,none⟩)] #[]
def mA (s:Nat):Value:= .agg #[.nilFunc,mF 232 s,mF 233 s,mF 234 s,mF 235 s,mF 236 s,mF 237 s,mF 238 s,mF 239 s]
def d7O (s:Nat):(mA s).cells.size=9/\i8 (mA s).cells:=⟨rfl,fun c hc=>by
 simp[mA,mF,Value.cells]at hc;rcases hc with rfl|rfl|rfl|rfl|rfl|rfl|rfl|rfl|rfl<;>rfl⟩
def On (f:FuncId) (s:Nat):(mF f s).cells.size=1/\i8 (mF f s).cells:=⟨rfl,fun c hc=>by
 simp[mF,Value.cells]at hc;subst hc;rfl⟩
def e0F:j3 prog 279= .agg #[.nilFunc,.nilFunc,.nilFunc,.nilFunc,.nilFunc,.nilFunc,.nilFunc,.nilFunc,.nilFunc]:=aB
def c7I:Asks prog 181 [.pointer (some ⟨s,0,none⟩)] H (mA s):=by
 refine g9 mixed d3u ?_;refine x5 (Om (v:= .pointer (some ⟨s,0,none⟩)) rfl rfl) rfl ?_;simp only[cA,nA];refine x5 (Om (v:= .pointer (some ⟨s,0,none⟩)) rfl rfl) rfl ?_;simp only[cA,nA];refine x5 (Om (v:= .pointer (some ⟨s,0,none⟩)) rfl rfl) rfl ?_;simp only[cA,nA];refine x5 (Om (v:= .pointer (some ⟨s,0,none⟩)) rfl rfl) rfl ?_;simp only[cA,nA];refine x5 (Om (v:= .pointer (some ⟨s,0,none⟩)) rfl rfl) rfl ?_;simp only[cA,nA];refine x5 (Om (v:= .pointer (some ⟨s,0,none⟩)) rfl rfl) rfl ?_;simp only[cA,nA];refine x5 (Om (v:= .pointer (some ⟨s,0,none⟩)) rfl rfl) rfl ?_;simp only[cA,nA];refine x5 (Om (v:= .pointer (some ⟨s,0,none⟩)) rfl rfl) rfl ?_;simp only[cA,nA];refine b4 (On _ s) ?_;refine b4 (On _ s) ?_;refine b4 (On _ s) ?_;refine b4 (On _ s) ?_;refine b4 (On _ s) ?_;refine b4 (On _ s) ?_;refine b4 (On _ s) ?_;refine b4 (On _ s) ?_;exact c9 rfl ⟨rfl,by show Value.agg (spl (Value.agg (spl (Value.agg (spl (Value.agg (spl (Value.agg (spl (Value.agg (spl (Value.agg (spl (Value.agg (spl (j3 prog 279).cells 1 _)).cells 2 _)).cells 3 _)).cells 4 _)).cells 5 _)).cells 6 _)).cells 7 _)).cells 8 _)=_;rw[e0F];rfl⟩
def d7P (hS:Sce dm H s n w es rw us pv p k tv) (hM:Vd dm n us ms lv who):∃f,(mA s).cells.getD ms undef=mF f s/\q8 prog f=true/\j5 prog f [.pointer (some ⟨s,0,none⟩),qV lv who] H (shR (s0 dm n es us k ms lv who p)):=by
 rcases hM.mv with rfl|rfl
 ·exact⟨_,rfl,aB,c2t hS⟩
 ·exact⟨_,rfl,aB,c2u hS⟩
def c2v (hS:Sce dm H s n w es rw us pv p k tv) (hM:Vd dm n us ms lv who):j5 prog 119 [.pointer (some ⟨s,0,none⟩),ii (ms:Nat),qV lv who] H (shR (s0 dm n es us k ms lv who p)):=by
 refine g9 mixed d3v ?_;obtain⟨f,hf1,hf2,hf3⟩:=d7P hS hM;have h1:=hM.m1;have h8:=hM.m8;refine b4 (ym _ _) ?_;refine s7 (c7I) rfl ?_;simp only[cA,nA];refine b4 (d7O s) ?_;refine b9 ?_;refine j1 (bF (p:=((ms:Nat):Int)<1) aA) ?_;refine s7 (NU 2) (j0 (bF (p:=((ms:Nat):Int)≥9) aA) rfl) ?_;simp only[cA,nA];refine b4 ⟨_,_,rfl⟩ ?_;refine b4 ⟨Int.natCast_nonneg ms,by show((ms:Nat):Int)<((9:Nat):Int);omega⟩ ?_;refine j4 (c2q (f:=f) (fs:= #[.pointer (some ⟨s,0,none⟩)]) (caps:= #[]) (vs:=[qV lv who]) rfl rfl rfl hf2 hf3) (j0 (show(mA s).cells.getD (0+1*((ms:Nat):Int).toNat) undef=_ by rw[bO,bP,cL];exact hf1) rfl) ?_;rintro _ H1 ⟨l1,rfl⟩;refine⟨(fun _=>l1),?_⟩;simp only[cA,nA];refine b4 (r4 _ _) ?_;exact c9 rfl ⟨l1,rfl⟩
end
section
variable {dm:Dm} {H B:PH} {n k lv who ms:Nat} {es:List (Nat×Nat)} {us:List Un} {w rw pv tv:Value} {u v:Value} {p:List Int} {s:Nat}
def c2w:q8 prog 117=true:=aB
def e0G:Ii prog 116 176 46 36 20 ((prog.funcs[116]?).getD default) ((prog.funcs[176]?).getD default) (Gz ((prog.funcs[176]?).getD default).body):=⟨aB,aB,aB,aB,aB,aB,aB,aB,aB,aB⟩
def pt0 (b:Nat):Value:= .pointer (some ⟨b,0,none⟩)
structure NZ (dm:Dm) (H:PH) (a b c d e f g n:Nat) (w rw pv:Value) (k ms lv who:Nat):Prop where
 gr:H a=some (.cells #[ii (n:Nat),w] 25 (0,0))
 ro:H b=some (.cells #[ii (dm.g:Nat),ii (dm.p:Nat),ii (dm.l:Nat),rw] 28 (0,0))
 pl:H c=some (.cells #[pv] 49 (0,0))
 nk:H d=some (.cells #[ii (k:Nat)] 3 (0,0))
 ms:H e=some (.cells #[ii (ms:Nat)] 3 (0,0))
 lv:H f=some (.cells #[ii (lv:Nat)] 3 (0,0))
 wh:H g=some (.cells #[ii (who:Nat)] 3 (0,0))
def b8l {a b c d e f g:Nat} (hc:NZ dm H a b c d e f g n w rw pv k ms lv who) (hw:SG H w es) (hg:GV n es) (hr:RoR H rw us) (hv:RoV dm n us) (hp:SI H pv p) (ho:PlOk n k p) (hk:1<=k/\k<=8) (hM:Vd dm n us ms lv who):j5 prog 117 [pt0 a,pt0 b,pt0 c,pt0 d,pt0 e,pt0 f,pt0 g] H (shR (s0 dm n es us k ms lv who p)):=by
 refine g9 mixed c7t ?_;refine s5 (vs:=[ii (n:Nat),w]) Lc rfl rfl hc.gr rfl aD rfl ?_;simp only[cA,nA];refine s5 (vs:=[ii (dm.g:Nat),ii (dm.p:Nat),ii (dm.l:Nat),rw]) yi rfl rfl hc.ro rfl aD rfl ?_;simp only[cA,nA];refine i7 Jj rfl rfl hc.pl rfl rfl ?_;simp only[cA,nA];refine i7 sc_int rfl rfl hc.nk rfl rfl ?_;simp only[cA,nA];refine i7 sc_int rfl rfl hc.ms rfl rfl ?_;simp only[cA,nA];refine i7 sc_int rfl rfl hc.lv rfl rfl ?_;simp only[cA,nA];refine i7 sc_int rfl rfl hc.wh rfl rfl ?_;simp only[cA,nA];refine b4 (el_int.vcells _) ?_;refine b4 (el_int.vcells _) ?_;refine g5 (c7H hw hg hr hv hp ho hk) rfl ?_;rintro _ H1 ⟨l1,s,tv,rfl,hS⟩;refine⟨(fun _=>l1),?_⟩;simp only[cA,nA];refine i9 (c2v hS hM) rfl fun H2 l2=> ?_;simp only[cA,nA];refine b4 (r4 _ _) ?_;exact c9 rfl ⟨l1.trans l2,rfl⟩
def c2x (hw:SG H w es) (hg:GV n es) (hr:RoR H rw us) (hv:RoV dm n us) (hp:SI H pv p) (ho:PlOk n k p) (hk:1<=k/\k<=8) (hM:Vd dm n us ms lv who):j5 prog 75 [gv n w,rov dm rw,pv,ii (k:Nat),ii (ms:Nat),ii (lv:Nat),ii (who:Nat)] H (.tuple #[shR (s0 dm n es us k ms lv who p),ii 0]):=by
 refine g9 mixed d3w ?_;refine b4 (Be hw) ?_;refine o0 (cs:= #[ii (n:Nat),w]) rfl fun a ha=> ?_;simp only[cA,nA];refine b4 (Oi hr.one) ?_;refine o0 (cs:= #[ii (dm.g:Nat),ii (dm.p:Nat),ii (dm.l:Nat),rw]) rfl fun b hb=> ?_;simp only[cA,nA];refine b4 (hp.one) ?_;refine o0 (cs:= #[pv]) hp.cells fun c hc=> ?_;simp only[cA,nA];refine b4 (el_int.vcells _) ?_;refine o0 (cs:= #[ii (k:Nat)]) rfl fun d hd=> ?_;simp only[cA,nA];refine b4 (el_int.vcells _) ?_;refine o0 (cs:= #[ii (ms:Nat)]) rfl fun e he=> ?_;simp only[cA,nA];refine b4 (el_int.vcells _) ?_;refine o0 (cs:= #[ii (lv:Nat)]) rfl fun f hf=> ?_;simp only[cA,nA];refine b4 (el_int.vcells _) ?_;refine o0 (cs:= #[ii (who:Nat)]) rfl fun g hgg=> ?_;simp only[cA,nA];refine x5 (Ai (vs:=[pt0 a,pt0 b,pt0 c,pt0 d,pt0 e,pt0 f,pt0 g]) rfl rfl) rfl ?_;simp only[cA,nA];have la:=PH.le_put ha (.cells #[ii (n:Nat),w] 25 (0,0));have lb:=PH.le_put hb (.cells #[ii (dm.g:Nat),ii (dm.p:Nat),ii (dm.l:Nat),rw] 28 (0,0));have lc:=PH.le_put hc (.cells #[pv] 49 (0,0));have ld:=PH.le_put hd (.cells #[ii (k:Nat)] 3 (0,0));have le:=PH.le_put he (.cells #[ii (ms:Nat)] 3 (0,0));have lf:=PH.le_put hf (.cells #[ii (lv:Nat)] 3 (0,0));have lg:=PH.le_put hgg (.cells #[ii (who:Nat)] 3 (0,0));have l6:=lf.trans lg;have l5:=le.trans l6;have l4:=ld.trans l5;have l3:=lc.trans l4;have l2:=lb.trans l3;have l1:=la.trans l2;have tA:NZ dm _ a b c d e f g n w rw pv k ms lv who:=⟨l2 _ _ (PH.put_self _ _ _),l3 _ _ (PH.put_self _ _ _),l4 _ _ (PH.put_self _ _ _),l5 _ _ (PH.put_self _ _ _),l6 _ _ (PH.put_self _ _ _),lg _ _ (PH.put_self _ _ _),PH.put_self _ _ _⟩;refine g5 (Va (caps:=[pt0 a,pt0 b,pt0 c,pt0 d,pt0 e,pt0 f,pt0 g]) mixed e0G e2r c2w (b8l tA (hw.mono l1) hg (hr.mono l1) hv (hp.mono l1) ho hk hM) (fun _ _ h=>by rw[h.2];exact e2s _ _)) rfl ?_;rintro _ H4 ⟨t,⟨l9,rfl⟩,rfl⟩;refine nmI ?_;simp only[cA,nA];refine g7 (g7 ?_);refine b4 (r4 _ _) ?_;exact c9 rfl ⟨l1.trans l9,rfl⟩
end
def d3H:g6 prog [] [] [⟨0,3,[],[1]⟩] [⟨5,[0,0,0,6,15,31],[5,0,5,2,2,6],[1,0,2,0,0,1],[0,1,2,3,4],[5]⟩] 170=some (.call false 69 [(.ki 0)]
(.rq (.cells 4 V2)
(.pm f170 2 1 [V0]
(.loop [(.ki 0),V2]
(.ri V4
(.ri V3
(.br (.io .lss V4 V3)
(.pm f170 4 0 [V0,V4]
(.pm f170 4 1 [V6]
(.rq (.cells 32 V7)
(.ef true f170 5 3 [V1,(.ag V7)]
(.call true 72 [(.ag V5),V8]
(.rq (.cells 4 V9) (.next 0 [(.io .add V4 (.ki 1)),V9]))))))) (.ret [(.ag V5)])))))))):=aB
def e0H:g6 prog [] [] [] [] 73=some (.rq (.cells 32 V0) (.call false 70 [(.sub V0 16 16 0 noI)]
(.rq (.cells 4 V1) (.ret [(.ag V1)])))):=aB
def d3I:g6 prog [] [] [⟨3,1,[12],[]⟩,⟨3,6,[54],[]⟩,⟨0,4,[],[]⟩] [⟨6,[0,1,3,7,15,31,63,127,255,511,1023,2047,4095,8191,16383,32767,65535,131071,262143,524287,1048575,2097151,2097151,6291455,16777215,33554431,67108863,134217727,2097151,270532607,1073741823,2147483647,4294967295,8589934591,17179869183],rDx 24 202500025000250++rDx 11 22502111,rPx 35 0,rAx 0 27++[28,29,27]++rAx 30 5,[]⟩] 109=some (.join 1
(.pm f109 1 1 [V0]
(.ri V1
(.br (.io .lss V1 (.ki 1)) (.next 0 [(.k (.bool true))])
(.pm f109 1 5 [V0]
(.ri V2
(.next 0 [(.io .gtr V2 (.ki 400))])))))) (.rq (.bool V1) (.br V1
(.ret [(.ki 50)])
(.pm f109 3 1 [V0]
(.loop [(.ki 0),(.ki 0)]
(.ri V4
(.ri V2
(.br (.io .lss V4 V2)
(.pm f109 5 1 [V0,V4]
(.pm f109 5 2 [V5]
(.rq (.cells 32 V6) (.join 1
(.call true 112 [(.sub V6 0 16 0 noI)]
(.ri V7
(.br (.io .neq V7 (.ki 0)) (.next 1 [(.k (.bool true))]) (.call true 112 [(.sub V6 16 16 0 noI)]
(.ri V8
(.br (.io .neq V8 (.ki 0)) (.next 1 [(.k (.bool true))]) (.call true 73 [(.ag V6)]
(.rq (.agg 4 V9) (.call true 169 [(.sub V9 0 2 0 noI)]
(.ri V10
(.br (.io .leq V10 (.ki 0)) (.next 1 [(.k (.bool true))]) (.br (.io .gtr V4 (.ki 0))
(.pm f109 6 24 [V0,(.io .sub V4 (.ki 1))]
(.pm f109 6 25 [V11]
(.pm f109 6 26 [V12]
(.call true 70 [V13]
(.call true 70 [(.sub V6 0 16 0 noI)]
(.call true 71 [V14,V15]
(.ri V16
(.next 1 [(.io .geq V16 (.ki 0))])))))))) (.next 1 [(.k (.bool false))]))))))))))))) (.rq (.bool V7) (.br V7
(.ret [(.ki 50)]) (.next 0 [V3,(.io .add V4 (.ki 1))]))))))) (.call false 170 [V0,(.k (.func (.func 73) #[] #[]))]
(.call false 69 [(.ki 1)]
(.call false 71 [V5,V6]
(.ri V7
(.br (.io .neq V7 (.ki 0)) (.ret [(.ki 50)]) (.ret [(.ki 0)])))))))))))))):=aB
def d3J:g6 prog [] [] [] [] 68=some (.call false 107 [V0,(.k (.func (.func 108) #[] #[]))]
(.rq (.bool V2) (.br V2
(.ret [(.ki 50)]) (.call false 110 [V1,(.k (.func (.func 111) #[] #[]))]
(.rq (.bool V3) (.br V3
(.ret [(.ki 20)]) (.ret [(.ki 0)]))))))):=aB
def c7J:g6 prog [] [] [] [] 108=some (.call false 109 [V0]
(.ri V1
(.ret [(.io .neq V1 (.ki 0))]))):=aB
def c7K:g6 prog [] [] [] [] 111=some (.rq (.cells 16 V0) (.call false 112 [(.ag V0)]
(.ri V1
(.ret [(.io .neq V1 (.ki 0))])))):=aB
def d3K:g6 prog [] [] [⟨0,6,[],[3,4]⟩] [⟨3,[0,0,0,1,11,31],[5,5,0,6,6,0],[1,2,0,1,2,0],[0,1,2],[3,4,5]⟩,⟨8,[0,1,3,0,15,31,63],rDx 7 225250,rDx 7 50,rDx 7 6542310,[]⟩,⟨10,[0,0,2,7,15],[5,5,2,2,6],[3,5,0,0,3],[0,1,2,3],[4]⟩,⟨17,[0,0,1,7,15],[5,5,6,6,0],[1,2,1,2,0],[0,1],[2,3,4]⟩,⟨18,[0,0,1,7,15],[5,5,6,6,0],[5,6,1,2,0],[0,1],[2,3,4]⟩] 34=some (.rq (.cells 16 V1)
(.ef false f34 1 1 [V0]
(.ef false f34 1 3 [(.ag V1)]
(.call false 68 [V2,V3]
(.ri V4
(.br (.io .neq V4 (.ki 0)) (.ret [(.z 46),(.z 46),V4]) (.call false 69 [(.ki 0)]
(.call false 69 [(.ki 0)]
(.rq (.cells 4 V5) (.rq (.cells 4 V6)
(.pm f34 5 1 [V0]
(.loop [(.ki 0),V5,V6]
(.ri V8
(.ri V7
(.br (.io .lss V8 V7)
(.pm f34 7 0 [V0,V8]
(.pm f34 7 1 [V11]
(.rq (.cells 32 V12) (.call true 70 [(.sub V12 0 16 0 noI)]
(.call true 70 [(.ag V1)]
(.call true 71 [V13,V14]
(.ri V15
(.br (.io .lss V15 (.ki 0)) (.call true 73 [(.ag V12)]
(.call true 72 [(.ag V9),V16]
(.rq (.cells 4 V17) (.next 0 [(.io .add V8 (.ki 1)),V17,V10])))) (.br (.io .eql V15 (.ki 0)) (.call false 73 [(.ag V12)]
(.rq (.cells 4 V16) (.next 0 [(.io .add V8 (.ki 1)),V9,V16]))) (.next 0 [(.io .add V8 (.ki 1)),V9,V10])))))))))) (.call false 74 [(.ag V9)]
(.rq (.tup 0 V11) (.rq (.tup 1 V11) (.rq (.cells 16 (.pj V11 0)) (.call false 74 [(.ag V10)]
(.rq (.tup 0 V12) (.rq (.tup 1 V12) (.rq (.cells 16 (.pj V12 0)) (.rq (.int .i64 (.pj V11 1)) (.br (.io .neq (.pj V11 1) (.ki 0)) (.ret [(.z 46),(.z 46),(.ki 6)]) (.rq (.int .i64 (.pj V12 1)) (.br (.io .neq (.pj V12 1) (.ki 0)) (.ret [(.z 46),(.z 46),(.ki 6)]) (.ret [(.ag (.pj V11 0)),(.ag (.pj V12 0)),(.ki 0)])))))))))))))))))))))))))))):=aB
def d3L:g6 prog [] [] [] [] 107=some (.call false 168 [V0,V1]
(.ri V2
(.ret [(.io .geq V2 (.ki 0))]))):=aB
def d3M:g6 prog [] [] [⟨0,2,[],[]⟩] [] 168=some (.pm f168 1 1 [V0]
(.loop [(.ki 0),(.ki 0)]
(.ri V4
(.ri V2
(.br (.io .lss V4 V2)
(.pm f168 4 3 [V0,V4]
(.pm f168 4 4 [V5]
(.ef false f168 4 5 [V1,V6]
(.rq (.bool V7) (.br V7
(.ret [V4]) (.next 0 [V3,(.io .add V4 (.ki 1))])))))) (.ret [(kI (-1))])))))):=aB
def d3N:g6 prog [] [] [] [] 110=some (.call false 171 [V0,V1]
(.ri V2
(.ret [(.io .geq V2 (.ki 0))]))):=aB
def d3O:g6 prog [] [] [⟨0,2,[],[]⟩] [] 171=some (.pm f171 1 1 [V0]
(.loop [(.ki 0),(.ki 0)]
(.ri V4
(.ri V2
(.br (.io .lss V4 V2)
(.pm f171 4 3 [V0,V4]
(.pm f171 4 4 [V5]
(.ef false f171 4 5 [V1,V6]
(.rq (.bool V7) (.br V7
(.ret [V4]) (.next 0 [V3,(.io .add V4 (.ki 1))])))))) (.ret [(kI (-1))])))))):=aB
def d3P:g6 prog [] [] [] [] 24=some (.rq (.cells 8 V0)
(.ri V1
(.br (.io .neq V1 (.ki 0)) (.rq (.cells 1 V1)
(.pm f24 2 2 [(.ag V1)]
(.ef false f24 2 3 [V2]
(.ret [(.ag V0)])))) (.ret [(.ag V0)])))):=aB
def d3Q:g6 prog [] [] [] [] 31=some (.ri V1
(.br (.io .neq V1 (.ki 0)) (.rq (.cells 1 V1)
(.pm f31 2 2 [(.ag V1)]
(.ef false f31 2 3 [V2]
(.ret [V0])))) (.ret [V0]))):=aB
def d3R:g6 prog [] [] [] [] 33=some (.ri V1
(.br (.io .neq V1 (.ki 0)) (.rq (.cells 1 V1)
(.pm f33 2 2 [(.ag V1)]
(.ef false f33 2 3 [V2]
(.ret [V0])))) (.ret [V0]))):=aB
def d3S:g6 prog [] [] [] [] 45=some (.ri V1
(.br (.io .neq V1 (.ki 0)) (.rq (.cells 1 V1)
(.pm f45 2 2 [(.ag V1)]
(.ef false f45 2 3 [V2]
(.ret [V0])))) (.ret [V0]))):=aB
def d3T:g6 prog [] [] [] [] 57=some (.ri V1
(.br (.io .neq V1 (.ki 0)) (.rq (.cells 1 V1)
(.pm f57 2 2 [(.ag V1)]
(.ef false f57 2 3 [V2]
(.ret [V0])))) (.ret [V0]))):=aB
def d3U:g6 prog [] [] [] [] 61=some (.rq (.cells 16 V0)
(.ri V1
(.br (.io .neq V1 (.ki 0)) (.rq (.cells 1 V1)
(.pm f61 2 2 [(.ag V1)]
(.ef false f61 2 3 [V2]
(.ret [(.ag V0)])))) (.ret [(.ag V0)])))):=aB
def OA:g6 prog [] [] [] [] 30=some (.rq (.bool V0) (.br V0
(.call false 36 [V1]
(.ret [])) (.ret []))):=aB
def OB:g6 prog [] [] [] [] 36=some (.ri V0
(.br (.io .neq V0 (.ki 0)) (.rq (.cells 1 V0)
(.pm f36 1 2 [(.ag V0)]
(.ef false f36 1 3 [V1]
(.ret [])))) (.ret []))):=aB
def d3V:g6 prog [23,999998] [] [⟨0,5,[],[]⟩] [⟨8,[0,0,2,6,14,30,0,64,192,510,1023,2047,4095,8191],rDx 14 87778250111100,rDx 14 10000000,rAx 0 9,[9,10,11,12,13]⟩,⟨11,[0,1,3,7,15,31,0,64,192,511,1023],rDx 11 80500777770,rPx 11 0,[],rAx 0 11⟩,⟨12,[0,1,0,4,12,28,63,127],rDx 8 88777050,rPx 8 0,[],rAx 0 8⟩] 20=some (.rq (.cells 12 V0) (.call false 52 [(.sub V0 0 2 0 noI)]
(.call false 36 [V1]
(.call false 53 [(.sub V0 2 4 0 noI)]
(.call false 36 [V3]
(.rq (.cells 1 (.cell V0 7 0 noI)) (.rq (.cells 1 (.cell V0 8 0 noI)) (.rq (.cells 1 (.cell V0 6 0 noI)) (.rq (.cells 4 (.cat (.z 33) 1 (.cat (.sub (.put (.cat (.cell V0 7 0 noI) 1 (.cat (.z 3) 1 (.z 3))) 1 1 (.cell V0 8 0 noI) 0 noI) 0 2 0 noI) 2 (.cell V0 6 0 noI)))) (.pub 93 (.cat (.ag V0) 12 (.cat (.cat (.z 33) 1 (.cat (.sub (.put (.cat (.cell V0 7 0 noI) 1 (.cat (.z 3) 1 (.z 3))) 1 1 (.cell V0 8 0 noI) 0 noI) 0 2 0 noI) 2 (.cell V0 6 0 noI))) 4 (.z 4)))
(.pm f20 4 3 [(.cell V0 5 0 noI)]
(.loop [(.ki 0)]
(.ri V7
(.ri V6
(.br (.io .lss V7 V6)
(.pm f20 6 0 [(.cell V0 5 0 noI),V7]
(.pm f20 6 1 [V8]
(.rq (.cells 6 V9) (.rq (.bool (.cell V9 5 0 noI)) (.br (.nt (.cell V9 5 0 noI))
(.pm f20 8 2 [V5]
(.pm f20 8 3 [V10]
(.pm f20 8 4 [V11]
(.pm f20 8 5 [V12]
(.ef true f20 8 8 [(.cell V9 1 0 noI)]
(.ef false f20 8 9 [V13,V14]
(.pm f20 8 10 [V5]
(.pm f20 8 11 [V16]
(.pm f20 8 12 [V17]
(.ef false f20 8 13 [V18,V15]
(.pm f20 9 2 [V5]
(.pm f20 9 3 [V20]
(.pm f20 9 4 [V21]
(.rq (.bool V22) (.br V22
(.pm f20 9 10 [V5]
(.pm f20 9 11 [V23]
(.ef false f20 9 12 [V24,(.k (.bool true))]
(.next 0 [(.io .add V7 (.ki 1))])))) (.rq (.int .i64 (.cell V9 1 0 noI))
(.pm f20 9 10 [V5]
(.pm f20 9 11 [V23]
(.ef false f20 9 12 [V24,(.io .gtr (.cell V9 1 0 noI) (.ki 0))]
(.next 0 [(.io .add V7 (.ki 1))])))))))))))))))))))) (.next 0 [(.io .add V7 (.ki 1))]))))))
(.pm f20 11 1 [V5]
(.pm f20 11 2 [V8]
(.pm f20 11 3 [V9]
(.pm f20 11 4 [V10]
(.pm f20 11 5 [V11]
(.ri V12
(.rq (.int .i64 (.cell V0 0 0 noI)) (.call false 30 [(.io .neq V12 (.cell V0 0 0 noI)),(.ki 5)]
(.pm f20 12 3 [V5]
(.pm f20 12 4 [V14]
(.pm f20 12 5 [V15]
(.call false 54 [(.sub V0 0 2 0 noI),V16]
(.call false 36 [V17]
(.call false 55 [V5]
(.ret [V5])))))))))))))))))))))))))))))):=aB
def d3W:g6 prog [999999] [] [] [⟨9,[0,0,2,6,14,30,0,64,192,448,960,1984,4095],rDx 13 8111110111100,rPx 13 0,rAx 0 12,[12]⟩,⟨11,[0,0,2,6,14,30,0,64,192,448,960,1984,4095],rDx 13 8111110111100,rPx 13 0,rAx 0 12,[12]⟩,⟨13,[0,0,2,6,14,30,0,64,192,448,960,1984,4095],rDx 13 8111110111100,rPx 13 0,rAx 0 12,[12]⟩] 55=some (.pm f55 1 2 [V0]
(.pm f55 1 3 [V1]
(.pm f55 1 4 [V2]
(.pm f55 1 5 [V3]
(.ef false f55 1 6 [(.k (.func (.func 93) #[] #[])),V4,(.ki 9)]
(.pm f55 2 1 [V0]
(.pm f55 2 2 [V6]
(.pm f55 2 3 [V7]
(.pm f55 2 4 [V8]
(.ri V9
(.br (.io .eql V9 (.ki 0)) (.call false 36 [(.ki 2)]
(.ret [])) (.br (.io .eql V9 (.ki 1))
(.pm f55 6 1 [V0]
(.pm f55 6 2 [V10]
(.pm f55 6 3 [V11]
(.rq (.bool V12) (.call false 30 [(.nt V12),(.ki 7)]
(.ret [])))))) (.br (.io .eql V9 (.ki 5))
(.pm f55 9 2 [V0]
(.pm f55 9 3 [V10]
(.pm f55 9 4 [V11]
(.pm f55 9 5 [V12]
(.pm f55 9 7 [V0]
(.pm f55 9 8 [V14]
(.pm f55 9 9 [V15]
(.pm f55 9 10 [V16]
(.pm f55 9 11 [V17]
(.ef false f55 9 12 [(.k (.func (.func 93) #[] #[])),V13,V18]
(.ret []))))))))))) (.br (.io .eql V9 (.ki 6))
(.pm f55 9 2 [V0]
(.pm f55 9 3 [V10]
(.pm f55 9 4 [V11]
(.pm f55 9 5 [V12]
(.pm f55 9 7 [V0]
(.pm f55 9 8 [V14]
(.pm f55 9 9 [V15]
(.pm f55 9 10 [V16]
(.pm f55 9 11 [V17]
(.ef false f55 9 12 [(.k (.func (.func 93) #[] #[])),V13,V18]
(.ret []))))))))))) (.br (.io .eql V9 (.ki 7))
(.pm f55 11 2 [V0]
(.pm f55 11 3 [V10]
(.pm f55 11 4 [V11]
(.pm f55 11 5 [V12]
(.pm f55 11 7 [V0]
(.pm f55 11 8 [V14]
(.pm f55 11 9 [V15]
(.pm f55 11 10 [V16]
(.pm f55 11 11 [V17]
(.ef false f55 11 12 [(.k (.func (.func 93) #[] #[])),V13,V18]
(.ret []))))))))))) (.br (.io .eql V9 (.ki 8))
(.pm f55 13 2 [V0]
(.pm f55 13 3 [V10]
(.pm f55 13 4 [V11]
(.pm f55 13 5 [V12]
(.pm f55 13 7 [V0]
(.pm f55 13 8 [V14]
(.pm f55 13 9 [V15]
(.pm f55 13 10 [V16]
(.pm f55 13 11 [V17]
(.ef false f55 13 12 [(.k (.func (.func 93) #[] #[])),V13,V18]
(.ret []))))))))))) (.ret []))))))))))))))))):=aB
def c7L:g6 prog [] [] [] [] 93=some (.ri V0
(.br (.io .lss V0 (.ki 0)) (.call false 30 [(.k (.bool true)),(.ki 2)]
(.ret []))
(.ri V1
(.call false 30 [(.io .geq V0 V1),(.ki 2)]
(.ret []))))):=aB
def d3X:g6 prog [] [] [] [⟨1,[0,1,3,7,15,0,32,96,224,480,0,0,2048,6144,14336,30720,0,65536,196608,458752,983040,0,2097152,6291456,14680064,31457280,0,67108864,201326592,469762048,1006632960,2147483647]++rPx 2 4294967295++[17179869183,34359738367],rDx 36 620021111011110111101111001111011110,rPx 36 0,rAx 0 35,[35]⟩] 35=some (.pm f35 1 1 [V0]
(.pm f35 1 2 [V2]
(.pm f35 1 3 [V3]
(.pm f35 1 4 [V4]
(.pm f35 1 6 [V0]
(.pm f35 1 7 [V6]
(.pm f35 1 8 [V7]
(.pm f35 1 9 [V8]
(.pm f35 1 12 [V0]
(.pm f35 1 13 [V10]
(.pm f35 1 14 [V11]
(.pm f35 1 15 [V12]
(.pm f35 1 17 [V0]
(.pm f35 1 18 [V14]
(.pm f35 1 19 [V15]
(.pm f35 1 20 [V16]
(.pm f35 1 22 [V0]
(.pm f35 1 23 [V18]
(.pm f35 1 24 [V19]
(.pm f35 1 25 [V20]
(.pm f35 1 27 [V0]
(.pm f35 1 28 [V22]
(.pm f35 1 29 [V23]
(.pm f35 1 30 [V24]
(.call true 75 [V5,V9,V1,V13,V17,V21,V25]
(.rq (.tup 0 V26) (.rq (.tup 1 V26) (.call true 61 [(.pj V26 0),(.pj V26 1)]
(.rq (.cells 16 V27) (.ret [(.ag V27)])))))))))))))))))))))))))))))):=aB
def d3Y:g6 prog [1,3,999997,999999] [] [] [⟨2000001,[],[],[],[12],[13]⟩,⟨1,[0,1,3,7,15,0,32,96,224,511,1023,1023,4095,8191,16383],rPx 9 1++rDx 6 888002,rPx 15 0,rAx 0 12,[12,13,14]⟩,⟨1000001,[0,1,3,7,15,0,32,96,224,511,1023,1023,12287,0,16383],rPx 9 1++rDx 6 838002,rPx 15 0,rAx 0 12++[13],[12,14]⟩] 23=some (.rq (.cells 1 V0) (.pub 67 V0
(.both
(.pm f23 1 0 [V1]
(.pm f23 1 1 [V2]
(.pm f23 1 2 [V3]
(.pm f23 1 3 [V4]
(.pm f23 1 4 [V5]
(.pm f23 1 5 [V1]
(.pm f23 1 6 [V7]
(.pm f23 1 7 [V8]
(.pm f23 1 8 [V9]
(.call true 58 [V6,V10]
(.rq (.tup 0 V11) (.rq (.tup 1 V11) (.call false 57 [(.pj V11 0),(.pj V11 1)]
(.pub 125 (.z 125)
(.ef false f23 1 14 [V13,V12]
(.pm f23 2 0 [V13]
(.pm f23 2 1 [V15]
(.ri V16
(.call false 30 [(.io .eql V16 (.ki 0)),(.ki 4)]
(.ef false f23 3 0 [V13,V1]
(.ret [V18])))))))))))))))))))))
(.pm f23 1 0 [V1]
(.pm f23 1 1 [V2]
(.pm f23 1 2 [V3]
(.pm f23 1 3 [V4]
(.pm f23 1 4 [V5]
(.pm f23 1 5 [V1]
(.pm f23 1 6 [V7]
(.pm f23 1 7 [V8]
(.pm f23 1 8 [V9]
(.call true 58 [V6,V10]
(.rq (.tup 0 V11) (.rq (.tup 1 V11) (.pub 125 (.z 125) (.call false 57 [(.pj V11 0),(.pj V11 1)]
(.ef false f23 1 14 [V12,V13]
(.pm f23 2 0 [V12]
(.pm f23 2 1 [V15]
(.ri V16
(.call false 30 [(.io .eql V16 (.ki 0)),(.ki 4)]
(.ef false f23 3 0 [V12,V1]
(.ret [V18])))))))))))))))))))))))):=aB
def c7M:g6 prog [] [] [⟨0,1,[],[]⟩] [] 59=some (.pm f59 0 0 [V1]
(.pm f59 0 1 [V3]
(.loop [(.ki 0)]
(.ri V5
(.ri V4
(.br (.io .lss V5 V4)
(.pm f59 2 0 [V3,V5]
(.pm f59 2 1 [V6]
(.pm f59 3 2 [V2]
(.call false 35 [V8,V7]
(.ef false f59 3 5 [V0,V7,V9]
(.rq (.bool V10) (.br (.nt V10) (.ret []) (.next 0 [(.io .add V5 (.ki 1))])))))))) (.ret []))))))):=aB
def d3Z:g6 prog [999998] [] [⟨0,3,[],[0]⟩,⟨0,8,[],[]⟩] [⟨10,[0,0,0,0,12,28,28,124,254,510,1023,2047],rDx 12 88080085550,rDx 12 210,[],rAx 0 12⟩] 27=some (.ef false f27 2 1 [V0]
(.loop [(.z 44)]
(.ef false f27 3 0 [V1]
(.rq (.tup 0 V3) (.rq (.bool (.pj V3 0)) (.br (.pj V3 0)
(.ef false f27 4 0 [V1]
(.rq (.tup 1 V4) (.rq (.cells 8 (.pj V4 1)) (.call false 25 [(.ag V2),(.ag (.pj V4 1))]
(.rq (.tup 0 V5) (.rq (.tup 1 V5) (.call false 24 [(.pj V5 0),(.pj V5 1)]
(.rq (.cells 8 V6) (.next 0 [V6])))))))))
(.ef false f27 7 1 [V0]
(.loop [(.k (.slice none 0 0))]
(.ef false f27 8 0 [V4]
(.rq (.tup 0 V6) (.rq (.bool (.pj V6 0)) (.br (.pj V6 0)
(.ef false f27 9 0 [V4]
(.rq (.tup 0 V7) (.rq (.tup 1 V7) (.rq (.cells 16 (.pj V7 0)) (.rq (.cells 8 (.pj V7 1)) (.call false 62 [(.ag (.pj V7 1)),(.ag V2)]
(.rq (.tup 0 V8) (.rq (.tup 1 V8) (.call false 61 [(.pj V8 0),(.pj V8 1)]
(.rq (.cells 16 V9)
(.ef false f27 10 9 [(.cat (.ag (.pj V7 0)) 16 V9)]
(.ef false f27 10 10 [V5,V10]
(.next 1 [V11]))))))))))))) (.call false 63 [V5,(.k (.func (.func 64) #[] #[]))]
(.ret [V5])))))))))))))):=aB
def d4a:g6 prog [] [] [] [] 63=some (.pm f63 0 1 [V0]
(.ri V2
(.call false 102 [(.cv .u64 V2)]
(.call false 101 [V0,(.ki 0),V2,V3,V1]
(.ret []))))):=aB
def c7N:g6 prog [] [] [] [] 64=some (.rq (.cells 32 V0) (.rq (.cells 32 V1) (.call false 46 [(.sub V0 0 16 0 noI),(.sub V1 0 16 0 noI)]
(.rq (.tup 0 V2) (.rq (.tup 1 V2) (.call false 45 [(.pj V2 0),(.pj V2 1)]
(.ret [V3]))))))):=aB
def OC:g6 prog [1] [] [] [] 8=some (.rq (.cells 12 V0) (.pub 30 V0
(.ef false f8 1 0 [V1]
(.call false 21 [V2]
(.rq (.tup 0 V3) (.rq (.tup 1 V3) (.ret [(.pj V3 0),(.pj V3 1)]))))))):=aB
def yp:g6 prog [] [] [⟨4,4,[],[]⟩] [⟨4,[0,0,0,0,12,0,60,124,124,508,1023],rDx 11 42002215555,rDx 11 1010,rAx 0 10,[10]⟩] 22=some (.ef false f22 1 0 []
(.rq (.cells 1 V1)
(.pm f22 2 0 [V0]
(.call false 20 [V2]
(.call false 23 [V3]
(.rf V4 2 []
(.rq (.cells 16 V6)
(.pm f22 4 4 [(.cell V1 0 0 noI),(.ag V6)]
(.call true 26 [(.ki 1)]
(.call true 25 [V7,V8]
(.rq (.tup 0 V9) (.rq (.tup 1 V9) (.call true 24 [(.pj V9 0),(.pj V9 1)]
(.ef false f22 4 10 [(.cell V1 0 0 noI),(.ag V6),V10]
(.next 0 []))))))))) (.call false 27 [(.cell V1 0 0 noI)]
(.ret [V5])) (.dead 818))))))):=aB
def OD:g6 prog [2,3] [] [] [⟨2,[0,1,0,4,0,3,47,127],rDx 8 6605050,rDx 8 1002020,[0,1,2,3,4],[5,6,7]⟩] 9=some (.rq (.cells 12 V0) (.pub 30 V0
(.rq (.cells 1 V1) (.pub 49 V1
(.ef false f9 1 0 [V2,V3]
(.call false 28 [V4]
(.rq (.tup 0 V5) (.rq (.tup 1 V5) (.rq (.cells 32 (.pj V5 0)) (.ret [(.sub (.pj V5 0) 0 16 0 noI),(.sub (.pj V5 0) 16 16 0 noI),(.pj V5 1)])))))))))):=aB
def yq:g6 prog [999999] [] [] [⟨2,[0,1,3,7,15,0,32,96,224,0,1023,2047,2047,8191,16383,32767],rDx 16 8020021111011110,rPx 16 0,rAx 0 15,[15]⟩] 29=some (.pm f29 1 0 [V0]
(.call false 20 [V2]
(.pm f29 2 1 [V3]
(.pm f29 2 2 [V4]
(.pm f29 2 3 [V5]
(.pm f29 2 4 [V6]
(.pm f29 2 6 [V3]
(.pm f29 2 7 [V8]
(.pm f29 2 8 [V9]
(.pm f29 2 9 [V1]
(.call true 32 [V7,V10,V11]
(.rq (.tup 0 V12) (.rq (.tup 1 V12) (.call true 31 [(.pj V12 0),(.pj V12 1)]
(.rq (.bool V13) (.call false 30 [(.nt V13),(.ki 8)]
(.pm f29 3 0 [V0]
(.call false 8 [V15]
(.rq (.tup 0 V16) (.rq (.tup 1 V16) (.call false 33 [(.pj V16 0),(.pj V16 1)]
(.pm f29 4 2 [V1]
(.call false 35 [V3,V18]
(.call false 34 [V17,V19]
(.rq (.tup 0 V20) (.rq (.tup 1 V20) (.rq (.tup 2 V20) (.rq (.cells 16 (.pj V20 0)) (.rq (.cells 16 (.pj V20 1)) (.call false 36 [(.pj V20 2)]
(.ret [(.cat (.ag (.pj V20 0)) 16 (.ag (.pj V20 1)))]))))))))))))))))))))))))))))))):=aB
def OF:g6 prog [2,3] [] [] [⟨2,[0,1,0,4,0,3,47,127],rDx 8 6005050,rDx 8 1010,[0,1,2,3,4,5],[6,7]⟩] 12=some (.rq (.cells 12 V0) (.pub 30 V0
(.rq (.cells 1 V1) (.pub 4 V1
(.ef false f12 1 0 [V3,V2]
(.call false 42 [V4]
(.rq (.tup 0 V5) (.rq (.tup 1 V5) (.rq (.cells 17 (.pj V5 0)) (.ret [(.cell (.pj V5 0) 0 0 noI),(.sub (.pj V5 0) 1 16 0 noI),(.pj V5 1)])))))))))):=aB
def OG:g6 prog [2] [] [⟨3,5,[20],[]⟩,⟨4,5,[],[]⟩] [] 43=some (.pub 108 (.z 108)
(.ef false f43 1 0 [V2,V0]
(.rq (.cells 1 V3)
(.pm f43 2 0 [V1]
(.call false 20 [V4]
(.call false 23 [V5]
(.rf V6 2 []
(.rq (.cells 16 V8) (.join 1
(.pm f43 5 0 [V2]
(.pm f43 5 1 [V9]
(.pm f43 5 2 [V10]
(.ri V11
(.br (.io .eql V11 (.ki 0)) (.next 2 [(.k (.bool true))])
(.ef false f43 5 7 [(.cell V3 0 0 noI),(.ag V8)]
(.next 2 [V12]))))))) (.rq (.bool V9) (.br V9
(.rq (.cells 1 V7)
(.ef false f43 6 3 [V2,(.put (.cat V7 1 (.z 46)) 1 16 (.ag V8) 0 noI)]
(.next 0 []))) (.next 0 [])))))
(.pm f43 7 0 [V2]
(.ef false f43 7 1 [V2,V7]
(.prim 999999 2 (ldO 108 2) [V2]
(.ret [V9])))) (.dead 818)))))))):=aB
def a6t:(ldO 108 2).op= .load 108 (.tmp 2):=rfl
def c7O:g6 prog [] [] [] [] 44=some (.rq (.cells 16 V0)
(.pm f44 1 1 [V1]
(.pm f44 1 2 [V3]
(.call false 46 [(.ag V0),V4]
(.rq (.tup 0 V5) (.rq (.tup 1 V5) (.call false 45 [(.pj V5 0),(.pj V5 1)]
(.pm f44 2 0 [V2]
(.rq (.bool V7) (.br V7
(.ri V6
(.br (.io .gtr V6 (.ki 0)) (.ret [(.k (.bool true))])
(.pm f44 2 6 [V2]
(.rq (.bool V8) (.br (.nt V8) (.ret [(.io .lss V6 (.ki 0))]) (.ret [(.k (.bool false))]))))))
(.pm f44 2 6 [V2]
(.rq (.bool V8) (.br (.nt V8)
(.ri V6
(.ret [(.io .lss V6 (.ki 0))])) (.ret [(.k (.bool false))])))))))))))))):=aB
def d7Q:Du prog 46:=by
 have big:6<=(prog).types.size+1:=oDt aB;exact⟨aB,aB,aB,aB,aB,big⟩
def wsA (n:Nat):List AV:=[wA (dig n 0),wA (dig n 1),wA (dig n 2),wA (dig n 3),wA (dig n 4),wA (dig n 5),wA (dig n 6),wA (dig n 7)]
def shA (r:Rat):List AV:=wsA (rs r.num)++wsA (rs (r.den:Int))
def OH (n:Nat) (d:Nat):Ce prog (d+2) 44 (wsA n)=true:=by
 have hu:prog.underlying 44=some (.array 8 42):=aB;have h1:prog.cellsOf 44=8:=aB;have h2:prog.cellsOf 42=1:=aB;have hr:List.range 8=[0,1,2,3,4,5,6,7]:=aC;have f:∀i,Ce prog (d+1) 42 [wA (dig n i)]=true:=fun i=>xk (Nq n i) d;unfold Ce;rw[hu];simp only[h1,h2,hr,nS,nW,jJ];rw[aT];refine⟨rfl,?_⟩;simp only[aT];exact⟨f 0,f 1,f 2,f 3,f 4,f 5,f 6,f 7⟩
def d7R (r:Rat):Ce prog 6 46 (shA r)=true:=by
 have hu:prog.underlying 46=some (.struct (fieldsOf prog 46)):=aB;have h1:prog.cellsOf 46=16:=aB;have h2:prog.cellsOf 44=8:=aB;have hf:(fieldsOf prog 46).toList.map (fun f=>(f.type,f.offset))=[(44,0),(44,8)]:=aB;unfold Ce;rw[hu];simp only[h1];rw[aT];refine⟨rfl,?_⟩;rw[show(fun f:Field=>Ce prog 5 f.type (((shA r).drop f.offset).take (prog.cellsOf f.type)))=(fun q:TypeId×Nat=>Ce prog 5 q.1 (((shA r).drop q.2).take (prog.cellsOf q.1))) ∘ (fun f:Field=>(f.type,f.offset))from rfl,<-List.all_map,hf];simp only[nS,nW,jJ,h2,aT];exact⟨OH (rs r.num) 3,OH (rs (r.den:Int)) 3⟩
def e0I (σ:Rl) (r:Rat):rz σ (.agg (shA r))=shR r:=rfl
def d4b {a b:Rat} (ha:Rg a) (hb:Rg b) (h:shR a=shR b):a=b:=by
 rw[<-fj ha,<-fj hb];unfold shR shv at h
 injection h with h
 have e0:=congrArg (fun z:Array Value=>z.extract 0 8) h;have e1:=congrArg (fun z:Array Value=>z.extract 8 16) h;simp only[II,IJ]at e0 e1;have h0:toI (rs a.num)=toI (rs b.num):=by unfold toI;rw[FS e0]
 have h1:toI (rs (a.den:Int))=toI (rs (b.den:Int)):=by unfold toI;rw[FS e1]
 unfold Fb;rw[h0,h1]
def Ha:Qr prog 46 Rg shR:=LP (ce:=shA) d7Q (fun r _=>d7R r) e0I fun a b ha hb h=>d4b ha hb h
def MaT:Type:={q:Rat×Rat//Rg q.1/\Rg q.2}
instance:Inhabited MaT:=⟨⟨(0,0),JA,JA⟩⟩
@[irreducible] def shw (r:Rat):Array Value:=words (rs r.num)++words (rs (r.den:Int))
@[simp] def Ao (r:Rat):(shw r).size=16:=by unfold shw;exact(r4 _ _).1
def En (r:Rat):shR r= .agg (shw r):=by unfold shw;rfl
def Oo (r:Rat):i8 (shw r):=by unfold shw;exact(r4 _ _).2
def veM (q:MaT):Value:= .agg (shw q.1.1++shw q.1.2)
def ceM (q:MaT):List Value:=(shw q.1.1++shw q.1.2).toList
def Ld (q:MaT):(veM q).cells.size=32/\i8 (veM q).cells:=⟨by show(shw q.1.1++shw q.1.2).size=32;rw[cQ,Ao,Ao],Wy (Oo _) (Oo _)⟩
def el_mass:El prog 39 61 32 true ceM veM where
 und:=aB
 has:=aB
 cel:=aB
 agg:=aB
 pos:=aC
 one1:=fun h=>by cases h
 small:=aC
 inf:=⟨(prog.info? 61).getD default,.agg (Array.replicate 32 (.int .u64 0)),aB,aB,aB,rfl,oDt aB⟩
 len:=fun p=>by unfold ceM;rw[bU,cQ,Ao,Ao]
 val:=fun p=>rfl
 cells:=fun p=>rfl
 one:=fun p c hc=>(Ld p).2 c hc
def Ve (q:MaT):Value.agg ((shw q.1.1++shw q.1.2).extract 0 16)=shR q.1.1:=by
 rw[En];congr 1;apply gI;have:=Ao q.1.1;simp[aI,this]
def yr (q:MaT):Value.agg ((shw q.1.1++shw q.1.2).extract 16 32)=shR q.1.2:=by
 rw[En];congr 1;apply gI;have h1:=Ao q.1.1;have h2:=Ao q.1.2;simp[aI,h1,h2]
section
variable {H B:PH} {u v w:Value}
def Zc {r:Rat} (hr:Rg r):Con prog 70 [shR r] H fun u H'=>Pl H H'/\Rp H' u r:=by
 obtain⟨h1,h2⟩:=U8 hr;exact(fh _ _).mono fun u H' h=>⟨h.1,h.2.rp (Ho h1).symm (Ho h2).symm⟩
def yt {x y:Value} {r q:Rat} (hx:Rp H x r) (hy:Rp H y q) (hr:Rg r) (hq:Rg q):Con prog 71 [x,y] H fun u H'=>Pl H H'/\u=ii (sgR r q):=by
 obtain⟨j,hj,hr⟩:=hr;obtain⟨k,hk,hq⟩:=hq;exact IP hx hy hr hq aA
def OJ (v:Value):Asks prog 45 [v,ii 0] H v:=by
 refine g9 mixed d3S ?_;refine b9 ?_;refine j1 (bF (p:=(0:Int)≠0) aD) ?_;exact c9 rfl ⟨rfl,rfl⟩
def OK {a b:Rat} (ha:Rg a) (hb:Rg b):j5 prog 46 [shR a,shR b] H (.tuple #[ii (sgR a b),ii 0]):=
 (S9 _ _ _ _).mono fun u H' h=>⟨h.1,by
  rw[h.2,uz ha,uz hb,fj ha,fj hb];unfold ux;rw[if_pos (show(true&&true)=true from rfl)];rfl⟩
def c2D:q8 prog 64=true:=aB
def b8n (a b:MaT):j5 prog 64 [veM a,veM b] H (ii (sgR a.1.1 b.1.1)):=by
 refine g9 mixed c7N ?_;refine b4 (Ld a) ?_;refine b4 (Ld b) ?_;refine i9 (OK a.2.1 b.2.1) (j0 (Ve a) (Ve b)) fun H1 l1=> ?_;simp only[cA,nA];refine g7 (g7 ?_);refine s7 (OJ _) rfl ?_;simp only[cA,nA];exact c9 rfl ⟨l1,rfl⟩
def sgR_neg {a b:Rat}:sgR a b<0↔a<b:=by
 unfold sgR;split
 ·rename_i h;exact⟨fun _=>h,fun _=>aC⟩
 ·rename_i h;split<;>exact⟨fun e=>absurd e aC,fun e=>absurd e h⟩
def c7P:Go.Sort.SWO (Go.Proofs.ltOf fun x y:MaT=>sgR x.1.1 y.1.1) where
 irrefl:=fun x=>by unfold Go.Proofs.ltOf;rw[decide_eq_false_iff_not,sgR_neg];exact Rat.lt_irrefl
 trans:=fun x y z h1 h2=>by
  unfold Go.Proofs.ltOf at*;rw[oDi,sgR_neg]at*
  grind
 ntrans:=fun x y z h1 h2=>by
  unfold Go.Proofs.ltOf at*;rw[decide_eq_false_iff_not,sgR_neg,Rat.not_lt]at*;exact Rat.le_trans h2 h1
def c7Q {g:FuncId} {l:List MaT} (eg:q8 prog g=true) (oW:Pl B H) (ho:SO B H 61 32 ceM v l) (h0:l≠[]) (hl:l.length<=1000000) (h:∀x y,j5 prog g [veM x,veM y] B (ii (sgR x.1.1 y.1.1))):
  Con prog 63 [v,.func (.func g) #[] #[]] H fun _ H'=>Pl B H'/\∃m:List MaT,m.Perm l/\m.Pairwise (fun a b=>¬sgR b.1.1 a.1.1<0)/\SO B H' 61 32 ceM v m:=by
 refine g9 mixed d4a ?_;have vJ:blen l.length<4611686018427387904:=aR (blen_le (k:=20) aA) aC;refine Gt el_mass rfl rfl ho.se rfl ?_;refine b9 ?_;refine Bn (c1q (s:=l.length) (by simp only[M64];omega)) (j7 (Ob rfl (by simp only[M64];omega))) ?_;simp only[cA,nA];refine g5 (c7C (P:=prog) (ρ:=Tryz.srtM_ren) (k:=32) Tryz.srtM (e0D aB aB) (e0E (n:=32) aB aB) el_mass.len (fun x=>(Ld x).2) c7P (g:=g) (cb:= #[]) eg oW ho h0 aA (fun x y=>h x y) (blen l.length) vJ) rfl ?_;rintro _ H8 ⟨l8,m,vC,zA,o8⟩;refine nmI ?_;simp only[cA,nA];exact c9 rfl ⟨l8,m,vC,zA,o8⟩
end
end Go.Z
namespace Go.GS
def qN (c n:Nat):Rat:=Rat.divInt ((c:Nat):Int) ((n:Nat):Int)
def OL {a b n:Nat} (h:0<n):qN a n+qN b n=qN (a+b) n:=by
 unfold qN;rw[Rat.divInt_eq_div,Rat.divInt_eq_div,Rat.divInt_eq_div,dD,Rat.intCast_add];have h2:(((n:Nat):Int):Rat)≠0:=fun e=>by
  have:=Rat.intCast_inj.1 (e.trans (show(0:Rat)=((0:Int):Rat)from rfl));omega
 grind
def d7S {n:Nat} (h:0<n):qN n n=1:=by
 unfold qN;rw[Rat.divInt_eq_div];have h2:(((n:Nat):Int):Rat)≠0:=fun e=>by
  have:=Rat.intCast_inj.1 (e.trans (show(0:Rat)=((0:Int):Rat)from rfl));omega
 grind
end Go.GS
namespace Go.Z
open Proofs.Tryz RowKit RX GS RZ WD
def Zd {c n:Nat} (hn:0<n) (h1:c<2^20) (h2:n<2^20):Rb 20 (qN c n):=Q8 aA aA aA
def Ze {c n:Nat} (hn:0<n) (h1:c<2^20) (h2:n<2^20):Rg (qN c n):=U7 (Zd hn h1 h2) aC
def Qy {H:PH} {v:Value} {r:Rat} (h:Rp H v r):Value.agg v.cells=v:=by
 obtain⟨w1,w2,rfl,_⟩:=h;rfl
def TalP (l:List Rat) (m:List MaT):Prop:=m.Pairwise (fun a b=>a.1.1<b.1.1)/\∀q:Rat×Rat,(∃x∈m,x.1=q)↔(q.1∈l/\q.2=qN (l.count q.1) l.length)
def d4c {l:List Rat} {m:List MaT} (uE:(m.map fun q=>q.1.1).Nodup) (rD:∀r,r∈(m.map fun q=>q.1.1)↔r∈l) (hp:∀q∈m,q.1.2=qN (l.count q.1.1) l.length) (hs:m.Pairwise (fun a b=>¬sgR b.1.1 a.1.1<0)):TalP l m:=by
 constructor
 ·rw[cS]at hs⊢;intro i j hi hj uQ;have h1:=hs i j hi hj uQ;rw[sgR_neg,Rat.not_lt]at h1;have h2:m[i].1.1≠m[j].1.1:=fun e=>by
   have:=(cS.1 uE) i j (by simpa using hi) (by simpa using hj) uQ;simp only[List.getElem_map]at this;exact this e
  exact Rat.lt_of_le_of_ne h1 h2
 ·intro q;constructor
  ·rintro⟨x,hx,rfl⟩;exact⟨(rD _).1 (bK.2 ⟨x,hx,rfl⟩),hp x hx⟩
  ·rintro⟨h1,h2⟩;obtain⟨x,hx,hxe⟩:=bK.1 ((rD _).2 h1);refine⟨x,hx,Prod.ext hxe ?_⟩;rw[hp x hx,h2,hxe]
def TalP.ne {l:List Rat} {m:List MaT} (h:TalP l m) (hl:l≠[]):m≠[]:=fun e=>by
 subst e;obtain⟨a,t,rfl⟩:=List.exists_cons_of_ne_nil hl;obtain⟨x,hx,_⟩:=(h.2 (a,qN ((a::t).count a) (a::t).length)).2 ⟨aD,rfl⟩;cases hx
def TalP.uniq {l:List Rat}:∀{m k:List MaT},TalP l m->TalP l k->m=k:=by
 have key:∀(m k:List MaT),m.Pairwise (fun a b=>a.1.1<b.1.1)->k.Pairwise (fun a b=>a.1.1<b.1.1)->(∀x,x∈m↔x∈k)->m=k:=by
  intro m;induction m with
  |nil=>
   intro k _ _ h;cases k with
   |nil=>rfl
   |cons a k=>exact absurd ((h a).2 aD) aD
  |cons a m ih=>
   intro k hm hk h;cases k with
   |nil=>exact absurd ((h a).1 aD) aD
   |cons b k=>
    rw[List.pairwise_cons]at hm hk;have tY:a=b:=by
     rcases aX.1 ((h a).1 aD)with e|e
     ·exact e
     ·rcases aX.1 ((h b).2 aD)with e2|e2
      ·exact e2.symm
      ·have h1:=hk.1 a e;have h2:=hm.1 b e2;exact absurd h1 (Rat.not_lt.2 (Rat.le_of_lt h2))
    subst tY;congr 1;refine ih k hm.2 hk.2 fun x=> ?_;constructor
    ·intro hx;rcases aX.1 ((h x).1 (dR _ hx))with e|e
     ·subst e;exact absurd (hm.1 x hx) Rat.lt_irrefl
     ·exact e
    ·intro hx;rcases aX.1 ((h x).2 (dR _ hx))with e|e
     ·subst e;exact absurd (hk.1 x hx) Rat.lt_irrefl
     ·exact e
 intro m k hm hk;refine key m k hm.1 hk.1 fun x=> ?_;constructor
 ·intro hx;obtain⟨y,hy,sO⟩:=(hk.2 x.1).2 ((hm.2 x.1).1 ⟨x,hx,rfl⟩);exact(Subtype.ext sO) ▸ hy
 ·intro hx;obtain⟨y,hy,sO⟩:=(hm.2 x.1).2 ((hk.2 x.1).1 ⟨x,hx,rfl⟩);exact(Subtype.ext sO) ▸ hy
section
variable {H B:PH} {u v w e:Value} {l:List Rat} {i:Nat}
def Le (r:Rat):(shR r).cells=shw r:=by rw[En];rfl
def Qz:Sc prog 4:=⟨aB,aB,aB⟩
end
end Go.Z

/- Lemmas of the proof. -/
import Derived.Test.YtmannekkmdockaaGreatDoorRxF
open List renaming prefix_append->eT
open Option renaming isSome_iff_exists->gU,map_eq_some_iff->eY,some->fC
namespace Go.RX
open RowKit
def Am:List Value->Value
 |[x]=>x
 |l=> .tuple l.toArray
def PH.put (H:PH) (b:Nat) (o:Obj):PH:=fun k=>if k=b then some o else H k
def PH.or (X K:PH):PH:=fun b=>match X b with|some o=>some o|none=>K b
def Disj (X K:PH):Prop:=∀b,X b≠none->K b=none
def Da (P:Program) (f:FuncId):Bool:=match P.funcs[f]? with|some fn=>fn.body.isSome&& !(fn.name== "runtime.NumGoroutine")|none=>false
theorem fj {P:Program} {f:FuncId} (h:Da P f=true) (args:Array Value) (w:World):(callFunc f args).run P w= .ok (.enter f args) w:=by
 unfold Da at h;split at h
 ·rename_i fn hf;rw[bA]at h;obtain⟨h1,h2⟩:=h;unfold callFunc;have h2:(fn.name== "runtime.NumGoroutine")=false:=by simpa using h2
  have h1:fn.body.isNone=false:=by cases hb:fn.body<;>simp_all
  simp[hf];rw[if_neg (by simpa using h2),if_neg (fun e=>by simp[e]at h1)]
 ·cases h
def ui (P:Program) (l:Nat) (xs:List Value) (X K:PH) (V:Value->PH->Prop):Prop:=
 ∀w,(X.or K).In w->∃fn tmps asg body,(Instr.yield l xs.toArray).run P w= .ok (.round l fn tmps asg body) w/\
  RoundIn Fence.wide 0 P l fn tmps asg body w fun e w'=>∃v X',e= .returned v/\Step (X.or K) w (X'.or K) w'/\Disj X' K/\V v X'
def ItC (P:Program) (f:FuncId) (caps:List Value) (Ro K:PH) (E:List (List Value)->List Value->Prop) (S Sp:List (List Value)->PH->Prop):Prop:=
 ∀(l:Nat) (J Jx:List (List Value)->PH->Prop),
  (∀pre X,J pre X->Pl Ro X)->
  (∀pre xs X K',E pre xs->J pre X->Disj X K'->ui P l xs X K' fun v X'=>(v= .bool true/\J (pre++[xs]) X')\/(v= .bool false/\Jx (pre++[xs]) X'))->
  ∀X,J [] X->Disj X K->∀w,(X.or K).In w->Calls P f ((.func (.yield l) #[] #[]::caps).toArray) w fun e w'=>∃v H',e= .returned v/\Step (X.or K) w H' w'/\
   ∃X' K',Pl (X'.or K') H'/\Disj X' K'/\((∃xs,S xs K'/\J xs X')\/(∃pre,Sp pre K'/\Jx pre X'))
def den (P:Program) (G:Value->PH->Prop):Tree->List (List Value->PH->Prop)->List Value->PH->Prop
 | .ret l,_,ρ,H=>G (Am (l.map (D P ρ))) H
 | .rq r t,nx,ρ,H=>r.holds P ρ/\den P G t nx ρ H
 | .br c t e,nx,ρ,H=>(D P ρ c= .bool true->den P G t nx ρ H)/\(D P ρ c= .bool false->den P G e nx ρ H)
 | .call pf f args t,nx,ρ,H=>∀w,H.In w->Calls P f (args.map (D P ρ)).toArray w fun e w'=>∃v H',e= .returned v/\Step H w H' w'/\(pf=true->Pl H H')/\den P G t nx (ρ++[v]) H'
 | .prim _ _ o args t,nx,ρ,H=>∃v,(∀w,H.In w->(execOp (g8 o.op.operands.toList (args.map (D P ρ))) o).run P w= .ok (.value v) w)/\den P G t nx (ρ++[v]) H
 | .eff pf _ _ o args t,nx,ρ,H=>∀w,H.In w->Stp P o (g8 o.op.operands.toList (args.map (D P ρ))) w fun v w'=>∃H',Step H w H' w'/\(pf=true->Pl H H')/\den P G t nx (ρ++[v]) H'
 | .ext f args t,nx,ρ,H=>∃v,(∀w,H.In w->(callFunc f (args.map (D P ρ)).toArray).run P w= .ok (.value v) w)/\den P G t nx (ρ++[v]) H
 | .mk _ _ o args t,nx,ρ,H=>∃(mk:Nat->Value) (ob:Obj),(∀w,(execOp (g8 o.op.operands.toList (args.map (D P ρ))) o).run P w= .ok (.value (mk w.heap.size)) (w.alloc ob))/\∀b,H b=none->den P G t nx (ρ++[mk b]) (H.put b ob)
 | .pub T c t,nx,ρ,H=>∀b,H b=none->den P G t nx (ρ++[.pointer (some ⟨b,0,none⟩)]) (H.put b (.cells (D P ρ c).cells T (0,0)))
 | .dead _,_,_,_=>False
 | .both t u,nx,ρ,H=>den P G t nx ρ H/\den P G u nx ρ H
 | .loop ini t,nx,ρ,H=>∃(I:List Value->PH->Prop) (μ:List Value->PH->Nat),I (ini.map (D P ρ)) H/\
   ∀vals H',vals.length=ini.length->I vals H'->den P G t (nx++[fun l h=>I l h/\μ l h<μ vals H']) (ρ++vals) H'
 | .next d l,nx,ρ,H=>(nx.getD d fun _ _=>False) (l.map (D P ρ)) H
 | .join n t u,nx,ρ,H=>∃J:List Value->PH->Prop,den P G t (nx++[J]) ρ H/\∀vals H',vals.length=n->J vals H'->den P G u nx (ρ++vals) H'
 | .rf g np ini tb ta te,nx,ρ,H=>∃(f:FuncId) (caps:List Value) (X K Ro:PH) (E:List (List Value)->List Value->Prop) (S Sp:List (List Value)->PH->Prop) (I Ix:List (List Value)->List Value->PH->Prop),
   D P ρ g= .func (.func f) #[] caps.toArray/\Da P f=true/\H=X.or K/\Disj X K/\ItC P f caps Ro K E S Sp/\(∀pre vals X',I pre vals X'->Pl Ro X')/\I [] (ini.map (D P ρ)) X/\
   (∀pre xs vals X',E pre xs->vals.length=ini.length->I pre vals X'->xs.length=np/\den P G tb (nx++[fun v h=>I (pre++[xs]) v h,fun v h=>Ix (pre++[xs]) v h]) (ρ++(xs++vals)) X')/\
   (∀xs vals X' K',S xs K'->Disj X' K'->vals.length=ini.length->I xs vals X'->den P G ta nx (ρ++vals) (X'.or K'))/\
   (∀pre vals X' K',Sp pre K'->Disj X' K'->vals.length=ini.length->Ix pre vals X'->den P G te nx (ρ++vals) (X'.or K'))
section
variable {P:Program} {G:Value->PH->Prop} {w0:Cx}
variable {ρ:List Value} {β:Nat->Nat} {st:St} {a:Act} {W:World} {H:PH}
theorem Mt.set (m:Mt P w0 ρ β st a W) {s:SL} {v:Value} (hv:ML P ρ β s v) (hp:∀b q t i,s= .p b q t i->b<st.bl.length) (d:Option Tmp):Mt P w0 ρ β (st.set d s) (a.put d v) W:=by
 cases d with
 |none=>exact m
 |some t=>
  have hb:(st.set (some t) s).bl=st.bl:=rfl;refine{sz:= ?_,sl:= ?_,pb:= ?_,df:=m.df,n:=m.n,bl:=m.bl,inj:=m.inj,own:=m.own,sep:=m.sep,fr:=m.fr,kp:=m.kp,rd:=m.rd,kle:=m.kle,ag:=m.ag,ln:=m.ln,kpH:=m.kpH,kpB:=m.kpB,kn:=m.kn,kb:=m.kb}
  ·simpa[Act.put,St.set]using m.sz
  ·intro u s' qV;simp only[St.set,dH]at qV;simp only[Act.put];split at qV
   ·rename_i e;subst e;split at qV
    ·rename_i pX;simp only[dM]at qV;subst qV;exact⟨v,by rw[dI (by rw[m.sz];exact pX)],hv⟩
    ·cases qV
   ·rename_i qC;obtain⟨x,hx,hm⟩:=m.sl u s' qV;exact⟨x,by rw[dK qC];exact hx,hm⟩
  ·intro u b o' s' i qV;simp only[St.set,dH]at qV;split at qV
   ·split at qV
    ·simp only[dM]at qV;exact hp b o' s' i qV
    ·cases qV
   ·exact m.pb u b o' s' i qV
theorem ZQ {β β':Nat->Nat} {n:Nat} (h:∀i,i<n->β' i=β i) {s:SL} {v:Value} (hp:∀b q t i,s= .p b q t i->b<n) (hm:ML P ρ β s v):ML P ρ β' s v:=by
 cases s with
 |x s=>exact hm
 |p b o s i=>simp only[ML]at hm⊢;rw[h b (hp b o s i rfl)];exact hm
 |u=>trivial
theorem Mt.newB (m:Mt P w0 ρ β st a W) {W':World} (hx:Ext W W') {c:SV} {T n b:Nat} (hb:W'.heap[b]? =some (.cells (D P ρ c).cells T (0,0))) (hn:(D P ρ c).cells.size=n) (h1:o0 (D P ρ c).cells)
  (qC:∀i,i<st.bl.length->β i≠b) (hw:w0.w.heap.size<=b) (hH:w0.H b=none) (hK:w0.K b=none) (d:Option Tmp):
  Mt P w0 ρ (fun i=>if i=st.bl.length then b else β i) (St.set {st with bl:=st.bl++[Blk.mk c T n]} d (.p st.bl.length 0 0 noI)) (a.put d (.pointer (some ⟨b,0,none⟩))) W':=by
 have m':=m.ext hx;have hβ:∀i,i<st.bl.length->(fun i=>if i=st.bl.length then b else β i) i=β i:=fun i hi=>by simp only;rw[if_neg aA]
 have base:Mt P w0 ρ (fun i=>if i=st.bl.length then b else β i) {st with bl:=st.bl++[Blk.mk c T n]} a W':=by
  refine{sz:=m'.sz,sl:= ?_,pb:= ?_,df:=m'.df,n:=m'.n,bl:= ?_,inj:= ?_,own:= ?_,sep:= ?_,fr:=m'.fr,kp:=m'.kp,rd:=m'.rd,kle:=m'.kle,ag:=fun i hi=> ?_,ln:=by simp;have:=m'.ln;omega,kpH:=m'.kpH,kpB:= ?_,kn:=m'.kn,kb:=m'.kb}
  ·intro t s hs;obtain⟨v,hv,hm⟩:=m'.sl t s hs;exact⟨v,hv,ZQ hβ (fun b q t' i e=>m'.pb t b q t' i (by rw[<-e];exact hs)) hm⟩
  ·intro t b' o' s' i hs;have:=m'.pb t b' o' s' i hs;simp;omega
  ·intro b' B hB;by_cases rJ:b'<st.bl.length
   ·rw[bS rJ]at hB;simp only[hβ b' rJ];exact m'.bl b' B hB
   ·rw[bV aA]at hB;have h0:b'-st.bl.length=0:=by
     rcases eC (b'-st.bl.length)with h|h
     ·exact h
     ·rw[aW (by simp;omega)]at hB;cases hB
    rw[h0]at hB;simp at hB;subst hB;rw[if_pos aA];exact⟨hb,hn,h1⟩
  ·intro i j hi hj tG;simp only[aM,aO,bX]at hi hj;split at tG<;>split at tG
   ·omega
   ·rename_i h1 h2;exact absurd tG.symm (qC j aA)
   ·rename_i h1 h2;exact absurd tG (qC i aA)
   ·exact m'.inj i j aA aA tG
  ·intro i hi;simp only[aM,aO,bX]at hi;split
   ·exact .inl hw
   ·exact m'.own i aA
  ·intro i hi;simp only[aM,aO,bX]at hi;split
   ·exact hH
   ·exact m'.sep i aA
  ·have:=m'.ln;rw[if_neg aA];exact m'.ag i hi
  ·intro i hi;simp only[aM,aO,bX]at hi;split
   ·exact hK
   ·exact m'.kpB i aA
 refine base.set ?_ ?_ d
 ·simp[ML]
 ·rintro b' q t i h;cases h;simp
theorem Mt.bind (m:Mt P w0 ρ β st a W) (qU:Dj st=true) (v:Value) (d:Option Tmp):Mt P w0 (ρ++[v]) β (Gi st d) (a.put d v) W:=by
 unfold Dj at qU;simp only[bA,dE]at qU;obtain⟨⟨⟨h1,h2⟩,h3⟩,h4⟩:=qU;have hn:=m.n;have base:Mt P w0 (ρ++[v]) β {st with n:=st.n+1} a W:=by
  refine{sz:=m.sz,sl:= ?_,pb:=m.pb,df:=m.df,n:=by simp[hn],bl:= ?_,inj:=m.inj,own:=m.own,sep:=m.sep,fr:=m.fr,kp:=m.kp,rd:=m.rd,kle:=m.kle,ag:=m.ag,ln:=m.ln,kpH:=m.kpH,kpB:=m.kpB,kn:= ?_,kb:= ?_}
  ·intro t s hs;obtain⟨x,hx,hm⟩:=m.sl t s hs;refine⟨x,hx,?_⟩;have hl:=h1 s (aG hs);rw[<-hn]at hl;cases s with
   |x s=>simp only[ML,SL.lt]at hm hl⊢;rw[Hq P ρ [v] s hl];exact hm
   |p b o s i=>simp only[ML,SL.lt]at hm hl⊢;rw[Hq P ρ [v] i hl];exact hm
   |u=>trivial
  ·intro b B hB;have hl:=h2 B (aG hB);rw[<-hn]at hl;rw[Hq P ρ [v] B.c hl];exact m.bl b B hB
  ·intro r hr;have hl:=h3 r hr;rw[<-hn]at hl;exact(FG P ρ [v] r hl).2 (m.kn r hr)
  ·intro p hp;have hl:=h4 p hp;rw[<-hn]at hl;rw[Hq P ρ [v] p.1 hl];exact m.kb p hp
 refine base.set ?_ ?_ d
 ·show v=(ρ++[v]).getD st.n undef;rw[<-hn];simp
 ·rintro b q t i h;cases h
theorem Mt.sto (m:Mt P w0 ρ β st a W) {b:Nat} {B:Blk} (hB:st.bl[b]? =some B) {c:SV} (hn:(D P ρ c).cells.size=B.n) (h1:o0 (D P ρ c).cells) (d:Option Tmp):
  Mt P w0 ρ β (St.set {st with bl:=st.bl.set b {B with c:=c}} d (.x (.k undef))) (a.put d undef) (W.setRow (β b) (D P ρ c).cells):=by
 have pX:b<st.bl.length:=(aH.1 hB).1;have hb:=(m.bl b B hB).1;have base:Mt P w0 ρ β {st with bl:=st.bl.set b {B with c:=c}} a (W.setRow (β b) (D P ρ c).cells):=by
  refine{sz:=m.sz,sl:=m.sl,pb:= ?_,df:=m.df,n:=m.n,bl:= ?_,inj:= ?_,own:= ?_,sep:= ?_,fr:= ?_,kp:=fun k ob hk=> ?_,rd:=m.rd,kle:=m.kle,ag:=m.ag,ln:=by simpa using m.ln,kpH:=m.kpH,kpB:=fun i hi=>m.kpB i (by simpa using hi),kn:=m.kn,kb:=m.kb}
  ·intro t b' o' s' i hs;have:=m.pb t b' o' s' i hs;simpa using this
  ·intro b' B' uN;simp only[dH]at uN;split at uN
   ·rename_i e;subst e;simp only[dM]at uN;subst uN;exact⟨setRow_heap W (β b) _ _ B.T (0,0) hb,hn,h1⟩
   ·rename_i qC;obtain⟨g1,g2⟩:=m.bl b' B' uN;refine⟨?_,g2⟩;rw[setRow_other]
    ·exact g1
    ·intro e;exact qC (m.inj b b' pX (aH.1 uN).1 e.symm)
  ·intro i j hi hj;simp only[cJ]at hi hj;exact m.inj i j hi hj
  ·intro i hi;simp only[cJ]at hi;exact m.own i hi
  ·intro i hi;simp only[cJ]at hi;exact m.sep i hi
  ·refine⟨m.fr.os,m.fr.tape,m.fr.output,by simpa using m.fr.size,fun k hk hn=> ?_,fun k ob hk=> ?_,m.fr.dom,m.fr.dr⟩
   ·rw[setRow_other _ _ _ _ (fun e=>by
     rcases m.own b pX with h|h
     ·omega
     ·rw[e]at hn;exact h hn)];exact m.fr.block k hk hn
   ·rw[setRow_other _ _ _ _ (fun e=>by have:=m.sep b pX;rw[e,this]at hk;cases hk)];exact m.fr.holds k ob hk
  ·rw[setRow_other _ _ _ _ (fun e=>by have:=m.kpB b pX;rw[e,this]at hk;cases hk)];exact m.kp k ob hk
 exact base.set (s:= .x (.k undef)) (v:=undef) rfl (by rintro b q t i h;cases h) d
theorem Mt.lt (m:Mt P w0 ρ β st a W) {i:Nat} (hi:i<st.bl.length):β i<W.heap.size:=by
 obtain⟨B,hB⟩:∃B,st.bl[i]? =some B:=⟨_,aJ hi⟩;exact Di (m.bl i B hB).1
theorem Mt.step (m:Mt P w0 ρ β st a W) {H':PH} {W':World} (hs:Step w0.H W H' W'):Mt P {w0 with H:=H'} ρ β st a W':=
 {m with
  bl:=fun b B hB=>by
   have pX:b<st.bl.length:=(aH.1 hB).1;obtain⟨h1,h2⟩:=m.bl b B hB;exact⟨by rw[hs.block _ (m.lt pX) (m.sep b pX)];exact h1,h2⟩
  sep:=fun b hb=>by
   cases e:H' (β b)with
   |none=>exact e
   |some o=>
    rcases hs.dom (β b) (by simp[e])with h|h
    ·exact absurd (m.sep b hb) h
    ·have:=m.lt hb;omega
  fr:=m.fr.trans hs
  kp:=fun k ob hk=>by
   rw[hs.block k (Di (m.kp k ob hk)) (m.kpH k (by rw[show w0.K k=some ob from hk];simp))];exact m.kp k ob hk
  kpH:=fun k hk=>by
   cases e:H' k with
   |none=>exact e
   |some o=>
    rcases hs.dom k (by simp[e])with h|h
    ·exact absurd (m.kpH k hk) h
    ·cases e2:w0.K k with
     |none=>exact absurd e2 hk
     |some o2=>have:=Di (m.kp k o2 e2);omega}
theorem Mt.grow (m:Mt P w0 ρ β st a W) {H':PH} (qP:H'.In W) (a4c:∀b,b<st.bl.length->H' (β b)=none) (tL:∀b,H' b≠none->w0.H b≠none\/w0.w.heap.size<=b) (hK:∀k,w0.K k≠none->H' k=none):Mt P {w0 with H:=H'} ρ β st a W:=
 {m with
  sep:=a4c
  kpH:=hK
  fr:=⟨m.fr.os,m.fr.tape,m.fr.output,m.fr.size,m.fr.block,qP,fun b hb=>(tL b hb).elim (m.fr.dom b) .inr,m.fr.dr⟩}
theorem PH.put_in {H:PH} {w:World} {b:Nat} {o:Obj} (h:H.In w) (hb:w.heap[b]? =some o):(H.put b o).In w:=fun k ob hk=>by
 unfold PH.put at hk;split at hk
 ·rename_i e;subst e;cases hk;exact hb
 ·exact h k ob hk
theorem Mt.grown {W':World} (m:Mt P w0 ρ β st a W) {b:Nat} {ob:Obj} (hx:Ext W W') (sV:W'.heap[b]? =some ob) (hb:W.heap.size<=b):Mt P {w0 with H:=w0.H.put b ob} ρ β st a W':=by
 refine(m.ext hx).grow (H':=w0.H.put b ob) (PH.put_in (m.fr.holds.ext hx) sV) (fun b' rJ=> ?_) (fun b' rJ=> ?_) (fun k hk=> ?_)
 ·unfold PH.put;rw[if_neg (by have:=m.lt rJ;omega)];exact m.sep b' rJ
 ·unfold PH.put at rJ;split at rJ
  ·rename_i e;subst e;exact .inr (bD m.fr.size hb)
  ·exact .inl rJ
 ·unfold PH.put;rw[if_neg (fun e=>by
   cases e2:w0.K k with
   |none=>exact hk e2
   |some o2=>have:=Di (m.kp k o2 e2);omega)]
  exact m.kpH k hk
theorem Mt.know (m:Mt P w0 ρ β st a W) {c:SV} {b:Bool} (h:D P ρ c= .bool b):Mt P w0 ρ β (st.know P c b) a W:=by
 refine{m with kb:= ?_};intro p hp;simp only[St.know,aQ]at hp;rcases hp with hp|hp
 ·split at hp
  ·rename_i x;split at hp
   ·rename_i yA;obtain⟨b',rJ⟩:∃b',D P ρ x= .bool b':=FS m.kn yA;simp only[aP,bP,or_false]at hp;rcases hp with rfl|rfl
    ·exact h
    ·simp only[D,rJ,Gh,Value.bool.injEq]at h;rw[<-h];simp[rJ]
   ·simp only[aP,bP,or_false]at hp;subst hp;exact h
  ·simp only[aP,bP,or_false]at hp;subst hp;exact h
 ·exact m.kb p hp
structure More (st st':St):Prop where
 es:st'.es=st.es
 js:st'.js=st.js
 rd:st'.rd=st.rd
 sl:st'.sl=st.sl
 bl:st'.bl=st.bl
 kb:st'.kb=st.kb
 n:st'.n=st.n
 d:st'.d=st.d
theorem More.refl (st:St):More st st:=⟨rfl,rfl,rfl,rfl,rfl,rfl,rfl,rfl⟩
theorem Mt.more (m:Mt P w0 ρ β st a W) {st':St} (h:More st st') (hk:∀r∈st'.kn,r.holds P ρ):Mt P w0 ρ β st' a W:=
 {sz:=by rw[h.sl];exact m.sz,sl:=by rw[h.sl];exact m.sl,pb:=by rw[h.sl,h.bl];exact m.pb,df:=m.df,n:=by rw[h.n];exact m.n,bl:=by rw[h.bl];exact m.bl,inj:=by rw[h.bl];exact m.inj,own:=by rw[h.bl];exact m.own,sep:=by rw[h.bl];exact m.sep,fr:=m.fr,kp:=m.kp,rd:=by rw[h.rd];exact m.rd,kle:=m.kle,ag:=m.ag,ln:=by rw[h.bl];exact m.ln,kpH:=m.kpH,kpB:=by rw[h.bl];exact m.kpB,kn:=hk,kb:=by rw[h.kb];exact m.kb}
theorem Uc {nx:List (List Value->PH->Prop)} {k:St->Option Tree}:∀{rs:List Rq} {st:St} {t:Tree},Ho P rs st k=some t->(∀r∈st.kn,r.holds P ρ)->den P G t nx ρ H->
  ∃st' t',More st st'/\(∀r∈st'.kn,r.holds P ρ)/\(∀r∈rs,r.holds P ρ)/\k st'=some t'/\den P G t' nx ρ H:=by
 intro rs;induction rs with
 |nil=>intro st t h hk hd;exact⟨st,t,More.refl st,hk,aD,h,hd⟩
 |cons r rs ih=>
  intro st t h hk hd;simp only[Ho]at h;split at h
  ·rename_i he;obtain⟨st',t',h1,h2,h3,h4,h5⟩:=ih h hk hd;refine⟨st',t',h1,h2,fun q hq=> ?_,h4,h5⟩;rcases aP.1 hq with rfl|hq
   ·exact FS hk he
   ·exact h3 q hq
  ·rw[eY]at h;obtain⟨t1,h,rfl⟩:=h;obtain⟨hr,hd⟩:=hd;obtain⟨st',t',h1,h2,h3,h4,h5⟩:=ih h (fun q hq=>by
    rcases aP.1 hq with rfl|hq
    ·exact hr
    ·exact hk q hq) hd
   refine⟨st',t',⟨h1.es,h1.js,h1.rd,h1.sl,h1.bl,h1.kb,h1.n,h1.d⟩,h2,fun q hq=> ?_,h4,h5⟩;rcases aP.1 hq with rfl|hq
   ·exact hr
   ·exact h3 q hq
def GI (P:Program) (G:Value->PH->Prop) (nx:List (List Value->PH->Prop)) (ρ:List Value) (β:Nat->Nat) (st:St) (a:Act) (W:World) (H:PH) (pf:Bool) (o:Oper) (k:St->Option Tree):Prop:=
 ∃st',More st st'/\(∀r∈st'.kn,r.holds P ρ)/\uh P ρ β st a W o (Br P st o).2/\
  match(Br P st o).2 with
  | .val s=>∃t,k (st'.set o.dst s)=some t/\den P G t nx ρ H
  | .new c T n=>(∃t,Xi st o.dst=true/\Dj st'=true/\k (Gi st' o.dst)=some t/\∀b,H b=none->den P G t nx (ρ++[.pointer (some ⟨b,0,none⟩)]) (H.put b (.cells (D P ρ c).cells T (0,0))))\/
    (∃t,k (St.set {st' with bl:=st'.bl++[Blk.mk c T n]} o.dst (.p st'.bl.length 0 0 noI))=some t/\den P G t nx ρ H)
  | .sto b c=>∃B t,st.bl[b]? =some B/\k (St.set {st' with bl:=st'.bl.set b {B with c:=c}} o.dst (.x (.k undef)))=some t/\den P G t nx ρ H
  | .call f args=>∃t,Dj st'=true/\k (Gi st' o.dst)=some t/\∀w,H.In w->Calls P f (args.map (D P ρ)).toArray w fun e w'=>∃v H',e= .returned v/\Step H w H' w'/\(pf=true->Pl H H')/\den P G t nx (ρ++[v]) H'
  | .prim args=>∃t v,Dj st'=true/\k (Gi st' o.dst)=some t/\(∀w,H.In w->(execOp (g8 o.op.operands.toList (args.map (D P ρ))) o).run P w= .ok (.value v) w)/\den P G t nx (ρ++[v]) H
  | .eff args=>∃t,Dj st'=true/\k (Gi st' o.dst)=some t/\∀w,H.In w->Stp P o (g8 o.op.operands.toList (args.map (D P ρ))) w fun v w'=>∃H',Step H w H' w'/\(pf=true->Pl H H')/\den P G t nx (ρ++[v]) H'
  | .ext f args=>∃t v,Dj st'=true/\k (Gi st' o.dst)=some t/\(∀w,H.In w->(callFunc f (args.map (D P ρ)).toArray).run P w= .ok (.value v) w)/\den P G t nx (ρ++[v]) H
  | .mk args=>∃t,Dj st'=true/\k (Gi st' o.dst)=some t/\∃(mk:Nat->Value) (ob:Obj),(∀w,(execOp (g8 o.op.operands.toList (args.map (D P ρ))) o).run P w= .ok (.value (mk w.heap.size)) (w.alloc ob))/\∀b,H b=none->den P G t nx (ρ++[mk b]) (H.put b ob)
  | .bad=>False
theorem GK {nx:List (List Value->PH->Prop)} {k:St->Option Tree} {pf:Bool} {id i:Nat} {o:Oper} {t:Tree} (m:Mt P w0 ρ β st a W) (h:eu P pf id i o st k=some t) (hd:den P G t nx ρ H):GI P G nx ρ β st a W H pf o k:=by
 unfold eu at h;have hs:=ZP m o;unfold Snd at hs;unfold GI;generalize Br P st o=p at h hs⊢;obtain⟨rs,r⟩:=p;simp only at h hs⊢;obtain⟨st',t',h1,h2,h3,h4,h5⟩:=Uc h m.kn hd;have hs:=hs h3;refine⟨st',h1,h2,hs,?_⟩;cases r with
 |val s=>exact⟨t',h4,h5⟩
 |new c T n=>
  simp only at h4⊢;split at h4
  ·rename_i he;have he':Xi st o.dst=true:=by unfold Xi at he⊢;rw[h1.es]at he;exact he
   split at h4
   ·rename_i qU;rw[bA]at qU;rw[eY]at h4;obtain⟨t1,h4,rfl⟩:=h4;exact .inl ⟨t1,he',qU.1,h4,h5⟩
   ·cases h4
  ·exact .inr ⟨t',h4,h5⟩
 |sto b c=>
  simp only[h1.bl]at h4;have qV:=hs;obtain⟨_,B,hB,_⟩:=qV;simp only[hB]at h4;refine⟨B,t',hB,?_,h5⟩;rw[h1.bl];exact h4
 |call f args=>
  simp only at h4;split at h4
  ·rename_i qU;rw[bA]at qU;rw[eY]at h4;obtain⟨t1,h4,rfl⟩:=h4;exact⟨t1,qU.1,h4,h5⟩
  ·cases h4
 |prim args=>
  simp only at h4;split at h4
  ·rename_i qU;rw[bA]at qU;rw[eY]at h4;obtain⟨t1,h4,rfl⟩:=h4;obtain⟨v,hv,hd⟩:=h5;exact⟨t1,v,qU.1,h4,hv,hd⟩
  ·cases h4
 |eff args=>
  simp only at h4;split at h4
  ·rename_i qU;rw[bA]at qU;rw[eY]at h4;obtain⟨t1,h4,rfl⟩:=h4;exact⟨t1,qU.1,h4,h5⟩
  ·cases h4
 |ext f args=>
  simp only at h4;split at h4
  ·rename_i qU;rw[bA]at qU;rw[eY]at h4;obtain⟨t1,h4,rfl⟩:=h4;obtain⟨v,hv,hd⟩:=h5;exact⟨t1,v,qU.1,h4,hv,hd⟩
  ·cases h4
 |mk args=>
  simp only at h4;split at h4
  ·rename_i qU;rw[bA]at qU;rw[eY]at h4;obtain⟨t1,h4,rfl⟩:=h4;exact⟨t1,qU.1,h4,h5⟩
  ·cases h4
 |bad=>
  simp only[dM]at h4;subst h4;exact h5
theorem GL {nx:List (List Value->PH->Prop)} {k:St->Option Tree} {pf:Bool} {ck:Nat->Oper->St->Bool} {id i:Nat} {o:Oper} {t:Tree} (h:Qu P pf ck id i o st k=some t) (hd:den P G t nx ρ H):ck i o st=true/\eu P pf id i o st k=some t:=by
 unfold Qu at h;split at h
 ·rename_i hc;exact⟨hc,h⟩
 ·simp only[dM]at h;subst h;exact hd.elim
theorem ZR (m:Mt P w0 ρ β st a W) {ops:Array Oper} {j:Nat} {c:SV} (h:((ops[j]?).bind (·.dst)).bind (fun d:Nat=>st.sl[d]?)=some (.x c)):
  yielded ops a.tmps j=match D P ρ c with| .bool b=>some b|_=>none:=by
 rw[Option.bind_eq_some_iff]at h;obtain⟨d,hd,hs⟩:=h;obtain⟨v,hv,hm⟩:=m.sl d _ hs;unfold yielded;rw[hd];simp only[Option.bind_some,hv];rw[show v=D P ρ c from hm];cases D P ρ c<;>rfl
theorem GM {nx:List (List Value->PH->Prop)} {k:St->Option Tree} {ops:Array Oper} {pf:Bool} {ck:Nat->Oper->St->Bool} {id i:Nat} {o:Oper} {L:List Nat} {t:Tree} (m:Mt P w0 ρ β st a W) (ho:ops[i]? =some o) (h:Cc P pf ck ops id k (i::L) st=some t) (hd:den P G t nx ρ H):
  (Region.wanted o (yielded ops a.tmps)=true/\∃st' t',Mt P w0 ρ β st' a W/\st'.bl=st.bl/\st'.d=st.d/\st'.sl=st.sl/\Qu P pf ck id i o st' (Cc P pf ck ops id k L)=some t'/\den P G t' nx ρ H)\/
  (Region.wanted o (yielded ops a.tmps)=false/\∃st' t',Mt P w0 ρ β st' a W/\st'.bl=st.bl/\st'.d=st.d/\st'.sl=st.sl/\Cc P pf ck ops id k L (st'.set o.dst (.x (.k undef)))=some t'/\den P G t' nx ρ H):=by
 simp only[Cc,ho]at h;split at h
 ·rename_i hg;exact .inl ⟨by simp[Region.wanted,hg],st,t,m,rfl,rfl,rfl,h,hd⟩
 ·rename_i j want hg;split at h
  ·rename_i c hc;have hy:=ZR m hc;have hD:=uf (P:=P) (ρ:=ρ) m.kb c;have hw:Region.wanted o (yielded ops a.tmps)=(yielded ops a.tmps j==some want):=by simp[Region.wanted,hg]
   rw[hw,hy];split at h
   ·rename_i b hl;rw[hl]at hD;simp only[D]at hD;rw[<-hD];split at h
    ·rename_i hb;rw[beq_iff_eq]at hb;subst hb;exact .inl ⟨aD,st,t,m,rfl,rfl,rfl,h,hd⟩
    ·rename_i hb;exact .inr ⟨by simpa using hb,st,t,m,rfl,rfl,rfl,h,hd⟩
   ·rename_i vs hl;rw[hl]at hD;simp only[D]at hD;rw[<-hD];exact .inr ⟨aD,st,t,m,rfl,rfl,rfl,h,hd⟩
   ·generalize Oc st.kb c=c' at h hD;split at h
    ·rename_i b _;obtain⟨st',t',h1,h2,h3,h4,h5⟩:=Uc h m.kn hd;have hb:D P ρ c'= .bool b:=h3 (.isb b c') aD;have m':=m.more h1 h2;rw[<-hD,hb];split at h4
     ·rename_i hbw;rw[beq_iff_eq]at hbw;subst hbw;exact .inl ⟨aD,_,t',m'.know hb,by simp[St.know,h1.bl],by simp[St.know,h1.d],by simp[St.know,h1.sl],h4,h5⟩
     ·rename_i hbw;exact .inr ⟨by simpa using hbw,_,t',m'.know hb,by simp[St.know,h1.bl],by simp[St.know,h1.d],by simp[St.know,h1.sl],h4,h5⟩
    obtain⟨st',t',h1,h2,h3,h4,h5⟩:=Uc h m.kn hd;obtain⟨b,hb⟩:∃b,D P ρ c'= .bool b:=h3 (.bool c') aD;have m':=m.more h1 h2;rw[<-hD,hb];split at h4
    ·rename_i t1 t2 e1 e2;simp only[dM]at h4;by_cases hbw:b=want
     ·subst hbw;refine .inl ⟨aD,_,t1,m'.know hb,by simp[St.know,h1.bl],by simp[St.know,h1.d],by simp[St.know,h1.sl],e1,?_⟩;cases b with
      |true=>simp only[if_true]at h4;subst h4;exact h5.1 hb
      |false=>simp only[bZ,if_false]at h4;subst h4;exact h5.2 hb
     ·have hbn:b= !want:=by cases b<;>cases want<;>simp_all
      refine .inr ⟨by simpa using hbw,_,t2,m'.know (b:= !want) (by rw[hb,hbn]),by simp[St.know,h1.bl],by simp[St.know,h1.d],by simp[St.know,h1.sl],e2,?_⟩;cases want with
      |true=>simp only[if_true]at h4;subst h4;exact h5.2 (by rw[hb,hbn];rfl)
      |false=>simp only[bZ,if_false]at h4;subst h4;exact h5.1 (by rw[hb,hbn];rfl)
    ·cases h4
  ·cases h
structure Rg (st0:St) (β0:Nat->Nat) (st:St) (β:Nat->Nat):Prop where
 bt:∀b,b<st0.bl.length->β b=β0 b
 ln:st0.bl.length<=st.bl.length
theorem Rg.congr {st0 st st':St} {β0 β:Nat->Nat} (h:Rg st0 β0 st β) (hb:st'.bl=st.bl):Rg st0 β0 st' β:=⟨h.bt,by rw[hb];exact h.ln⟩
theorem Rg.set {st0 st:St} {β0 β:Nat->Nat} (h:Rg st0 β0 st β) (d:Option Tmp) (s:SL):Rg st0 β0 (st.set d s) β:=by
 cases d<;>exact⟨h.bt,h.ln⟩
theorem Rg.bind {st0 st:St} {β0 β:Nat->Nat} (h:Rg st0 β0 st β) (d:Option Tmp):Rg st0 β0 (Gi st d) β:=(h.congr (st':={st with n:=st.n+1}) rfl).set d _
theorem GN {T:TypeId} {x:Operand} {b q s:Nat} {i:SV} (h:st.get x=some (.p b q s i)):(Ll P st T x).2= .bad\/∃s',(Ll P st T x).2= .val s':=by
 unfold Ll;rw[h];simp only;split
 ·unfold rp bad
  repeat' split
  all_goals first|exact .inl rfl|exact .inr ⟨_,rfl⟩
 ·exact .inl rfl
theorem ZS {T:TypeId} {x y:Operand} {b q s:Nat} {i:SV} (h:st.get x=some (.p b q s i)):(Qs P st T x y).2= .bad\/∃c,(Qs P st T x y).2= .sto b c:=by
 unfold Qs;rw[h];split
 ·rename_i b' q' s' i' v e _;cases e;split
  ·unfold rx bad
   repeat' split
   all_goals first|exact .inl rfl|exact .inr ⟨_,rfl⟩
  ·exact .inl rfl
 ·rename_i e _;cases e
 ·exact .inl rfl
theorem fk {x:Operand} {b:Nat} (h:Tz st x=some b):∃q s i,st.get x=some (.p b q s i):=by
 unfold Tz at h;split at h
 ·rename_i b' q s i hg;simp only[dM]at h;subst h;exact⟨q,s,i,hg⟩
 ·cases h
theorem Qz {o:Oper} (h:Jt st o=true):n8 P o=1/\((Br P st o).2= .bad\/∃s,(Br P st o).2= .val s):=by
 unfold Jt at h;split at h
 ·rename_i S x f ho;obtain⟨b,hb⟩:=gU.1 h;obtain⟨q,s,i,hg⟩:=fk hb;refine⟨by simp[n8,ho],?_⟩;simp only[Br,ho];unfold en bad;rw[hg];simp only
  repeat' split
  all_goals first|exact .inl rfl|exact .inr ⟨_,rfl⟩
 ·rename_i T x ix ho;obtain⟨b,hb⟩:=gU.1 h;obtain⟨q,s,i,hg⟩:=fk hb;refine⟨by simp[n8,ho],?_⟩;simp only[Br,ho];unfold eo bad;rw[hg];split
  ·repeat' split
   all_goals first|exact .inl rfl|exact .inr ⟨_,rfl⟩
  ·rename_i e _;cases e
  ·exact .inl rfl
 ·cases h
theorem Xr {o:Oper} (h:mkB st o=true):n8 P o=2/\Jt st o=false:=by
 unfold mkB at h;split at h
 ·rename_i ho;simp[n8,Jt,ho]
 ·rename_i ho;simp[n8,Jt,ho]
 ·rename_i ho;simp[n8,Jt,ho]
 ·cases h
theorem ok0 {o:Oper} {tg:Nat} (h:Dn P st o 0 tg=true):n8 P o=0\/Jt st o=true:=by
 simpa[Dn]using h
theorem ok1 {o:Oper} {tg:Nat} (h:Dn P st o 1 tg=true):n8 P o<=1:=by simpa[Dn]using h
theorem ok2 {o:Oper} {tg:Nat} (h:Dn P st o 2 tg=true):n8 P o=2/\mkB st o=false:=by simpa[Dn]using h
theorem ok3 {o:Oper} {tg:Nat} (h:Dn P st o 3 tg=true):n8 P o=3\/mkB st o=true:=by simpa[Dn]using h
theorem ok5 {o:Oper} {tg:Nat} (h:Dn P st o 5 tg=true):∃T x q s i,o.op= .load T x/\st.get x=some (.p tg q s i):=by
 simp only[Dn]at h;split at h
 ·rename_i T x ho;obtain⟨q,s,i,hg⟩:=fk (by simpa using h);exact⟨T,x,q,s,i,ho,hg⟩
 ·cases h
theorem ok6 {o:Oper} {tg:Nat} (h:Dn P st o 6 tg=true):∃T x y q s i,o.op= .store T x y/\st.get x=some (.p tg q s i):=by
 simp only[Dn]at h;split at h
 ·rename_i T x y ho;obtain⟨q,s,i,hg⟩:=fk (by simpa using h);exact⟨T,x,y,q,s,i,ho,hg⟩
 ·cases h
theorem ok7 {o:Oper} {tg:Nat} (h:Dn P st o 7 tg=true):∃l,(Br P st o).2= .prim l:=by
 simp only[Dn]at h;unfold ey at h;split at h
 ·rename_i l hl;exact⟨l,hl⟩
 ·cases h
theorem ok9 {o:Oper} {tg:Nat} (h:Dn P st o 9 tg=true):(∃l,(Br P st o).2= .prim l)/\dh o.op=true:=by
 simp only[Dn,bA]at h;refine⟨?_,h.2⟩;have h:=h.1;unfold ey at h;split at h
 ·exact⟨_,by assumption⟩
 ·cases h
theorem ZT {o:Oper} {tg:Nat} (h:Dn P st o 10 tg=true):di P o.op=true:=by simpa[Dn]using h
theorem ok8 {o:Oper} {tg:Nat} (h:Dn P st o 8 tg=true):ez (Br P st o).2=false:=by simpa[Dn]using h
variable {c1:Bs} {K:PH}
theorem GO {nx:List (List Value->PH->Prop)} {k:St->Option Tree} {ops:Array Oper} {pf:Bool} {ck:Nat->Oper->St->Bool} {kd tg:Nat->Nat} {id dn:Nat} {st0:St} {β0:Nat->Nat} {R:Act->World->Prop}
  (hck:∀(i:Nat) (o:Oper) (st:St),ck i o st=true->Dn P st o (kd i) (tg i)=true) (yO:∀i,(kd i=5\/kd i=6)->tg i<st0.bl.length)
  (hk:∀st t ρ' β a W H,k st=some t->Mt P ⟨c1,H,K⟩ ρ' β st a W->ρ<+:ρ'->st.d=dn->den P G t nx ρ' H->R a W):∀(L:List Nat) (st:St) (t:Tree) (ρ':List Value) (β:Nat->Nat) (a:Act) (W:World) (H:PH),
  Cc P pf ck ops id k L st=some t->Mt P ⟨c1,H,K⟩ ρ' β st a W->ρ<+:ρ'->st.d=dn->Rg st0 β0 st β->den P G t nx ρ' H->wpT P ops kd (fun i=>β0 (tg i)) R L a W:=by
 intro L;induction L with
 |nil=>intro st t ρ' β a W H h m hp zZ _ hd;exact hk st t ρ' β a W H h m hp zZ hd
 |cons i L ih=>
  intro st t ρ' β a W H h m hp zZ zI hd;cases ho:ops[i]? with
  |none=>simp[Cc,ho]at h
  |some o=>
   refine⟨o,ho,?_⟩;rcases GM m ho h hd with⟨hw,st1,t1,m1,qX,hd1,yQ,h1,qA⟩|⟨hw,st1,t1,m1,qX,hd1,yQ,h1,qA⟩
   ·refine .inr ⟨hw,?_⟩;obtain⟨hok,h1⟩:=GL h1 qA;have hok:=hck i o st1 hok;obtain⟨st',hm,rX,hR,hc⟩:=GK m1 h1 qA;have m':=m1.more hm rX;have qZ:st'.d=dn:=by rw[hm.d,hd1];exact zZ
    have yR:=zI.congr qX;have qW:=yR.congr hm.bl;have hpv:∀b,b<st0.bl.length->β b=β0 b/\β b<W.heap.size/\H (β b)=none:=fun b hb=>by
     have pX:b<st'.bl.length:=aU hb qW.ln;exact⟨qW.bt b hb,m'.lt pX,m'.sep b pX⟩
    have hS:Stp P o a.eval W fun v w'=>(ez (Br P st1 o).2=false->∀b,b<st0.bl.length->w'.heap[β0 b]? =W.heap[β0 b]?)/\wpT P ops kd (fun i=>β0 (tg i)) R L (a.put o.dst v) w':=by
     cases qN:(Br P st1 o).2 with
     |val s=>
      rw[qN]at hR hc;obtain⟨vJ,pY,v,hv,pZ⟩:=hR;obtain⟨t2,h2,qL⟩:=hc;have mm:=m'.set hv (by rw[hm.bl];exact vJ) o.dst;unfold Stp;rw[pZ W (.inr (.inl (Ext.refl _)))];exact⟨fun _ _ _=>rfl,ih _ _ _ _ _ _ _ h2 mm hp (by cases o.dst<;>exact qZ) (qW.set o.dst s) qL⟩
     |new c T n=>
      rw[qN]at hR hc;obtain⟨h3,rR,tU,pZ⟩:=hR;unfold Stp;rw[pZ W];refine⟨fun _ b hb=> ?_,?_⟩
      ·obtain⟨e,pX,_⟩:=hpv b hb;rw[<-e];exact(Ext.alloc W _).block' pX
      have sV:(W.alloc (.cells (D P ρ' c).cells T)).heap[W.heap.size]? =some (.cells (D P ρ' c).cells T (0,0)):=by show(W.heap.push _)[W.heap.size]? =_;simp
      have hH:H W.heap.size=none:=by
       cases e:H W.heap.size with
       |none=>rfl
       |some ob=>have:=Di (m'.fr.holds _ _ e);omega
      have hKs:K W.heap.size=none:=by
       cases e:K W.heap.size with
       |none=>rfl
       |some ob=>have:=Di (m'.kp _ _ e);omega
      rcases hc with⟨t2,_,qU,h2,qL⟩|⟨t2,h2,qL⟩
      ·have mm:=(m'.grown (ob:= .cells (D P ρ' c).cells T (0,0)) (Ext.alloc W (.cells (D P ρ' c).cells T)) sV (aS _)).bind qU (.pointer (some ⟨W.heap.size,0,none⟩)) o.dst;exact ih _ _ _ _ _ _ _ h2 mm (hp.trans (eT _ _)) (by cases o.dst<;>exact qZ) (qW.bind o.dst) (qL _ hH)
      ·have mm:=m'.newB (T:=T) (Ext.alloc W (.cells (D P ρ' c).cells T)) (b:=W.heap.size) sV rR tU (fun i hi e=>by have:=m'.lt hi;omega) (m'.fr.size) hH hKs o.dst;refine ih _ _ _ _ _ _ _ h2 mm hp (by cases o.dst<;>exact qZ) ?_ qL;refine Rg.set (st:={st' with bl:=st'.bl++[Blk.mk c T n]}) ⟨fun b hb=> ?_,by simp;have:=qW.ln;omega⟩ o.dst _;rw[if_neg (by have:=qW.ln;omega)];exact qW.bt b hb
     |sto b c=>
      rw[qN]at hR hc;obtain⟨h4,B',uN,rR,tU,pZ⟩:=hR;obtain⟨B,t2,hB,h2,qL⟩:=hc;obtain rfl:B'=B:=fC.inj (uN.symm.trans hB);have hBs:st'.bl[b]? =some B':=by rw[hm.bl];exact hB
      unfold Stp;have a0a:=(m'.bl b B' hBs).1;rw[pZ W a0a];have mm:=m'.sto hBs rR tU o.dst;exact⟨fun h=>by simp[ez]at h,ih _ _ _ _ _ _ _ h2 mm hp (by cases o.dst<;>exact qZ) (Rg.set (st:={st' with bl:=st'.bl.set b {B' with c:=c}}) ⟨qW.bt,by simpa using qW.ln⟩ o.dst _) qL⟩
     |call f args=>
      rw[qN]at hR hc;obtain⟨h4,pZ⟩:=hR;obtain⟨t2,qU,h2,uP⟩:=hc;unfold Stp;rw[pZ W];refine(uP W m'.fr.holds).mono fun e w' ⟨v,H',he,qI,_,qL⟩=>⟨v,he,fun _ b hb=> ?_,?_⟩
      ·obtain⟨e,pX,hn⟩:=hpv b hb;rw[<-e];exact qI.block _ pX hn
      ·exact ih _ _ _ _ _ _ _ h2 ((m'.step qI).bind qU v o.dst) (hp.trans (eT _ _)) (by cases o.dst<;>exact qZ) (qW.bind o.dst) qL
     |prim args=>
      rw[qN]at hR hc;obtain⟨h4,pZ⟩:=hR;obtain⟨t2,v,qU,h2,hv,qL⟩:=hc;unfold Stp;rw[pZ,hv W m'.fr.holds];exact⟨fun _ _ _=>rfl,ih _ _ _ _ _ _ _ h2 (m'.bind qU v o.dst) (hp.trans (eT _ _)) (by cases o.dst<;>exact qZ) (qW.bind o.dst) qL⟩
     |eff args=>
      rw[qN]at hR hc;obtain⟨h4,pZ⟩:=hR;obtain⟨t2,qU,h2,uP⟩:=hc;refine Stp.cg pZ<|Stp.mono (uP W m'.fr.holds) fun v w' ⟨H',qI,_,qL⟩=>⟨fun _ b hb=> ?_,?_⟩
      ·obtain⟨e,pX,hn⟩:=hpv b hb;rw[<-e];exact qI.block _ pX hn
      ·exact ih _ _ _ _ _ _ _ h2 ((m'.step qI).bind qU v o.dst) (hp.trans (eT _ _)) (by cases o.dst<;>exact qZ) (qW.bind o.dst) qL
     |ext f args=>
      rw[qN]at hR hc;obtain⟨h4,pZ⟩:=hR;obtain⟨t2,v,qU,h2,hv,qL⟩:=hc;unfold Stp;rw[pZ,hv W m'.fr.holds];exact⟨fun _ _ _=>rfl,ih _ _ _ _ _ _ _ h2 (m'.bind qU v o.dst) (hp.trans (eT _ _)) (by cases o.dst<;>exact qZ) (qW.bind o.dst) qL⟩
     |mk args=>
      rw[qN]at hR hc;obtain⟨_,pZ⟩:=hR;obtain⟨t2,qU,h2,mk,ob,hr,qL⟩:=hc;unfold Stp;rw[pZ,hr W];refine⟨fun _ b hb=> ?_,?_⟩
      ·obtain⟨e,pX,_⟩:=hpv b hb;rw[<-e];exact(Ext.alloc W _).block' pX
      have sV:(W.alloc ob).heap[W.heap.size]? =some ob:=by show(W.heap.push _)[W.heap.size]? =_;simp
      have hH:H W.heap.size=none:=by
       cases e:H W.heap.size with
       |none=>rfl
       |some ob=>have:=Di (m'.fr.holds _ _ e);omega
      have mm:=(m'.grown (Ext.alloc W ob) sV (aS _)).bind qU (mk W.heap.size) o.dst;exact ih _ _ _ _ _ _ _ h2 mm (hp.trans (eT _ _)) (by cases o.dst<;>exact qZ) (qW.bind o.dst) (qL _ hH)
     |bad=>rw[qN]at hc;exact hc.elim
    by_cases k0:kd i=0
    ·rw[k0]at hok;have hok:=ok0 hok;cases qN:(Br P st1 o).2 with
     |val s=>
      rw[qN]at hR hc;obtain⟨vJ,pY,v,hv,pZ⟩:=hR;obtain⟨t2,h2,qL⟩:=hc;have mm:=m'.set hv (by rw[hm.bl];exact vJ) o.dst;exact .inl ⟨k0,v,fun w=>pZ w (hok.imp (fun h=>h) (fun h=> .inr (.inr h))),ih _ _ _ _ _ _ _ h2 mm hp (by cases o.dst<;>exact qZ) (qW.set o.dst s) qL⟩
     |_=>
      exfalso;rcases hok with h0|h0
      ·rw[qN]at hR hc
       first
        |(have:=hR.1;omega)
        |(have:=(Xr (P:=P) hR.1).1;omega)
        |exact hc.elim
      ·rcases(Qz (P:=P) h0).2 with h|⟨s,h⟩
       ·rw[h]at hc;exact hc.elim
       ·rw[h]at qN;cases qN
    by_cases k5:kd i=5
    ·rw[k5]at hok;obtain⟨T,x,q,s,ix,xG,vK⟩:=ok5 hok;have zJ:=m1.ptrB vK;have vD:β0 (tg i)=β (tg i):=(yR.bt _ (yO i (.inl k5))).symm;have e:(Br P st1 o)=Ll P st1 T x:=by simp[Br,xG]
     rcases GN (P:=P) (T:=T) vK with hb|⟨s',hb⟩
     ·rw[e,hb]at hc;exact hc.elim
     ·rw[e,hb]at hc hR;obtain⟨vJ,pY,v,hv,pZ⟩:=hR;obtain⟨t2,h2,qL⟩:=hc;have mm:=m'.set hv (by rw[hm.bl];exact vJ) o.dst;have nxt:=ih _ _ _ _ _ _ _ h2 mm hp (by cases o.dst<;>exact qZ) (qW.set o.dst s') qL;obtain⟨Bk,hBk⟩:∃B,st1.bl[tg i]? =some B:=⟨_,aJ zJ⟩;refine .inr (.inl ⟨k5,v,_,by show W.heap[β0 (tg i)]? =_;rw[vD];exact(m1.bl _ Bk hBk).1,fun w hw=>pZ w (.inr (.inr (.inl ⟨T,x,tg i,q,s,ix,xG,vK,?_⟩))),nxt⟩);change w.heap[β0 (tg i)]? =_ at hw;rw[vD]at hw;rw[hw,(m1.bl _ Bk hBk).1]
    by_cases k6:kd i=6
    ·rw[k6]at hok;obtain⟨T,x,y,q,s,ix,xG,vK⟩:=ok6 hok;have vD:β0 (tg i)=β (tg i):=(yR.bt _ (yO i (.inr k6))).symm;have e:(Br P st1 o)=Qs P st1 T x y:=by simp[Br,xG]
     rcases ZS (P:=P) (T:=T) (y:=y) vK with hb|⟨c,hb⟩
     ·rw[e,hb]at hc;exact hc.elim
     ·rw[e,hb]at hc hR;obtain⟨h4,B',uN,rR,tU,pZ⟩:=hR;obtain⟨B,t2,hB,h2,qL⟩:=hc;obtain rfl:B'=B:=fC.inj (uN.symm.trans hB);have hBs:st'.bl[tg i]? =some B':=by rw[hm.bl];exact hB
      have a0a:=(m'.bl _ B' hBs).1;have mm:=m'.sto hBs rR tU o.dst;refine .inr (.inr (.inl ⟨k6,_,(D P ρ' c).cells,by show W.heap[β0 (tg i)]? =_;rw[vD];exact a0a,fun w hw=> ?_,?_⟩))
      ·change w.heap[β0 (tg i)]? =_ at hw;show _=Result.ok Next.skip (w.setRow (β0 (tg i)) _);rw[vD]at hw⊢;exact pZ w hw
      ·show wpT P ops kd _ R L _ (W.setRow (β0 (tg i)) _);rw[vD];exact ih _ _ _ _ _ _ _ h2 mm hp (by cases o.dst<;>exact qZ) (Rg.set (st:={st' with bl:=st'.bl.set (tg i) {B' with c:=c}}) ⟨qW.bt,by simpa using qW.ln⟩ o.dst _) qL
    by_cases k7:kd i=7
    ·rw[k7]at hok;obtain⟨args,qN⟩:=ok7 hok;rw[qN]at hR hc;obtain⟨h4,pZ⟩:=hR;obtain⟨t2,v,qU,h2,hv,qL⟩:=hc;refine .inr (.inr (.inr (.inl ⟨k7,v,fun w=>H.In w,fun w hw=>by rw[pZ];exact hv w hw,m'.fr.holds,fun mm c w hmm=> ?_,ih _ _ _ _ _ _ _ h2 (m'.bind qU v o.dst) (hp.trans (eT _ _)) (by cases o.dst<;>exact qZ) (qW.bind o.dst) qL⟩)));obtain⟨e,_,hn⟩:=hpv (tg mm) (yO mm (.inr hmm));have qC:∀b ob,H b=some ob->b≠β0 (tg mm):=fun b ob hb e2=>by rw[e2,<-e,hn]at hb;cases hb
     constructor
     ·intro qP b ob hb;have:=qP b ob hb
      rwa[setRow_other _ _ _ _ (qC b ob hb)]at this
     ·intro qP b ob hb;rw[setRow_other _ _ _ _ (qC b ob hb)];exact qP b ob hb
    by_cases k8:kd i=8
    ·rw[k8]at hok;exact .inr (.inr (.inr (.inr (.inl ⟨k8,hS.mono fun v w' ⟨g1,g2⟩=>⟨fun mm hmm=>g1 (ok8 hok) _ (yO mm (.inl hmm)),g2⟩⟩))))
    by_cases k9:kd i=9
    ·rw[k9]at hok;obtain⟨⟨args,qN⟩,hbo⟩:=ok9 hok;rw[qN]at hR hc;obtain⟨h4,pZ⟩:=hR;obtain⟨t2,v,qU,h2,hv,qL⟩:=hc;refine .inr (.inr (.inr (.inr (.inr (.inl ⟨k9,v,fun w=>∃w0,H.In w0/\KeepM w0 w,fun w ⟨w0,hw0,hkm⟩=> ?_,⟨W,m'.fr.holds,KeepM.refl _⟩,fun w1 w2 hkm ⟨w0,hw0,zK⟩=>⟨w0,hw0,zK.trans hkm⟩,ih _ _ _ _ _ _ _ h2 (m'.bind qU v o.dst) (hp.trans (eT _ _)) (by cases o.dst<;>exact qZ) (qW.bind o.dst) qL⟩)))));exact(XX hbo w0 w _ _ hkm (by rw[pZ];exact hv w0 hw0)).2
    by_cases k10:kd i=10
    ·rw[k10]at hok;refine .inr (.inr (.inr (.inr (.inr (.inr (.inl ⟨k10,?_⟩))))));have tV:=ZT hok;unfold Stp at hS⊢;cases e:(execOp a.eval o).run P W with
     |halt h w2=>rw[e]at hS;cases h<;>exact hS
     |ok u w2=>
      rw[e]at hS;obtain⟨hkm,⟨x,rfl⟩|rfl⟩:=XZ tV e
      ·exact⟨hkm,hS.2⟩
      ·exact⟨hkm,hS.2⟩
    ·exact .inr (.inr (.inr (.inr (.inr (.inr (.inr ⟨k0,k5,k6,k7,k8,k9,k10,hS.mono fun v w' ⟨_,g2⟩=>g2⟩))))))
   ·refine .inl ⟨hw,?_⟩;exact ih _ _ _ _ _ _ _ h1 (m1.set (s:= .x (.k undef)) (v:=undef) rfl (by rintro b q t i h;cases h) o.dst) hp (by cases o.dst<;>exact hd1.trans zZ) ((zI.congr qX).set o.dst _) qA
theorem ZU {nx:List (List Value->PH->Prop)} {k:St->Option Tree} {ops:Array Oper} {ck:Nat->Oper->St->Bool} {kd tg:Nat->Nat} {id dn B:Nat} {st0:St} {β0:Nat->Nat} {R:Act->World->Prop} (hB0:c1.w.heap.size<=B) (hKB:∀k,K k≠none->k<B)
  (hck:∀(i:Nat) (o:Oper) (st:St),ck i o st=true->Dn P st o (kd i) (tg i)=true) (yO:∀i,(kd i=5\/kd i=6)->tg i<st0.bl.length)
  (hk:∀st t ρ' β a W H,k st=some t->Mt P ⟨c1,H,K⟩ ρ' β st a W->ρ<+:ρ'->st.d=dn->Rg st0 β0 st β->den P G t nx ρ' H->R a W):∀(L bs:List Nat) (st:St) (t:Tree) (ρ':List Value) (β:Nat->Nat) (a:Act) (W:World) (H:PH),
  (∀i∈L,frK (kd i)=true)->Cc P true ck ops id k L st=some t->Mt P ⟨c1,H,K⟩ ρ' β st a W->ρ<+:ρ'->st.d=dn->Rg st0 β0 st β->(∀i,i<st.bl.length->β i<B\/β i∈bs)->(∀b,H b≠none->b<B\/b∈bs)->den P G t nx ρ' H->
  wpF P ops kd (fun i=>β0 (tg i)) B R L bs a W:=by
 intro L;induction L with
 |nil=>intro bs st t ρ' β a W H _ h m hp zZ zI _ _ hd w hw;exact hk st t ρ' β a w H h (m.ext hw) hp zZ zI hd
 |cons i L ih=>
  intro bs st t ρ' β a W H hkL h m hp zZ zI rL hHb hd;have yT:∀i∈L,frK (kd i)=true:=fun j hj=>hkL j (by simp[hj]);cases ho:ops[i]? with
  |none=>simp[Cc,ho]at h
  |some o=>
   refine⟨o,ho,?_⟩;have a4d:=hkL i aD;simp only[frK,dB,decide_eq_true_eq,beq_iff_eq]at a4d;rcases GM m ho h hd with⟨hw,st1,t1,m1,qX,hd1,yQ,h1,qA⟩|⟨hw,st1,t1,m1,qX,hd1,yQ,h1,qA⟩
   ·refine .inr ⟨hw,?_⟩;obtain⟨hok,h1⟩:=GL h1 qA;have hok:=hck i o st1 hok;obtain⟨st',hm,rX,hR,hc⟩:=GK m1 h1 qA;have m':=m1.more hm rX;have qZ:st'.d=dn:=by rw[hm.d,hd1];exact zZ
    have zJ:st'.bl=st.bl:=hm.bl.trans qX;have uO:∀i,i<st'.bl.length->β i<B\/β i∈bs:=by rw[zJ];exact rL
    have yR:=zI.congr qX;have qW:=yR.congr hm.bl;have after:∀(t2:Tree) (v:Value) (H':PH) (cs:List Nat) (W':World),Dj st'=true->Cc P true ck ops id k L (Gi st' o.dst)=some t2->Ext W W'->H'.In W'->(∀b,H' b≠none->H b≠none\/b∈cs)->(∀c∈cs,B<=c/\c∉bs)->den P G t2 nx (ρ'++[v]) H'->
      wpF P ops kd (fun i=>β0 (tg i)) B R L (cs++bs) (a.put o.dst v) W':=fun t2 v H' cs W' qU h2 hx qP tL qM qL=>by
     have mm:=((m'.ext hx).grow (H':=H') qP (fun b hb=>by
      cases e:H' (β b)with
      |none=>rfl
      |some ob=>
       rcases tL (β b) (by simp[e])with h|h
       ·exact absurd (m'.sep b hb) h
       ·have:=qM _ h;rcases uO b hb with h'|h'
        ·omega
        ·exact absurd h' this.2) (fun b hb=>(tL b hb).imp (fun h=>h) (fun h=>bD hB0 (qM b h).1)) (fun k hk=>by
      cases e:H' k with
      |none=>rfl
      |some ob=>
       rcases tL k (by simp[e])with h|h
       ·exact absurd (m'.kpH k hk) h
       ·have:=(qM _ h).1;have:=hKB k hk;omega)).bind qU v o.dst
     refine ih (cs++bs) _ _ _ _ _ _ _ yT h2 mm (hp.trans (eT _ _)) (by cases o.dst<;>exact qZ) (qW.bind o.dst) ?_ ?_ qL
     ·have:∀i,i<st'.bl.length->β i<B\/β i∈cs++bs:=fun i hi=>(uO i hi).imp (fun h=>h) (fun h=>by simp[h]);cases o.dst<;>exact this
     ·intro b hb;rcases tL b hb with h|h
      ·exact(hHb b h).imp (fun h=>h) (fun h=>by simp[h])
      ·exact .inr (by simp[h])
    have fresh:∀(w w':World) (H':PH),Step H w H' w'->∃cs:List Nat,(∀c∈cs,w.heap.size<=c/\c<w'.heap.size)/\∀b,H' b≠none->H b≠none\/b∈cs:=fun w w' H' qI=>by
     refine⟨(List.range w'.heap.size).filter fun b=>decide (w.heap.size<=b),fun c hc=> ?_,fun b hb=> ?_⟩
     ·simp only[bT,bR,decide_eq_true_eq]at hc;exact⟨hc.2,hc.1⟩
     ·rcases qI.dom b hb with h|h
      ·exact .inl h
      ·right;cases e:H' b with
       |none=>exact absurd e hb
       |some ob=>
        have:=Di (qI.holds b ob e);simp only[bT,bR,decide_eq_true_eq];exact⟨this,h⟩
    have fH:∀b,b∉bs->B<=b->H b=none:=fun b sG hBb=>by
     cases e:H b with
     |none=>rfl
     |some ob=>
      rcases hHb b (by simp[e])with h|h
      ·omega
      ·exact absurd h sG
    have putDom:∀(b:Nat) (ob:Obj) (b':Nat),(H.put b ob) b'≠none->H b'≠none\/b'∈[b]:=fun b ob b' rJ=>by
     unfold PH.put at rJ;split at rJ
     ·rename_i e;exact .inr (by simp[e])
     ·exact .inl rJ
    by_cases k5:kd i=5
    ·rw[k5]at hok;obtain⟨T,x,q,s,ix,xG,vK⟩:=ok5 hok;have a4e:=m1.ptrB vK;have vD:β0 (tg i)=β (tg i):=(yR.bt _ (yO i (.inl k5))).symm;have e:(Br P st1 o)=Ll P st1 T x:=by simp[Br,xG]
     rcases GN (P:=P) (T:=T) vK with hb|⟨s',hb⟩
     ·rw[e,hb]at hc;exact hc.elim
     ·rw[e,hb]at hc hR;obtain⟨vJ,pY,v,hv,pZ⟩:=hR;obtain⟨t2,h2,qL⟩:=hc;have mm:=m'.set hv (by rw[hm.bl];exact vJ) o.dst;have nxt:=ih bs _ _ _ _ _ _ _ yT h2 mm hp (by cases o.dst<;>exact qZ) (qW.set o.dst s') (by cases o.dst<;>exact uO) hHb qL;obtain⟨Bk,hBk⟩:∃B,st1.bl[tg i]? =some B:=⟨_,aJ a4e⟩;refine .inr (.inr (.inr (.inr ⟨k5,v,_,by show W.heap[β0 (tg i)]? =_;rw[vD];exact(m1.bl _ Bk hBk).1,fun w hw=>pZ w (.inr (.inr (.inl ⟨T,x,tg i,q,s,ix,xG,vK,?_⟩))),nxt⟩)));change w.heap[β0 (tg i)]? =_ at hw;rw[vD]at hw;rw[hw,(m1.bl _ Bk hBk).1]
    have hk4:kd i=0\/kd i=1\/kd i=2\/kd i=3:=aA;cases qN:(Br P st1 o).2 with
    |val s=>
     rw[qN]at hR hc;obtain⟨vJ,pY,v,hv,pZ⟩:=hR;obtain⟨t2,h2,qL⟩:=hc;have mm:=m'.set hv (by rw[hm.bl];exact vJ) o.dst;have nxt:=ih bs _ _ _ _ _ _ _ yT h2 mm hp (by cases o.dst<;>exact qZ) (qW.set o.dst s) (by cases o.dst<;>exact uO) hHb qL;rcases hk4 with k0|k1|k2|k3
     ·rw[k0]at hok;exact .inl ⟨k0,v,fun w=>pZ w ((ok0 hok).imp (fun h=>h) (fun h=> .inr (.inr h))),nxt⟩
     ·exact .inr (.inl ⟨k1,v,fun w hw=>pZ w (.inr (.inl hw)),nxt⟩)
     ·rw[k2]at hok;have:=(ok2 hok).1;omega
     ·rw[k3]at hok;rcases ok3 hok with h|h
      ·omega
      ·have:=(Xr (P:=P) h).1;omega
    |new c T n=>
     rw[qN]at hR hc;obtain⟨h3,rR,tU,pZ⟩:=hR;have k3:kd i=3:=by
      rcases hk4 with k0|k1|k2|k3
      ·rw[k0]at hok;rcases ok0 hok with h|h
       ·omega
       ·have:=(Qz (P:=P) h).1;omega
      ·rw[k1]at hok;have:=ok1 hok;omega
      ·rw[k2]at hok;have:=(ok2 hok).1;omega
      ·exact k3
     refine .inr (.inr (.inr (.inl ⟨k3,fun b=> .pointer (some ⟨b,0,none⟩),_,pZ,fun b W' hx sV sG hBb=> ?_⟩)));have hH:=fH b sG hBb;rcases hc with⟨t2,_,qU,h2,qL⟩|⟨t2,h2,qL⟩
     ·exact after t2 (.pointer (some ⟨b,0,none⟩)) (H.put b (.cells (D P ρ' c).cells T (0,0))) [b] W' qU h2 hx (PH.put_in (m'.fr.holds.ext hx) sV) (putDom _ _) (fun c hc=>by simp only[aP,bP,or_false]at hc;subst hc;exact⟨hBb,sG⟩) (qL b hH)
     ·have mm:=m'.newB hx (b:=b) sV rR tU (fun i hi e=>by
       rcases uO i hi with h|h
       ·omega
       ·rw[e]at h;exact sG h) (bD hB0 hBb) hH (by
       cases e:K b with
       |none=>exact e
       |some ob=>have:=hKB b (by simp[e]);omega) o.dst
      refine ih (b::bs) _ _ _ _ _ _ _ yT h2 mm hp (by cases o.dst<;>exact qZ) ?_ ?_ (fun b' rJ=>(hHb b' rJ).imp (fun h=>h) (fun h=>by simp[h])) qL
      ·refine Rg.set (st:={st' with bl:=st'.bl++[Blk.mk c T n]}) ⟨fun b hb=> ?_,by simp;have:=qW.ln;omega⟩ o.dst _;rw[if_neg (by have:=qW.ln;omega)];exact qW.bt b hb
      ·have:∀i,i<(st'.bl++[Blk.mk c T n]).length->(if i=st'.bl.length then b else β i)<B\/(if i=st'.bl.length then b else β i)∈b::bs:=fun i hi=>by
        split
        ·exact .inr aD
        ·rename_i qC;simp only[aM,aO,bX]at hi;exact(uO i aA).imp (fun h=>h) (fun h=>by simp[h])
       cases o.dst<;>exact this
    |sto b c=>
     rw[qN]at hR;obtain⟨h4,_⟩:=hR;exfalso;rcases hk4 with k0|k1|k2|k3
     ·rw[k0]at hok;rcases ok0 hok with h|h
      ·omega
      ·have:=(Qz (P:=P) h).1;omega
     ·rw[k1]at hok;have:=ok1 hok;omega
     ·rw[k2]at hok;have:=(ok2 hok).1;omega
     ·rw[k3]at hok;rcases ok3 hok with h|h
      ·omega
      ·have:=(Xr (P:=P) h).1;omega
    |call f args=>
     rw[qN]at hR hc;obtain⟨h4,pZ⟩:=hR;obtain⟨t2,qU,h2,uP⟩:=hc;have k2:kd i=2:=by
      rcases hk4 with k0|k1|k2|k3
      ·rw[k0]at hok;rcases ok0 hok with h|h
       ·omega
       ·have:=(Qz (P:=P) h).1;omega
      ·rw[k1]at hok;have:=ok1 hok;omega
      ·exact k2
      ·rw[k3]at hok;rcases ok3 hok with h|h
       ·omega
       ·exfalso;unfold mkB at h;split at h<;>first|cases h|(rename_i xG;simp[Br,xG,mkB,sMk,Xh,eq,er,bad]at qN;split at qN<;>(split at qN<;>simp at qN))
     refine .inr (.inr (.inl ⟨k2,fun v cs W'=>∃H',H'.In W'/\(∀b,H' b≠none->H b≠none\/b∈cs)/\den P G t2 nx (ρ'++[v]) H',fun w hw=> ?_,fun v cs W' hx ⟨H',qP,tL,qL⟩ qM=>after t2 v H' cs W' qU h2 hx qP tL qM qL⟩));unfold Stp;rw[pZ w];refine(uP w (m'.fr.holds.ext hw)).mono fun e w' ⟨v,H',he,qI,pY,qL⟩=>⟨v,he,qI.toExt (m'.fr.holds.ext hw) (pY rfl),?_⟩;obtain⟨cs,qM,tL⟩:=fresh w w' H' qI;exact⟨cs,qM,H',qI.holds,tL,qL⟩
    |prim args=>
     rw[qN]at hR hc;obtain⟨h4,pZ⟩:=hR;obtain⟨t2,v,qU,h2,hv,qL⟩:=hc;have k1:kd i=1:=by
      rcases hk4 with k0|k1|k2|k3
      ·rw[k0]at hok;rcases ok0 hok with h|h
       ·omega
       ·rcases(Qz (P:=P) h).2 with h|⟨s,h⟩<;>rw[h]at qN<;>cases qN
      ·exact k1
      ·rw[k2]at hok;have:=(ok2 hok).1;omega
      ·rw[k3]at hok;rcases ok3 hok with h|h
       ·omega
       ·have:=(Xr (P:=P) h).1;omega
     exact .inr (.inl ⟨k1,v,fun w hw=>by rw[pZ];exact hv w (m'.fr.holds.ext hw),ih bs _ _ _ _ _ _ _ yT h2 (m'.bind qU v o.dst) (hp.trans (eT _ _)) (by cases o.dst<;>exact qZ) (qW.bind o.dst) (by cases o.dst<;>exact uO) hHb qL⟩)
    |eff args=>
     rw[qN]at hR hc;obtain⟨h4,pZ⟩:=hR;obtain⟨t2,qU,h2,uP⟩:=hc;have k2:kd i=2:=by
      rcases hk4 with k0|k1|k2|k3
      ·rw[k0]at hok;rcases ok0 hok with h|h
       ·omega
       ·have:=(Qz (P:=P) h).1;omega
      ·rw[k1]at hok;have:=ok1 hok;omega
      ·exact k2
      ·rw[k3]at hok;rcases ok3 hok with h|h
       ·omega
       ·exfalso;unfold mkB at h;split at h<;>first|cases h|(rename_i xG;simp[Br,xG,mkB,h,sMk,bad]at qN;split at qN<;>simp at qN)
     refine .inr (.inr (.inl ⟨k2,fun v cs W'=>∃H',H'.In W'/\(∀b,H' b≠none->H b≠none\/b∈cs)/\den P G t2 nx (ρ'++[v]) H',fun w hw=> ?_,fun v cs W' hx ⟨H',qP,tL,qL⟩ qM=>after t2 v H' cs W' qU h2 hx qP tL qM qL⟩));refine Stp.cg pZ<|Stp.mono (uP w (m'.fr.holds.ext hw)) fun v w' ⟨H',qI,pY,qL⟩=>⟨qI.toExt (m'.fr.holds.ext hw) (pY rfl),?_⟩;obtain⟨cs,qM,tL⟩:=fresh w w' H' qI;exact⟨cs,qM,H',qI.holds,tL,qL⟩
    |ext f args=>
     rw[qN]at hR hc;obtain⟨h4,pZ⟩:=hR;obtain⟨t2,v,qU,h2,hv,qL⟩:=hc;have k2:kd i=2:=by
      rcases hk4 with k0|k1|k2|k3
      ·rw[k0]at hok;rcases ok0 hok with h|h
       ·omega
       ·have:=(Qz (P:=P) h).1;omega
      ·rw[k1]at hok;have:=ok1 hok;omega
      ·exact k2
      ·rw[k3]at hok;rcases ok3 hok with h|h
       ·omega
       ·exfalso;unfold mkB at h;split at h<;>first|cases h|(rename_i xG;simp[Br,xG,mkB,h,sMk,bad]at qN;split at qN<;>simp at qN)
     refine .inr (.inr (.inl ⟨k2,fun u cs W'=>u=v/\cs=[],fun w hw=> ?_,fun u cs W' hx hV qM=> ?_⟩))
     ·unfold Stp;rw[pZ,hv w (m'.fr.holds.ext hw)];exact⟨Ext.refl _,[],aD,rfl,rfl⟩
     ·obtain⟨rfl,rfl⟩:=hV;exact after t2 u H [] W' qU h2 hx (m'.fr.holds.ext hx) (fun b hb=> .inl hb) qM qL
    |mk args=>
     rw[qN]at hR hc;obtain⟨hmk,pZ⟩:=hR;obtain⟨t2,qU,h2,mk,ob,hr,qL⟩:=hc;have k3:kd i=3:=by
      have uF:=Xr (P:=P) hmk;rcases hk4 with k0|k1|k2|k3
      ·rw[k0]at hok;rcases ok0 hok with h|h
       ·omega
       ·rw[uF.2]at h;cases h
      ·rw[k1]at hok;have:=ok1 hok;omega
      ·rw[k2]at hok;rw[(ok2 hok).2]at hmk;cases hmk
      ·exact k3
     refine .inr (.inr (.inr (.inl ⟨k3,mk,ob,fun w=>by rw[pZ];exact hr w,fun b W' hx sV sG hBb=> ?_⟩)));exact after t2 (mk b) (H.put b ob) [b] W' qU h2 hx (PH.put_in (m'.fr.holds.ext hx) sV) (putDom _ _) (fun c hc=>by simp only[aP,bP,or_false]at hc;subst hc;exact⟨hBb,sG⟩) (qL b (fH b sG hBb))
    |bad=>rw[qN]at hc;exact hc.elim
   ·refine .inl ⟨hw,?_⟩;exact ih bs _ _ _ _ _ _ _ yT h1 (m1.set (s:= .x (.k undef)) (v:=undef) rfl (by rintro b q t i h;cases h) o.dst) hp (by cases o.dst<;>exact hd1.trans zZ) ((zI.congr qX).set o.dst _) (by cases o.dst<;>(simp only[St.set];rw[qX];exact rL)) hHb qA
end
end Go.RX

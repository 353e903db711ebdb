/- Lemmas of the proof. -/
import Derived.Test.YtlmbepjdokomkaaGreatDoorRxF
open List renaming prefix_append->eW
open Option renaming map_eq_some_iff->fJ,some->fG
set_option linter.all false
namespace Go.RX
open RowKit
def y9:List Value->Value
 |[x]=>x
 |l=> .tuple l.toArray
def PH.put (H:PH) (b:Nat) (o:Obj):PH:=fun k=>if k=b then some o else H k
def PH.or (X K:PH):PH:=fun b=>match X b with|some o=>some o|none=>K b
def Disj (X K:PH):Prop:=∀b,X b≠none->K b=none
def q8 (P:Program) (f:FuncId):Bool:=match P.funcs[f]? with|some fn=>fn.body.isSome&& !(fn.name== "runtime.NumGoroutine")|none=>false
def Jw {P:Program} {f:FuncId} (h:q8 P f=true) (args:Array Value) (w:World):(callFunc f args).run P w= .ok (.enter f args) w:=by
 unfold q8 at h;split at h
 ·rename_i fn hf;rw[aT]at h;obtain⟨h1,h2⟩:=h;unfold callFunc;have h2:(fn.name== "runtime.NumGoroutine")=false:=by simpa using h2
  have h1:fn.body.isNone=false:=by cases hb:fn.body<;>simp_all
  simp[hf];rw[if_neg (by simpa using h2),if_neg (fun e=>by simp[e]at h1)]
 ·cases h
def qi (P:Program) (l:Nat) (xs:List Value) (X K:PH) (V:Value->PH->Prop):Prop:=
 ∀w,(X.or K).In w->∃fn tmps asg body,(Instr.yield l xs.toArray).run P w= .ok (.round l fn tmps asg body) w/\
  RoundIn Fence.wide 0 P l fn tmps asg body w fun e w'=>∃v X',e= .returned v/\Step (X.or K) w (X'.or K) w'/\Disj X' K/\V v X'
def ItC (P:Program) (f:FuncId) (caps:List Value) (Ro K:PH) (E:List (List Value)->List Value->Prop) (S Sp:List (List Value)->PH->Prop):Prop:=
 ∀(l:Nat) (J Jx:List (List Value)->PH->Prop),
  (∀pre X,J pre X->Pl Ro X)->
  (∀pre xs X K',E pre xs->J pre X->Disj X K'->qi P l xs X K' fun v X'=>(v= .bool true/\J (pre++[xs]) X')\/(v= .bool false/\Jx (pre++[xs]) X'))->
  ∀X,J [] X->Disj X K->∀w,(X.or K).In w->Calls P f ((.func (.yield l) #[] #[]::caps).toArray) w fun e w'=>∃v H',e= .returned v/\Step (X.or K) w H' w'/\
   ∃X' K',Pl (X'.or K') H'/\Disj X' K'/\((∃xs,S xs K'/\J xs X')\/(∃pre,Sp pre K'/\Jx pre X'))
def PnX (X:Value->PH->Prop) (pf:Bool) (H:PH) (w:World) (x:Value) (w':World):Prop:=pf=false/\∃H',Step H w H' w'/\X x H'
def noP:Value->PH->Prop:=fun _ _=>False
def den (P:Program) (G:Value->PH->Prop):(Value->PH->Prop)->Tree->List (List Value->PH->Prop)->List Value->PH->Prop
 |X,.ret l,_,ρ,H=>G (y9 (l.map (D P ρ))) H
 |X,.rq r t,nx,ρ,H=>r.holds P ρ/\den P G X t nx ρ H
 |X,.br c t e,nx,ρ,H=>(D P ρ c= .bool true->den P G X t nx ρ H)/\(D P ρ c= .bool false->den P G X e nx ρ H)
 |X,.call pf f args t,nx,ρ,H=>∀w,H.In w->Calls P f (args.map (D P ρ)).toArray w fun e w'=>(∃v H',e= .returned v/\Step H w H' w'/\(pf=true->Pl H H')/\den P G X t nx (ρ++[v]) H')\/(∃x,e=pnE x/\PnX X pf H w x w')
 |X,.prim _ _ o args t,nx,ρ,H=>∃v,(∀w,H.In w->(execOp (e8 o.op.operands.toList (args.map (D P ρ))) o).run P w= .ok (.value v) w)/\den P G X t nx (ρ++[v]) H
 |X,.eff pf _ _ o args t,nx,ρ,H=>∀w,H.In w->StpX P (PnX X pf H w) o (e8 o.op.operands.toList (args.map (D P ρ))) w fun v w'=>∃H',Step H w H' w'/\(pf=true->Pl H H')/\den P G X t nx (ρ++[v]) H'
 |X,.ext f args t,nx,ρ,H=>∃v,(∀w,H.In w->(callFunc f (args.map (D P ρ)).toArray).run P w= .ok (.value v) w)/\den P G X t nx (ρ++[v]) H
 |X,.mk _ _ o args t,nx,ρ,H=>∃(mk:Nat->Value) (ob:Obj),(∀w,(execOp (e8 o.op.operands.toList (args.map (D P ρ))) o).run P w= .ok (.value (mk w.heap.size)) (w.alloc ob))/\∀b,H b=none->den P G X t nx (ρ++[mk b]) (H.put b ob)
 |X,.pub T c t,nx,ρ,H=>∀b,H b=none->den P G X t nx (ρ++[.pointer (some ⟨b,0,none⟩)]) (H.put b (.cells (D P ρ c).cells T (0,0)))
 |X,.dead _,_,_,_=>False
 |X,.both t u,nx,ρ,H=>den P G X t nx ρ H/\den P G X u nx ρ H
 |X,.loop ini t,nx,ρ,H=>∃(I:List Value->PH->Prop) (μ:List Value->PH->Nat),I (ini.map (D P ρ)) H/\
   ∀vals H',vals.length=ini.length->I vals H'->den P G X t (nx++[fun l h=>I l h/\μ l h<μ vals H']) (ρ++vals) H'
 |X,.next d l,nx,ρ,H=>(nx.getD d fun _ _=>False) (l.map (D P ρ)) H
 |X,.join n t u,nx,ρ,H=>∃J:List Value->PH->Prop,den P G X t (nx++[J]) ρ H/\∀vals H',vals.length=n->J vals H'->den P G X u nx (ρ++vals) H'
 |XX,.rf g np ini tb ta te,nx,ρ,H=>∃(f:FuncId) (caps:List Value) (X K Ro:PH) (E:List (List Value)->List Value->Prop) (S Sp:List (List Value)->PH->Prop) (I Ix:List (List Value)->List Value->PH->Prop),
   D P ρ g= .func (.func f) #[] caps.toArray/\q8 P f=true/\H=X.or K/\Disj X K/\ItC P f caps Ro K E S Sp/\(∀pre vals X',I pre vals X'->Pl Ro X')/\I [] (ini.map (D P ρ)) X/\
   (∀pre xs vals X',E pre xs->vals.length=ini.length->I pre vals X'->xs.length=np/\den P G noP tb (nx++[fun v h=>I (pre++[xs]) v h,fun v h=>Ix (pre++[xs]) v h]) (ρ++(xs++vals)) X')/\
   (∀xs vals X' K',S xs K'->Disj X' K'->vals.length=ini.length->I xs vals X'->den P G XX ta nx (ρ++vals) (X'.or K'))/\
   (∀pre vals X' K',Sp pre K'->Disj X' K'->vals.length=ini.length->Ix pre vals X'->den P G XX te nx (ρ++vals) (X'.or K'))
section
variable {P:Program} {G X:Value->PH->Prop} {w0:Cx}
variable {ρ:List Value} {β:Nat->Nat} {st:St} {a:Act} {W:World} {H:PH}
def Mt.set (m:Mt P w0 ρ β st a W) {s:SL} {v:Value} (hv:ML P ρ β s v) (hp:∀b q t i,s= .p b q t i->b<st.bl.length) (d:Option Tmp):Mt P w0 ρ β (st.set d s) (a.put d v) W:=by
 cases d with
 |none=>exact m
 |some t=>
  have hb:(st.set (some t) s).bl=st.bl:=rfl;refine{sz:= ?_,sl:= ?_,pb:= ?_,df:=m.df,n:=m.n,bl:=m.bl,inj:=m.inj,own:=m.own,sep:=m.sep,fr:=m.fr,kp:=m.kp,rd:=m.rd,kle:=m.kle,ag:=m.ag,ln:=m.ln,kpH:=m.kpH,kpB:=m.kpB,kn:=m.kn,kb:=m.kb}
  ·simpa[Act.put,St.set]using m.sz
  ·intro u s' pX;simp only[St.set,bZ]at pX;simp only[Act.put];split at pX
   ·rename_i e;subst e;split at pX
    ·rename_i oV;simp only[dF]at pX;subst pX;exact⟨v,by rw[dB (by rw[m.sz];exact oV)],hv⟩
    ·cases pX
   ·rename_i pI;obtain⟨x,hx,hm⟩:=m.sl u s' pX;exact⟨x,by rw[cX pI];exact hx,hm⟩
  ·intro u b o' s' i pX;simp only[St.set,bZ]at pX;split at pX
   ·split at pX
    ·simp only[dF]at pX;exact hp b o' s' i pX
    ·cases pX
   ·exact m.pb u b o' s' i pX
def YF {β β':Nat->Nat} {n:Nat} (h:∀i,i<n->β' i=β i) {s:SL} {v:Value} (hp:∀b q t i,s= .p b q t i->b<n) (hm:ML P ρ β s v):ML P ρ β' s v:=by
 cases s with
 |x s=>exact hm
 |p b o s i=>simp only[ML]at hm⊢;rw[h b (hp b o s i rfl)];exact hm
 |u=>trivial
def Mt.newB (m:Mt P w0 ρ β st a W) {W':World} (hx:Ext W W') {c:SV} {T n b:Nat} (hb:W'.heap[b]? =some (.cells (D P ρ c).cells T (0,0))) (hn:(D P ρ c).cells.size=n) (h1:i8 (D P ρ c).cells)
  (pI:∀i,i<st.bl.length->β i≠b) (hw:w0.w.heap.size<=b) (hH:w0.H b=none) (hK:w0.K b=none) (d:Option Tmp):
  Mt P w0 ρ (fun i=>if i=st.bl.length then b else β i) (St.set {st with bl:=st.bl++[Blk.mk c T n]} d (.p st.bl.length 0 0 noI)) (a.put d (.pointer (some ⟨b,0,none⟩))) W':=by
 have m':=m.ext hx;have hβ:∀i,i<st.bl.length->(fun i=>if i=st.bl.length then b else β i) i=β i:=fun i hi=>by simp only;rw[if_neg aA]
 have base:Mt P w0 ρ (fun i=>if i=st.bl.length then b else β i) {st with bl:=st.bl++[Blk.mk c T n]} a W':=by
  refine{sz:=m'.sz,sl:= ?_,pb:= ?_,df:=m'.df,n:=m'.n,bl:= ?_,inj:= ?_,own:= ?_,sep:= ?_,fr:=m'.fr,kp:=m'.kp,rd:=m'.rd,kle:=m'.kle,ag:=fun i hi=> ?_,ln:=by simp;have:=m'.ln;omega,kpH:=m'.kpH,kpB:= ?_,kn:=m'.kn,kb:=m'.kb}
  ·intro t s hs;obtain⟨v,hv,hm⟩:=m'.sl t s hs;exact⟨v,hv,YF hβ (fun b q t' i e=>m'.pb t b q t' i (by rw[<-e];exact hs)) hm⟩
  ·intro t b' o' s' i hs;have:=m'.pb t b' o' s' i hs;simp;omega
  ·intro b' B hB;by_cases qJ:b'<st.bl.length
   ·rw[aQ qJ]at hB;simp only[hβ b' qJ];exact m'.bl b' B hB
   ·rw[aN aA]at hB;have h0:b'-st.bl.length=0:=by
     rcases dX (b'-st.bl.length)with h|h
     ·exact h
     ·rw[aP (by simp;omega)]at hB;cases hB
    rw[h0]at hB;simp at hB;subst hB;rw[if_pos aA];exact⟨hb,hn,h1⟩
  ·intro i j hi hj uQ;simp only[aL,aO,bR]at hi hj;split at uQ<;>split at uQ
   ·omega
   ·rename_i h1 h2;exact absurd uQ.symm (pI j aA)
   ·rename_i h1 h2;exact absurd uQ (pI i aA)
   ·exact m'.inj i j aA aA uQ
  ·intro i hi;simp only[aL,aO,bR]at hi;split
   ·exact .inl hw
   ·exact m'.own i aA
  ·intro i hi;simp only[aL,aO,bR]at hi;split
   ·exact hH
   ·exact m'.sep i aA
  ·have:=m'.ln;rw[if_neg aA];exact m'.ag i hi
  ·intro i hi;simp only[aL,aO,bR]at hi;split
   ·exact hK
   ·exact m'.kpB i aA
 refine base.set ?_ ?_ d
 ·simp[ML]
 ·rintro b' q t i h;cases h;simp
def Mt.bind (m:Mt P w0 ρ β st a W) (pP:Au st=true) (v:Value) (d:Option Tmp):Mt P w0 (ρ++[v]) β (Do st d) (a.put d v) W:=by
 unfold Au at pP;simp only[aT,dC]at pP;obtain⟨⟨⟨h1,h2⟩,h3⟩,h4⟩:=pP;have hn:=m.n;have base:Mt P w0 (ρ++[v]) β {st with n:=st.n+1} a W:=by
  refine{sz:=m.sz,sl:= ?_,pb:=m.pb,df:=m.df,n:=by simp[hn],bl:= ?_,inj:=m.inj,own:=m.own,sep:=m.sep,fr:=m.fr,kp:=m.kp,rd:=m.rd,kle:=m.kle,ag:=m.ag,ln:=m.ln,kpH:=m.kpH,kpB:=m.kpB,kn:= ?_,kb:= ?_}
  ·intro t s hs;obtain⟨x,hx,hm⟩:=m.sl t s hs;refine⟨x,hx,?_⟩;have hl:=h1 s (aJ hs);rw[<-hn]at hl;cases s with
   |x s=>simp only[ML,SL.lt]at hm hl⊢;rw[Ey P ρ [v] s hl];exact hm
   |p b o s i=>simp only[ML,SL.lt]at hm hl⊢;rw[Ey P ρ [v] i hl];exact hm
   |u=>trivial
  ·intro b B hB;have hl:=h2 B (aJ hB);rw[<-hn]at hl;rw[Ey P ρ [v] B.c hl];exact m.bl b B hB
  ·intro r hr;have hl:=h3 r hr;rw[<-hn]at hl;exact(DO P ρ [v] r hl).2 (m.kn r hr)
  ·intro p hp;have hl:=h4 p hp;rw[<-hn]at hl;rw[Ey P ρ [v] p.1 hl];exact m.kb p hp
 refine base.set ?_ ?_ d
 ·show v=(ρ++[v]).getD st.n undef;rw[<-hn];simp
 ·rintro b q t i h;cases h
def Mt.sto (m:Mt P w0 ρ β st a W) {b:Nat} {B:Blk} (hB:st.bl[b]? =some B) {c:SV} (hn:(D P ρ c).cells.size=B.n) (h1:i8 (D P ρ c).cells) (d:Option Tmp):
  Mt P w0 ρ β (St.set {st with bl:=st.bl.set b {B with c:=c}} d (.x (.k undef))) (a.put d undef) (W.setRow (β b) (D P ρ c).cells):=by
 have oV:b<st.bl.length:=(aH.1 hB).1;have hb:=(m.bl b B hB).1;have base:Mt P w0 ρ β {st with bl:=st.bl.set b {B with c:=c}} a (W.setRow (β b) (D P ρ c).cells):=by
  refine{sz:=m.sz,sl:=m.sl,pb:= ?_,df:=m.df,n:=m.n,bl:= ?_,inj:= ?_,own:= ?_,sep:= ?_,fr:= ?_,kp:=fun k ob hk=> ?_,rd:=m.rd,kle:=m.kle,ag:=m.ag,ln:=by simpa using m.ln,kpH:=m.kpH,kpB:=fun i hi=>m.kpB i (by simpa using hi),kn:=m.kn,kb:=m.kb}
  ·intro t b' o' s' i hs;have:=m.pb t b' o' s' i hs;simpa using this
  ·intro b' B' sN;simp only[bZ]at sN;split at sN
   ·rename_i e;subst e;simp only[dF]at sN;subst sN;exact⟨setRow_heap W (β b) _ _ B.T (0,0) hb,hn,h1⟩
   ·rename_i pI;obtain⟨g1,g2⟩:=m.bl b' B' sN;refine⟨?_,g2⟩;rw[setRow_other]
    ·exact g1
    ·intro e;exact pI (m.inj b b' oV (aH.1 sN).1 e.symm)
  ·intro i j hi hj;simp only[cD]at hi hj;exact m.inj i j hi hj
  ·intro i hi;simp only[cD]at hi;exact m.own i hi
  ·intro i hi;simp only[cD]at hi;exact m.sep i hi
  ·refine⟨m.fr.os,m.fr.tape,m.fr.output,by simpa using m.fr.size,fun k hk hn=> ?_,fun k ob hk=> ?_,m.fr.dom,m.fr.dr⟩
   ·rw[setRow_other _ _ _ _ (fun e=>by
     rcases m.own b oV with h|h
     ·omega
     ·rw[e]at hn;exact h hn)];exact m.fr.block k hk hn
   ·rw[setRow_other _ _ _ _ (fun e=>by have:=m.sep b oV;rw[e,this]at hk;cases hk)];exact m.fr.holds k ob hk
  ·rw[setRow_other _ _ _ _ (fun e=>by have:=m.kpB b oV;rw[e,this]at hk;cases hk)];exact m.kp k ob hk
 exact base.set (s:= .x (.k undef)) (v:=undef) rfl (by rintro b q t i h;cases h) d
def Mt.lt (m:Mt P w0 ρ β st a W) {i:Nat} (hi:i<st.bl.length):β i<W.heap.size:=by
 obtain⟨B,hB⟩:∃B,st.bl[i]? =some B:=⟨_,aG hi⟩;exact y5 (m.bl i B hB).1
def Mt.step (m:Mt P w0 ρ β st a W) {H':PH} {W':World} (hs:Step w0.H W H' W'):Mt P {w0 with H:=H'} ρ β st a W':=
 {m with
  bl:=fun b B hB=>by
   have oV:b<st.bl.length:=(aH.1 hB).1;obtain⟨h1,h2⟩:=m.bl b B hB;exact⟨by rw[hs.block _ (m.lt oV) (m.sep b oV)];exact h1,h2⟩
  sep:=fun b hb=>by
   cases e:H' (β b)with
   |none=>exact e
   |some o=>
    rcases hs.dom (β b) (by simp[e])with h|h
    ·exact absurd (m.sep b hb) h
    ·have:=m.lt hb;omega
  fr:=m.fr.trans hs
  kp:=fun k ob hk=>by
   rw[hs.block k (y5 (m.kp k ob hk)) (m.kpH k (by rw[show w0.K k=some ob from hk];simp))];exact m.kp k ob hk
  kpH:=fun k hk=>by
   cases e:H' k with
   |none=>exact e
   |some o=>
    rcases hs.dom k (by simp[e])with h|h
    ·exact absurd (m.kpH k hk) h
    ·cases e2:w0.K k with
     |none=>exact absurd e2 hk
     |some o2=>have:=y5 (m.kp k o2 e2);omega}
def Mt.grow (m:Mt P w0 ρ β st a W) {H':PH} (pT:H'.In W) (a2w:∀b,b<st.bl.length->H' (β b)=none) (rE:∀b,H' b≠none->w0.H b≠none\/w0.w.heap.size<=b) (hK:∀k,w0.K k≠none->H' k=none):Mt P {w0 with H:=H'} ρ β st a W:=
 {m with
  sep:=a2w
  kpH:=hK
  fr:=⟨m.fr.os,m.fr.tape,m.fr.output,m.fr.size,m.fr.block,pT,fun b hb=>(rE b hb).elim (m.fr.dom b) .inr,m.fr.dr⟩}
def PH.put_in {H:PH} {w:World} {b:Nat} {o:Obj} (h:H.In w) (hb:w.heap[b]? =some o):(H.put b o).In w:=fun k ob hk=>by
 unfold PH.put at hk;split at hk
 ·rename_i e;subst e;cases hk;exact hb
 ·exact h k ob hk
def Mt.grown {W':World} (m:Mt P w0 ρ β st a W) {b:Nat} {ob:Obj} (hx:Ext W W') (qT:W'.heap[b]? =some ob) (hb:W.heap.size<=b):Mt P {w0 with H:=w0.H.put b ob} ρ β st a W':=by
 refine(m.ext hx).grow (H':=w0.H.put b ob) (PH.put_in (m.fr.holds.ext hx) qT) (fun b' qJ=> ?_) (fun b' qJ=> ?_) (fun k hk=> ?_)
 ·unfold PH.put;rw[if_neg (by have:=m.lt qJ;omega)];exact m.sep b' qJ
 ·unfold PH.put at qJ;split at qJ
  ·rename_i e;subst e;exact .inr (bM m.fr.size hb)
  ·exact .inl qJ
 ·unfold PH.put;rw[if_neg (fun e=>by
   cases e2:w0.K k with
   |none=>exact hk e2
   |some o2=>have:=y5 (m.kp k o2 e2);omega)]
  exact m.kpH k hk
def Mt.know (m:Mt P w0 ρ β st a W) {c:SV} {b:Bool} (h:D P ρ c= .bool b):Mt P w0 ρ β (st.know P c b) a W:=by
 refine{m with kb:= ?_};intro p hp;simp only[St.know,bC]at hp;rcases hp with hp|hp
 ·split at hp
  ·rename_i x;split at hp
   ·rename_i tC;obtain⟨b',qJ⟩:∃b',D P ρ x= .bool b':=EB m.kn tC;simp only[aX,bV,or_false]at hp;rcases hp with rfl|rfl
    ·exact h
    ·simp only[D,qJ,Ee,Value.bool.injEq]at h;rw[<-h];simp[qJ]
   ·simp only[aX,bV,or_false]at hp;subst hp;exact h
  ·simp only[aX,bV,or_false]at hp;subst hp;exact h
 ·exact m.kb p hp
structure More (st st':St):Prop where
 es:st'.es=st.es
 js:st'.js=st.js
 rd:st'.rd=st.rd
 sl:st'.sl=st.sl
 bl:st'.bl=st.bl
 kb:st'.kb=st.kb
 n:st'.n=st.n
 d:st'.d=st.d
def More.refl (st:St):More st st:=⟨rfl,rfl,rfl,rfl,rfl,rfl,rfl,rfl⟩
def Mt.more (m:Mt P w0 ρ β st a W) {st':St} (h:More st st') (hk:∀r∈st'.kn,r.holds P ρ):Mt P w0 ρ β st' a W:=
 {sz:=by rw[h.sl];exact m.sz,sl:=by rw[h.sl];exact m.sl,pb:=by rw[h.sl,h.bl];exact m.pb,df:=m.df,n:=by rw[h.n];exact m.n,bl:=by rw[h.bl];exact m.bl,inj:=by rw[h.bl];exact m.inj,own:=by rw[h.bl];exact m.own,sep:=by rw[h.bl];exact m.sep,fr:=m.fr,kp:=m.kp,rd:=by rw[h.rd];exact m.rd,kle:=m.kle,ag:=m.ag,ln:=by rw[h.bl];exact m.ln,kpH:=m.kpH,kpB:=by rw[h.bl];exact m.kpB,kn:=hk,kb:=by rw[h.kb];exact m.kb}
def Ss {nx:List (List Value->PH->Prop)} {k:St->Option Tree}:∀{rs:List Rq} {st:St} {t:Tree},Fo P rs st k=some t->(∀r∈st.kn,r.holds P ρ)->den P G X t nx ρ H->
  ∃st' t',More st st'/\(∀r∈st'.kn,r.holds P ρ)/\(∀r∈rs,r.holds P ρ)/\k st'=some t'/\den P G X t' nx ρ H:=by
 intro rs;induction rs with
 |nil=>intro st t h hk hd;exact⟨st,t,More.refl st,hk,aD,h,hd⟩
 |cons r rs ih=>
  intro st t h hk hd;simp only[Fo]at h;split at h
  ·rename_i he;obtain⟨st',t',h1,h2,h3,h4,h5⟩:=ih h hk hd;refine⟨st',t',h1,h2,fun q hq=> ?_,h4,h5⟩;rcases aX.1 hq with rfl|hq
   ·exact EB hk he
   ·exact h3 q hq
  ·rw[fJ]at h;obtain⟨t1,h,rfl⟩:=h;obtain⟨hr,hd⟩:=hd;obtain⟨st',t',h1,h2,h3,h4,h5⟩:=ih h (fun q hq=>by
    rcases aX.1 hq with rfl|hq
    ·exact hr
    ·exact hk q hq) hd
   refine⟨st',t',⟨h1.es,h1.js,h1.rd,h1.sl,h1.bl,h1.kb,h1.n,h1.d⟩,h2,fun q hq=> ?_,h4,h5⟩;rcases aX.1 hq with rfl|hq
   ·exact hr
   ·exact h3 q hq
def EK (P:Program) (G X:Value->PH->Prop) (nx:List (List Value->PH->Prop)) (ρ:List Value) (β:Nat->Nat) (st:St) (a:Act) (W:World) (H:PH) (pf:Bool) (o:Oper) (k:St->Option Tree):Prop:=
 ∃st',More st st'/\(∀r∈st'.kn,r.holds P ρ)/\qg P ρ β st a W o (Ak P st o).2/\
  match(Ak P st o).2 with
  | .val s=>∃t,k (st'.set o.dst s)=some t/\den P G X t nx ρ H
  | .new c T n=>(∃t,Wq st o.dst=true/\Au st'=true/\k (Do st' o.dst)=some t/\∀b,H b=none->den P G X t nx (ρ++[.pointer (some ⟨b,0,none⟩)]) (H.put b (.cells (D P ρ c).cells T (0,0))))\/
    (∃t,k (St.set {st' with bl:=st'.bl++[Blk.mk c T n]} o.dst (.p st'.bl.length 0 0 noI))=some t/\den P G X t nx ρ H)
  | .sto b c=>∃B t,st.bl[b]? =some B/\k (St.set {st' with bl:=st'.bl.set b {B with c:=c}} o.dst (.x (.k undef)))=some t/\den P G X t nx ρ H
  | .call f args=>∃t,Au st'=true/\k (Do st' o.dst)=some t/\∀w,H.In w->Calls P f (args.map (D P ρ)).toArray w fun e w'=>(∃v H',e= .returned v/\Step H w H' w'/\(pf=true->Pl H H')/\den P G X t nx (ρ++[v]) H')\/(∃x,e=pnE x/\PnX X pf H w x w')
  | .prim args=>∃t v,Au st'=true/\k (Do st' o.dst)=some t/\(∀w,H.In w->(execOp (e8 o.op.operands.toList (args.map (D P ρ))) o).run P w= .ok (.value v) w)/\den P G X t nx (ρ++[v]) H
  | .eff args=>∃t,Au st'=true/\k (Do st' o.dst)=some t/\∀w,H.In w->StpX P (PnX X pf H w) o (e8 o.op.operands.toList (args.map (D P ρ))) w fun v w'=>∃H',Step H w H' w'/\(pf=true->Pl H H')/\den P G X t nx (ρ++[v]) H'
  | .ext f args=>∃t v,Au st'=true/\k (Do st' o.dst)=some t/\(∀w,H.In w->(callFunc f (args.map (D P ρ)).toArray).run P w= .ok (.value v) w)/\den P G X t nx (ρ++[v]) H
  | .mk args=>∃t,Au st'=true/\k (Do st' o.dst)=some t/\∃(mk:Nat->Value) (ob:Obj),(∀w,(execOp (e8 o.op.operands.toList (args.map (D P ρ))) o).run P w= .ok (.value (mk w.heap.size)) (w.alloc ob))/\∀b,H b=none->den P G X t nx (ρ++[mk b]) (H.put b ob)
  | .bad=>False
def EL {nx:List (List Value->PH->Prop)} {k:St->Option Tree} {pf:Bool} {id i:Nat} {o:Oper} {t:Tree} (m:Mt P w0 ρ β st a W) (h:bp P pf id i o st k=some t) (hd:den P G X t nx ρ H):EK P G X nx ρ β st a W H pf o k:=by
 unfold bp at h;have hs:=YE m o;unfold Snd at hs;unfold EK;generalize Ak P st o=p at h hs⊢;obtain⟨rs,r⟩:=p;simp only at h hs⊢;obtain⟨st',t',h1,h2,h3,h4,h5⟩:=Ss h m.kn hd;have hs:=hs h3;refine⟨st',h1,h2,hs,?_⟩;cases r with
 |val s=>exact⟨t',h4,h5⟩
 |new c T n=>
  simp only at h4⊢;split at h4
  ·rename_i he;have he':Wq st o.dst=true:=by unfold Wq at he⊢;rw[h1.es]at he;exact he
   split at h4
   ·rename_i pP;rw[aT]at pP;rw[fJ]at h4;obtain⟨t1,h4,rfl⟩:=h4;exact .inl ⟨t1,he',pP.1,h4,h5⟩
   ·cases h4
  ·exact .inr ⟨t',h4,h5⟩
 |sto b c=>
  simp only[h1.bl]at h4;have pX:=hs;obtain⟨_,B,hB,_⟩:=pX;simp only[hB]at h4;refine⟨B,t',hB,?_,h5⟩;rw[h1.bl];exact h4
 |call f args=>
  simp only at h4;split at h4
  ·rename_i pP;rw[aT]at pP;rw[fJ]at h4;obtain⟨t1,h4,rfl⟩:=h4;exact⟨t1,pP.1,h4,h5⟩
  ·cases h4
 |prim args=>
  simp only at h4;split at h4
  ·rename_i pP;rw[aT]at pP;rw[fJ]at h4;obtain⟨t1,h4,rfl⟩:=h4;obtain⟨v,hv,hd⟩:=h5;exact⟨t1,v,pP.1,h4,hv,hd⟩
  ·cases h4
 |eff args=>
  simp only at h4;split at h4
  ·rename_i pP;rw[aT]at pP;rw[fJ]at h4;obtain⟨t1,h4,rfl⟩:=h4;exact⟨t1,pP.1,h4,h5⟩
  ·cases h4
 |ext f args=>
  simp only at h4;split at h4
  ·rename_i pP;rw[aT]at pP;rw[fJ]at h4;obtain⟨t1,h4,rfl⟩:=h4;obtain⟨v,hv,hd⟩:=h5;exact⟨t1,v,pP.1,h4,hv,hd⟩
  ·cases h4
 |mk args=>
  simp only at h4;split at h4
  ·rename_i pP;rw[aT]at pP;rw[fJ]at h4;obtain⟨t1,h4,rfl⟩:=h4;exact⟨t1,pP.1,h4,h5⟩
  ·cases h4
 |bad=>
  simp only[dF]at h4;subst h4;exact h5
def EM {nx:List (List Value->PH->Prop)} {k:St->Option Tree} {pf:Bool} {ck:Nat->Oper->St->Bool} {id i:Nat} {o:Oper} {t:Tree} (h:Pv P pf ck id i o st k=some t) (hd:den P G X t nx ρ H):ck i o st=true/\bp P pf id i o st k=some t:=by
 unfold Pv at h;split at h
 ·rename_i hc;exact⟨hc,h⟩
 ·simp only[dF]at h;subst h;exact hd.elim
def YG (m:Mt P w0 ρ β st a W) {ops:Array Oper} {j:Nat} {c:SV} (h:((ops[j]?).bind (·.dst)).bind (fun d:Nat=>st.sl[d]?)=some (.x c)):
  yielded ops a.tmps j=match D P ρ c with| .bool b=>some b|_=>none:=by
 rw[Option.bind_eq_some_iff]at h;obtain⟨d,hd,hs⟩:=h;obtain⟨v,hv,hm⟩:=m.sl d _ hs;unfold yielded;rw[hd];simp only[Option.bind_some,hv];rw[show v=D P ρ c from hm];cases D P ρ c<;>rfl
def EN {nx:List (List Value->PH->Prop)} {k:St->Option Tree} {ops:Array Oper} {pf:Bool} {ck:Nat->Oper->St->Bool} {id i:Nat} {o:Oper} {L:List Nat} {t:Tree} (m:Mt P w0 ρ β st a W) (ho:ops[i]? =some o) (h:Aq P pf ck ops id k (i::L) st=some t) (hd:den P G X t nx ρ H):
  (Region.wanted o (yielded ops a.tmps)=true/\∃st' t',Mt P w0 ρ β st' a W/\st'.bl=st.bl/\st'.d=st.d/\st'.sl=st.sl/\Pv P pf ck id i o st' (Aq P pf ck ops id k L)=some t'/\den P G X t' nx ρ H)\/
  (Region.wanted o (yielded ops a.tmps)=false/\∃st' t',Mt P w0 ρ β st' a W/\st'.bl=st.bl/\st'.d=st.d/\st'.sl=st.sl/\Aq P pf ck ops id k L (st'.set o.dst (.x (.k undef)))=some t'/\den P G X t' nx ρ H):=by
 simp only[Aq,ho]at h;split at h
 ·rename_i hg;exact .inl ⟨by simp[Region.wanted,hg],st,t,m,rfl,rfl,rfl,h,hd⟩
 ·rename_i j want hg;split at h
  ·rename_i c hc;have hy:=YG m hc;have hD:=px (P:=P) (ρ:=ρ) m.kb c;have hw:Region.wanted o (yielded ops a.tmps)=(yielded ops a.tmps j==some want):=by simp[Region.wanted,hg]
   rw[hw,hy];split at h
   ·rename_i b hl;rw[hl]at hD;simp only[D]at hD;rw[<-hD];split at h
    ·rename_i hb;rw[beq_iff_eq]at hb;subst hb;exact .inl ⟨aD,st,t,m,rfl,rfl,rfl,h,hd⟩
    ·rename_i hb;exact .inr ⟨by simpa using hb,st,t,m,rfl,rfl,rfl,h,hd⟩
   ·rename_i vs hl;rw[hl]at hD;simp only[D]at hD;rw[<-hD];exact .inr ⟨aD,st,t,m,rfl,rfl,rfl,h,hd⟩
   ·generalize Me st.kb c=c' at h hD;split at h
    ·rename_i b _;obtain⟨st',t',h1,h2,h3,h4,h5⟩:=Ss h m.kn hd;have hb:D P ρ c'= .bool b:=h3 (.isb b c') aD;have m':=m.more h1 h2;rw[<-hD,hb];split at h4
     ·rename_i vZ;rw[beq_iff_eq]at vZ;subst vZ;exact .inl ⟨aD,_,t',m'.know hb,by simp[St.know,h1.bl],by simp[St.know,h1.d],by simp[St.know,h1.sl],h4,h5⟩
     ·rename_i vZ;exact .inr ⟨by simpa using vZ,_,t',m'.know hb,by simp[St.know,h1.bl],by simp[St.know,h1.d],by simp[St.know,h1.sl],h4,h5⟩
    obtain⟨st',t',h1,h2,h3,h4,h5⟩:=Ss h m.kn hd;obtain⟨b,hb⟩:∃b,D P ρ c'= .bool b:=h3 (.bool c') aD;have m':=m.more h1 h2;rw[<-hD,hb];split at h4
    ·rename_i t1 t2 e1 e2;simp only[dF]at h4;by_cases vZ:b=want
     ·subst vZ;refine .inl ⟨aD,_,t1,m'.know hb,by simp[St.know,h1.bl],by simp[St.know,h1.d],by simp[St.know,h1.sl],e1,?_⟩;cases b with
      |true=>simp only[if_true]at h4;subst h4;exact h5.1 hb
      |false=>simp only[aZ,if_false]at h4;subst h4;exact h5.2 hb
     ·have hbn:b= !want:=by cases b<;>cases want<;>simp_all
      refine .inr ⟨by simpa using vZ,_,t2,m'.know (b:= !want) (by rw[hb,hbn]),by simp[St.know,h1.bl],by simp[St.know,h1.d],by simp[St.know,h1.sl],e2,?_⟩;cases want with
      |true=>simp only[if_true]at h4;subst h4;exact h5.2 (by rw[hb,hbn];rfl)
      |false=>simp only[aZ,if_false]at h4;subst h4;exact h5.1 (by rw[hb,hbn];rfl)
    ·cases h4
  ·cases h
structure Rg (st0:St) (β0:Nat->Nat) (st:St) (β:Nat->Nat):Prop where
 bt:∀b,b<st0.bl.length->β b=β0 b
 ln:st0.bl.length<=st.bl.length
def Rg.congr {st0 st st':St} {β0 β:Nat->Nat} (h:Rg st0 β0 st β) (hb:st'.bl=st.bl):Rg st0 β0 st' β:=⟨h.bt,by rw[hb];exact h.ln⟩
def Rg.set {st0 st:St} {β0 β:Nat->Nat} (h:Rg st0 β0 st β) (d:Option Tmp) (s:SL):Rg st0 β0 (st.set d s) β:=by
 cases d<;>exact⟨h.bt,h.ln⟩
def Rg.bind {st0 st:St} {β0 β:Nat->Nat} (h:Rg st0 β0 st β) (d:Option Tmp):Rg st0 β0 (Do st d) β:=(h.congr (st':={st with n:=st.n+1}) rfl).set d _
def EO {T:TypeId} {x:Operand} {b q s:Nat} {i:SV} (h:st.get x=some (.p b q s i)):(Jr P st T x).2= .bad\/∃s',(Jr P st T x).2= .val s':=by
 unfold Jr;rw[h];simp only;split
 ·unfold ns bad
  repeat' split
  all_goals first|exact .inl rfl|exact .inr ⟨_,rfl⟩
 ·exact .inl rfl
def YH {T:TypeId} {x y:Operand} {b q s:Nat} {i:SV} (h:st.get x=some (.p b q s i)):(Pq P st T x y).2= .bad\/∃c,(Pq P st T x y).2= .sto b c:=by
 unfold Pq;rw[h];split
 ·rename_i b' q' s' i' v e _;cases e;split
  ·unfold nu bad
   repeat' split
   all_goals first|exact .inl rfl|exact .inr ⟨_,rfl⟩
  ·exact .inl rfl
 ·rename_i e _;cases e
 ·exact .inl rfl
def cm {x:Operand} {b:Nat} (h:Si st x=some b):∃q s i,st.get x=some (.p b q s i):=by
 unfold Si at h;split at h
 ·rename_i b' q s i hg;simp only[dF]at h;subst h;exact⟨q,s,i,hg⟩
 ·cases h
def Qb {o:Oper} (h:Iq st o=true):n9 P o=1/\((Ak P st o).2= .bad\/∃s,(Ak P st o).2= .val s):=by
 unfold Iq at h;split at h
 ·rename_i S x f ho;obtain⟨b,hb⟩:=eG.1 h;obtain⟨q,s,i,hg⟩:=cm hb;refine⟨by simp[n9,ho],?_⟩;simp only[Ak,ho];unfold bf bad;rw[hg];simp only
  repeat' split
  all_goals first|exact .inl rfl|exact .inr ⟨_,rfl⟩
 ·rename_i T x ix ho;obtain⟨b,hb⟩:=eG.1 h;obtain⟨q,s,i,hg⟩:=cm hb;refine⟨by simp[n9,ho],?_⟩;simp only[Ak,ho];unfold bg bad;rw[hg];split
  ·repeat' split
   all_goals first|exact .inl rfl|exact .inr ⟨_,rfl⟩
  ·rename_i e _;cases e
  ·exact .inl rfl
 ·cases h
def Xb {o:Oper} (h:mkB st o=true):n9 P o=2/\Iq st o=false:=by
 unfold mkB at h;split at h
 ·rename_i ho;simp[n9,Iq,ho]
 ·rename_i ho;simp[n9,Iq,ho]
 ·rename_i ho;simp[n9,Iq,ho]
 ·cases h
def ok0 {o:Oper} {tg:Nat} (h:Bd P st o 0 tg=true):n9 P o=0\/Iq st o=true:=by
 simpa[Bd]using h
def ok1 {o:Oper} {tg:Nat} (h:Bd P st o 1 tg=true):n9 P o<=1:=by simpa[Bd]using h
def ok2 {o:Oper} {tg:Nat} (h:Bd P st o 2 tg=true):n9 P o=2/\mkB st o=false:=by simpa[Bd]using h
def ok3 {o:Oper} {tg:Nat} (h:Bd P st o 3 tg=true):n9 P o=3\/mkB st o=true:=by simpa[Bd]using h
def ok5 {o:Oper} {tg:Nat} (h:Bd P st o 5 tg=true):∃T x q s i,o.op= .load T x/\st.get x=some (.p tg q s i):=by
 simp only[Bd]at h;split at h
 ·rename_i T x ho;obtain⟨q,s,i,hg⟩:=cm (by simpa using h);exact⟨T,x,q,s,i,ho,hg⟩
 ·cases h
def ok6 {o:Oper} {tg:Nat} (h:Bd P st o 6 tg=true):∃T x y q s i,o.op= .store T x y/\st.get x=some (.p tg q s i):=by
 simp only[Bd]at h;split at h
 ·rename_i T x y ho;obtain⟨q,s,i,hg⟩:=cm (by simpa using h);exact⟨T,x,y,q,s,i,ho,hg⟩
 ·cases h
def ok7 {o:Oper} {tg:Nat} (h:Bd P st o 7 tg=true):∃l,(Ak P st o).2= .prim l:=by
 simp only[Bd]at h;unfold bq at h;split at h
 ·rename_i l hl;exact⟨l,hl⟩
 ·cases h
def ok9 {o:Oper} {tg:Nat} (h:Bd P st o 9 tg=true):(∃l,(Ak P st o).2= .prim l)/\af o.op=true:=by
 simp only[Bd,aT]at h;refine⟨?_,h.2⟩;have h:=h.1;unfold bq at h;split at h
 ·exact⟨_,by assumption⟩
 ·cases h
def YI {o:Oper} {tg:Nat} (h:Bd P st o 10 tg=true):ah P o.op=true:=by simpa[Bd]using h
def ok8 {o:Oper} {tg:Nat} (h:Bd P st o 8 tg=true):frS tg (Ak P st o).2=true:=by simpa[Bd]using h
def YJ {tg n0:Nat} {r:Res} (h:frS tg r=true) (hn:tg=0\/n0<=tg):∀b c,r= .sto b c->n0<=b:=fun b c e=>by
 subst e;simp only[frS,aT,bne_iff_ne,decide_eq_true_eq]at h;omega
variable {c1:Bs} {K:PH}
def XT (P:Program) (c1:Bs) (K:PH) (X:Value->PH->Prop) (df:List Deferred) (x:Value) (w':World):Prop:=∃ρ' β' st' a' H',Mt P ⟨c1,H',K⟩ ρ' β' st' a' w'/\a'.defers=df/\X x H'
def EP {df:List Deferred} {nx:List (List Value->PH->Prop)} {k:St->Option Tree} {ops:Array Oper} {pf:Bool} {ck:Nat->Oper->St->Bool} {kd tg:Nat->Nat} {id dn:Nat} {st0:St} {β0:Nat->Nat} {R:Act->World->Prop}
  (hck:∀(i:Nat) (o:Oper) (st:St),ck i o st=true->Bd P st o (kd i) (tg i)=true) (vG:∀i,(kd i=5\/kd i=6)->tg i<st0.bl.length) (rO:∀i,kd i=8->tg i=0\/st0.bl.length<=tg i)
  (hk:∀st t ρ' β a W H,k st=some t->Mt P ⟨c1,H,K⟩ ρ' β st a W->ρ<+:ρ'->st.d=dn->den P G X t nx ρ' H->R a W):∀(L:List Nat) (st:St) (t:Tree) (ρ':List Value) (β:Nat->Nat) (a:Act) (W:World) (H:PH),a.defers=df->
  Aq P pf ck ops id k L st=some t->Mt P ⟨c1,H,K⟩ ρ' β st a W->ρ<+:ρ'->st.d=dn->Rg st0 β0 st β->den P G X t nx ρ' H->wpT P (XT P c1 K X df) ops kd (fun i=>β0 (tg i)) R L a W:=by
 intro L;induction L with
 |nil=>intro st t ρ' β a W H qB h m hp vH _ hd;exact hk st t ρ' β a W H h m hp vH hd
 |cons i L ih=>
  intro st t ρ' β a W H qB h m hp vH tV hd;cases ho:ops[i]? with
  |none=>simp[Aq,ho]at h
  |some o=>
   refine⟨o,ho,?_⟩;rcases EN m ho h hd with⟨hw,st1,t1,m1,pV,tD,tW,h1,oZ⟩|⟨hw,st1,t1,m1,pV,tD,tW,h1,oZ⟩
   ·refine .inr ⟨hw,?_⟩;obtain⟨pK,h1⟩:=EM h1 oZ;have pK:=hck i o st1 pK;obtain⟨st',hm,rB,hR,hc⟩:=EL m1 h1 oZ;have m':=m1.more hm rB;have pL:st'.d=dn:=by rw[hm.d,tD];exact vH
    have vI:=tV.congr pV;have pR:=vI.congr hm.bl;have hpv:∀b,b<st0.bl.length->β b=β0 b/\β b<W.heap.size/\H (β b)=none:=fun b hb=>by
     have oV:b<st'.bl.length:=aM hb pR.ln;exact⟨pR.bt b hb,m'.lt oV,m'.sep b oV⟩
    have hS:StpX P (XT P c1 K X df) o a.eval W fun v w'=>((∀b c,(Ak P st1 o).2= .sto b c->st0.bl.length<=b)->∀b,b<st0.bl.length->w'.heap[β0 b]? =W.heap[β0 b]?)/\wpT P (XT P c1 K X df) ops kd (fun i=>β0 (tg i)) R L (a.put o.dst v) w':=by
     cases pJ:(Ak P st1 o).2 with
     |val s=>
      rw[pJ]at hR hc;obtain⟨sQ,oW,v,hv,oS⟩:=hR;obtain⟨t2,h2,pE⟩:=hc;have mm:=m'.set hv (by rw[hm.bl];exact sQ) o.dst;unfold StpX;rw[oS W (.inr (.inl (Ext.refl _)))];exact⟨fun _ _ _=>rfl,ih _ _ _ _ _ _ _ (by rw[An];exact qB) h2 mm hp (by cases o.dst<;>exact pL) (pR.set o.dst s) pE⟩
     |new c T n=>
      rw[pJ]at hR hc;obtain⟨h3,qI,sR,oS⟩:=hR;unfold StpX;rw[oS W];refine⟨fun _ b hb=> ?_,?_⟩
      ·obtain⟨e,oV,_⟩:=hpv b hb;rw[<-e];exact(Ext.alloc W _).block' oV
      have qT:(W.alloc (.cells (D P ρ' c).cells T)).heap[W.heap.size]? =some (.cells (D P ρ' c).cells T (0,0)):=by show(W.heap.push _)[W.heap.size]? =_;simp
      have hH:H W.heap.size=none:=by
       cases e:H W.heap.size with
       |none=>rfl
       |some ob=>have:=y5 (m'.fr.holds _ _ e);omega
      have hKs:K W.heap.size=none:=by
       cases e:K W.heap.size with
       |none=>rfl
       |some ob=>have:=y5 (m'.kp _ _ e);omega
      rcases hc with⟨t2,_,pP,h2,pE⟩|⟨t2,h2,pE⟩
      ·have mm:=(m'.grown (ob:= .cells (D P ρ' c).cells T (0,0)) (Ext.alloc W (.cells (D P ρ' c).cells T)) qT (aS _)).bind pP (.pointer (some ⟨W.heap.size,0,none⟩)) o.dst;exact ih _ _ _ _ _ _ _ (by rw[An];exact qB) h2 mm (hp.trans (eW _ _)) (by cases o.dst<;>exact pL) (pR.bind o.dst) (pE _ hH)
      ·have mm:=m'.newB (T:=T) (Ext.alloc W (.cells (D P ρ' c).cells T)) (b:=W.heap.size) qT qI sR (fun i hi e=>by have:=m'.lt hi;omega) (m'.fr.size) hH hKs o.dst;refine ih _ _ _ _ _ _ _ (by rw[An];exact qB) h2 mm hp (by cases o.dst<;>exact pL) ?_ pE;refine Rg.set (st:={st' with bl:=st'.bl++[Blk.mk c T n]}) ⟨fun b hb=> ?_,by simp;have:=pR.ln;omega⟩ o.dst _;rw[if_neg (by have:=pR.ln;omega)];exact pR.bt b hb
     |sto b c=>
      rw[pJ]at hR hc;obtain⟨h4,B',sN,qI,sR,oS⟩:=hR;obtain⟨B,t2,hB,h2,pE⟩:=hc;obtain rfl:B'=B:=fG.inj (sN.symm.trans hB);have hBs:st'.bl[b]? =some B':=by rw[hm.bl];exact hB
      unfold StpX;have wZ:=(m'.bl b B' hBs).1;rw[oS W wZ];have mm:=m'.sto hBs qI sR o.dst;exact⟨fun h b' qJ=>by
        have xA:=h b c rfl;obtain⟨e,_,_⟩:=hpv b' qJ;rw[<-e];exact setRow_other _ _ _ _ fun e2=>absurd (m'.inj _ _ (aM qJ pR.ln) (aH.1 hBs).1 e2) aA,ih _ _ _ _ _ _ _ (by rw[An];exact qB) h2 mm hp (by cases o.dst<;>exact pL) (Rg.set (st:={st' with bl:=st'.bl.set b {B' with c:=c}}) ⟨pR.bt,by simpa using pR.ln⟩ o.dst _) pE⟩
     |call f args=>
      rw[pJ]at hR hc;obtain⟨h4,oS⟩:=hR;obtain⟨t2,pP,h2,rT⟩:=hc;unfold StpX;rw[oS W];refine(rT W m'.fr.holds).mono fun e w' hh=> ?_;rcases hh with⟨v,H',he,pU,_,pE⟩|⟨x,he,_,H',pU,hx⟩
      rotate_left
      ·exact .inr ⟨x,he,ρ',β,st',a,H',m'.step pU,qB,hx⟩
      refine .inl ⟨v,he,fun _ b hb=> ?_,?_⟩
      ·obtain⟨e,oV,hn⟩:=hpv b hb;rw[<-e];exact pU.block _ oV hn
      ·exact ih _ _ _ _ _ _ _ (by rw[An];exact qB) h2 ((m'.step pU).bind pP v o.dst) (hp.trans (eW _ _)) (by cases o.dst<;>exact pL) (pR.bind o.dst) pE
     |prim args=>
      rw[pJ]at hR hc;obtain⟨h4,oS⟩:=hR;obtain⟨t2,v,pP,h2,hv,pE⟩:=hc;unfold StpX;rw[oS,hv W m'.fr.holds];exact⟨fun _ _ _=>rfl,ih _ _ _ _ _ _ _ (by rw[An];exact qB) h2 (m'.bind pP v o.dst) (hp.trans (eW _ _)) (by cases o.dst<;>exact pL) (pR.bind o.dst) pE⟩
     |eff args=>
      rw[pJ]at hR hc;obtain⟨h4,oS⟩:=hR;obtain⟨t2,pP,h2,rT⟩:=hc;refine StpX.cg oS<|StpX.mono2 (rT W m'.fr.holds) (fun v w' ⟨H',pU,_,pE⟩=>⟨fun _ b hb=> ?_,?_⟩) fun x w' ⟨_,H',pU,hx⟩=>⟨ρ',β,st',a,H',m'.step pU,qB,hx⟩
      ·obtain⟨e,oV,hn⟩:=hpv b hb;rw[<-e];exact pU.block _ oV hn
      ·exact ih _ _ _ _ _ _ _ (by rw[An];exact qB) h2 ((m'.step pU).bind pP v o.dst) (hp.trans (eW _ _)) (by cases o.dst<;>exact pL) (pR.bind o.dst) pE
     |ext f args=>
      rw[pJ]at hR hc;obtain⟨h4,oS⟩:=hR;obtain⟨t2,v,pP,h2,hv,pE⟩:=hc;unfold StpX;rw[oS,hv W m'.fr.holds];exact⟨fun _ _ _=>rfl,ih _ _ _ _ _ _ _ (by rw[An];exact qB) h2 (m'.bind pP v o.dst) (hp.trans (eW _ _)) (by cases o.dst<;>exact pL) (pR.bind o.dst) pE⟩
     |mk args=>
      rw[pJ]at hR hc;obtain⟨_,oS⟩:=hR;obtain⟨t2,pP,h2,mk,ob,hr,pE⟩:=hc;unfold StpX;rw[oS,hr W];refine⟨fun _ b hb=> ?_,?_⟩
      ·obtain⟨e,oV,_⟩:=hpv b hb;rw[<-e];exact(Ext.alloc W _).block' oV
      have qT:(W.alloc ob).heap[W.heap.size]? =some ob:=by show(W.heap.push _)[W.heap.size]? =_;simp
      have hH:H W.heap.size=none:=by
       cases e:H W.heap.size with
       |none=>rfl
       |some ob=>have:=y5 (m'.fr.holds _ _ e);omega
      have mm:=(m'.grown (Ext.alloc W ob) qT (aS _)).bind pP (mk W.heap.size) o.dst;exact ih _ _ _ _ _ _ _ (by rw[An];exact qB) h2 mm (hp.trans (eW _ _)) (by cases o.dst<;>exact pL) (pR.bind o.dst) (pE _ hH)
     |bad=>rw[pJ]at hc;exact hc.elim
    by_cases k0:kd i=0
    ·rw[k0]at pK;have pK:=ok0 pK;cases pJ:(Ak P st1 o).2 with
     |val s=>
      rw[pJ]at hR hc;obtain⟨sQ,oW,v,hv,oS⟩:=hR;obtain⟨t2,h2,pE⟩:=hc;have mm:=m'.set hv (by rw[hm.bl];exact sQ) o.dst;exact .inl ⟨k0,v,fun w=>oS w (pK.imp (fun h=>h) (fun h=> .inr (.inr h))),ih _ _ _ _ _ _ _ (by rw[An];exact qB) h2 mm hp (by cases o.dst<;>exact pL) (pR.set o.dst s) pE⟩
     |_=>
      exfalso;rcases pK with h0|h0
      ·rw[pJ]at hR hc
       first
        |(have:=hR.1;omega)
        |(have:=(Xb (P:=P) hR.1).1;omega)
        |exact hc.elim
      ·rcases(Qb (P:=P) h0).2 with h|⟨s,h⟩
       ·rw[h]at hc;exact hc.elim
       ·rw[h]at pJ;cases pJ
    by_cases k5:kd i=5
    ·rw[k5]at pK;obtain⟨T,x,q,s,ix,uD,sS⟩:=ok5 pK;have vJ:=m1.ptrB sS;have rS:β0 (tg i)=β (tg i):=(vI.bt _ (vG i (.inl k5))).symm;have e:(Ak P st1 o)=Jr P st1 T x:=by simp[Ak,uD]
     rcases EO (P:=P) (T:=T) sS with hb|⟨s',hb⟩
     ·rw[e,hb]at hc;exact hc.elim
     ·rw[e,hb]at hc hR;obtain⟨sQ,oW,v,hv,oS⟩:=hR;obtain⟨t2,h2,pE⟩:=hc;have mm:=m'.set hv (by rw[hm.bl];exact sQ) o.dst;have nxt:=ih _ _ _ _ _ _ _ (by rw[An];exact qB) h2 mm hp (by cases o.dst<;>exact pL) (pR.set o.dst s') pE;obtain⟨Bk,hBk⟩:∃B,st1.bl[tg i]? =some B:=⟨_,aG vJ⟩;refine .inr (.inl ⟨k5,v,_,by show W.heap[β0 (tg i)]? =_;rw[rS];exact(m1.bl _ Bk hBk).1,fun w hw=>oS w (.inr (.inr (.inl ⟨T,x,tg i,q,s,ix,uD,sS,?_⟩))),nxt⟩);change w.heap[β0 (tg i)]? =_ at hw;rw[rS]at hw;rw[hw,(m1.bl _ Bk hBk).1]
    by_cases k6:kd i=6
    ·rw[k6]at pK;obtain⟨T,x,y,q,s,ix,uD,sS⟩:=ok6 pK;have rS:β0 (tg i)=β (tg i):=(vI.bt _ (vG i (.inr k6))).symm;have e:(Ak P st1 o)=Pq P st1 T x y:=by simp[Ak,uD]
     rcases YH (P:=P) (T:=T) (y:=y) sS with hb|⟨c,hb⟩
     ·rw[e,hb]at hc;exact hc.elim
     ·rw[e,hb]at hc hR;obtain⟨h4,B',sN,qI,sR,oS⟩:=hR;obtain⟨B,t2,hB,h2,pE⟩:=hc;obtain rfl:B'=B:=fG.inj (sN.symm.trans hB);have hBs:st'.bl[tg i]? =some B':=by rw[hm.bl];exact hB
      have wZ:=(m'.bl _ B' hBs).1;have mm:=m'.sto hBs qI sR o.dst;refine .inr (.inr (.inl ⟨k6,_,(D P ρ' c).cells,by show W.heap[β0 (tg i)]? =_;rw[rS];exact wZ,fun w hw=> ?_,?_⟩))
      ·change w.heap[β0 (tg i)]? =_ at hw;show _=Result.ok Next.skip (w.setRow (β0 (tg i)) _);rw[rS]at hw⊢;exact oS w hw
      ·show wpT P (XT P c1 K X df) ops kd _ R L _ (W.setRow (β0 (tg i)) _);rw[rS];exact ih _ _ _ _ _ _ _ (by rw[An];exact qB) h2 mm hp (by cases o.dst<;>exact pL) (Rg.set (st:={st' with bl:=st'.bl.set (tg i) {B' with c:=c}}) ⟨pR.bt,by simpa using pR.ln⟩ o.dst _) pE
    by_cases k7:kd i=7
    ·rw[k7]at pK;obtain⟨args,pJ⟩:=ok7 pK;rw[pJ]at hR hc;obtain⟨h4,oS⟩:=hR;obtain⟨t2,v,pP,h2,hv,pE⟩:=hc;refine .inr (.inr (.inr (.inl ⟨k7,v,fun w=>H.In w,fun w hw=>by rw[oS];exact hv w hw,m'.fr.holds,fun mm c w hmm=> ?_,ih _ _ _ _ _ _ _ (by rw[An];exact qB) h2 (m'.bind pP v o.dst) (hp.trans (eW _ _)) (by cases o.dst<;>exact pL) (pR.bind o.dst) pE⟩)));obtain⟨e,_,hn⟩:=hpv (tg mm) (vG mm (.inr hmm));have pI:∀b ob,H b=some ob->b≠β0 (tg mm):=fun b ob hb e2=>by rw[e2,<-e,hn]at hb;cases hb
     constructor
     ·intro pT b ob hb;have:=pT b ob hb
      rwa[setRow_other _ _ _ _ (pI b ob hb)]at this
     ·intro pT b ob hb;rw[setRow_other _ _ _ _ (pI b ob hb)];exact pT b ob hb
    by_cases k8:kd i=8
    ·rw[k8]at pK;exact .inr (.inr (.inr (.inr (.inl ⟨k8,hS.mono fun v w' ⟨g1,g2⟩=>⟨fun mm hmm=>g1 (YJ (ok8 pK) (rO i k8)) _ (vG mm (.inl hmm)),g2⟩⟩))))
    by_cases k9:kd i=9
    ·rw[k9]at pK;obtain⟨⟨args,pJ⟩,hbo⟩:=ok9 pK;rw[pJ]at hR hc;obtain⟨h4,oS⟩:=hR;obtain⟨t2,v,pP,h2,hv,pE⟩:=hc;refine .inr (.inr (.inr (.inr (.inr (.inl ⟨k9,v,fun w=>∃w0,H.In w0/\KeepM w0 w,fun w ⟨w0,hw0,hkm⟩=> ?_,⟨W,m'.fr.holds,KeepM.refl _⟩,fun w1 w2 hkm ⟨w0,hw0,wB⟩=>⟨w0,hw0,wB.trans hkm⟩,ih _ _ _ _ _ _ _ (by rw[An];exact qB) h2 (m'.bind pP v o.dst) (hp.trans (eW _ _)) (by cases o.dst<;>exact pL) (pR.bind o.dst) pE⟩)))));exact(WI hbo w0 w _ _ hkm (by rw[oS];exact hv w0 hw0)).2
    by_cases k10:kd i=10
    ·rw[k10]at pK;refine .inr (.inr (.inr (.inr (.inr (.inr (.inl ⟨k10,?_⟩))))));have hmo:=YI pK;unfold StpX at hS⊢;cases e:(execOp a.eval o).run P W with
     |halt h w2=>rw[e]at hS;cases h<;>exact hS
     |ok u w2=>
      rw[e]at hS;obtain⟨hkm,⟨x,rfl⟩|rfl⟩:=WL hmo e
      ·exact⟨hkm,hS.2⟩
      ·exact⟨hkm,hS.2⟩
    ·exact .inr (.inr (.inr (.inr (.inr (.inr (.inr ⟨k0,k5,k6,k7,k8,k9,k10,hS.mono fun v w' ⟨_,g2⟩=>g2⟩))))))
   ·refine .inl ⟨hw,?_⟩;exact ih _ _ _ _ _ _ _ (by rw[An];exact qB) h1 (m1.set (s:= .x (.k undef)) (v:=undef) rfl (by rintro b q t i h;cases h) o.dst) hp (by cases o.dst<;>exact tD.trans vH) ((tV.congr pV).set o.dst _) oZ
def YK {df:List Deferred} {nx:List (List Value->PH->Prop)} {k:St->Option Tree} {ops:Array Oper} {ck:Nat->Oper->St->Bool} {kd tg:Nat->Nat} {id dn B:Nat} {st0:St} {β0:Nat->Nat} {R:Act->World->Prop} (hB0:c1.w.heap.size<=B) (hKB:∀k,K k≠none->k<B)
  (hck:∀(i:Nat) (o:Oper) (st:St),ck i o st=true->Bd P st o (kd i) (tg i)=true) (vG:∀i,(kd i=5\/kd i=6)->tg i<st0.bl.length)
  (hk:∀st t ρ' β a W H,a.defers=df->k st=some t->Mt P ⟨c1,H,K⟩ ρ' β st a W->ρ<+:ρ'->st.d=dn->Rg st0 β0 st β->den P G X t nx ρ' H->R a W):∀(L bs:List Nat) (st:St) (t:Tree) (ρ':List Value) (β:Nat->Nat) (a:Act) (W:World) (H:PH),a.defers=df->
  (∀i∈L,frK (kd i)=true)->Aq P true ck ops id k L st=some t->Mt P ⟨c1,H,K⟩ ρ' β st a W->ρ<+:ρ'->st.d=dn->Rg st0 β0 st β->(∀i,i<st.bl.length->β i<B\/β i∈bs)->(∀b,H b≠none->b<B\/b∈bs)->den P G X t nx ρ' H->
  wpF P ops kd (fun i=>β0 (tg i)) B R L bs a W:=by
 intro L;induction L with
 |nil=>intro bs st t ρ' β a W H qB _ h m hp vH tV _ _ hd w hw;exact hk st t ρ' β a w H qB h (m.ext hw) hp vH tV hd
 |cons i L ih=>
  intro bs st t ρ' β a W H qB hkL h m hp vH tV qA yU hd;have vK:∀i∈L,frK (kd i)=true:=fun j hj=>hkL j (by simp[hj]);cases ho:ops[i]? with
  |none=>simp[Aq,ho]at h
  |some o=>
   refine⟨o,ho,?_⟩;have a2x:=hkL i aD;simp only[frK,cV,decide_eq_true_eq,beq_iff_eq]at a2x;rcases EN m ho h hd with⟨hw,st1,t1,m1,pV,tD,tW,h1,oZ⟩|⟨hw,st1,t1,m1,pV,tD,tW,h1,oZ⟩
   ·refine .inr ⟨hw,?_⟩;obtain⟨pK,h1⟩:=EM h1 oZ;have pK:=hck i o st1 pK;obtain⟨st',hm,rB,hR,hc⟩:=EL m1 h1 oZ;have m':=m1.more hm rB;have pL:st'.d=dn:=by rw[hm.d,tD];exact vH
    have vJ:st'.bl=st.bl:=hm.bl.trans pV;have rR:∀i,i<st'.bl.length->β i<B\/β i∈bs:=by rw[vJ];exact qA
    have vI:=tV.congr pV;have pR:=vI.congr hm.bl;have after:∀(t2:Tree) (v:Value) (H':PH) (cs:List Nat) (W':World),Au st'=true->Aq P true ck ops id k L (Do st' o.dst)=some t2->Ext W W'->H'.In W'->(∀b,H' b≠none->H b≠none\/b∈cs)->(∀c∈cs,B<=c/\c∉bs)->den P G X t2 nx (ρ'++[v]) H'->
      wpF P ops kd (fun i=>β0 (tg i)) B R L (cs++bs) (a.put o.dst v) W':=fun t2 v H' cs W' pP h2 hx pT rE pM pE=>by
     have mm:=((m'.ext hx).grow (H':=H') pT (fun b hb=>by
      cases e:H' (β b)with
      |none=>rfl
      |some ob=>
       rcases rE (β b) (by simp[e])with h|h
       ·exact absurd (m'.sep b hb) h
       ·have:=pM _ h;rcases rR b hb with h'|h'
        ·omega
        ·exact absurd h' this.2) (fun b hb=>(rE b hb).imp (fun h=>h) (fun h=>bM hB0 (pM b h).1)) (fun k hk=>by
      cases e:H' k with
      |none=>rfl
      |some ob=>
       rcases rE k (by simp[e])with h|h
       ·exact absurd (m'.kpH k hk) h
       ·have:=(pM _ h).1;have:=hKB k hk;omega)).bind pP v o.dst
     refine ih (cs++bs) _ _ _ _ _ _ _ (by rw[An];exact qB) vK h2 mm (hp.trans (eW _ _)) (by cases o.dst<;>exact pL) (pR.bind o.dst) ?_ ?_ pE
     ·have:∀i,i<st'.bl.length->β i<B\/β i∈cs++bs:=fun i hi=>(rR i hi).imp (fun h=>h) (fun h=>by simp[h]);cases o.dst<;>exact this
     ·intro b hb;rcases rE b hb with h|h
      ·exact(yU b h).imp (fun h=>h) (fun h=>by simp[h])
      ·exact .inr (by simp[h])
    have fresh:∀(w w':World) (H':PH),Step H w H' w'->∃cs:List Nat,(∀c∈cs,w.heap.size<=c/\c<w'.heap.size)/\∀b,H' b≠none->H b≠none\/b∈cs:=fun w w' H' pU=>by
     refine⟨(List.range w'.heap.size).filter fun b=>decide (w.heap.size<=b),fun c hc=> ?_,fun b hb=> ?_⟩
     ·simp only[dJ,bH,decide_eq_true_eq]at hc;exact⟨hc.2,hc.1⟩
     ·rcases pU.dom b hb with h|h
      ·exact .inl h
      ·right;cases e:H' b with
       |none=>exact absurd e hb
       |some ob=>
        have:=y5 (pU.holds b ob e);simp only[dJ,bH,decide_eq_true_eq];exact⟨this,h⟩
    have fH:∀b,b∉bs->B<=b->H b=none:=fun b qH xY=>by
     cases e:H b with
     |none=>rfl
     |some ob=>
      rcases yU b (by simp[e])with h|h
      ·omega
      ·exact absurd h qH
    have putDom:∀(b:Nat) (ob:Obj) (b':Nat),(H.put b ob) b'≠none->H b'≠none\/b'∈[b]:=fun b ob b' qJ=>by
     unfold PH.put at qJ;split at qJ
     ·rename_i e;exact .inr (by simp[e])
     ·exact .inl qJ
    by_cases k5:kd i=5
    ·rw[k5]at pK;obtain⟨T,x,q,s,ix,uD,sS⟩:=ok5 pK;have a2y:=m1.ptrB sS;have rS:β0 (tg i)=β (tg i):=(vI.bt _ (vG i (.inl k5))).symm;have e:(Ak P st1 o)=Jr P st1 T x:=by simp[Ak,uD]
     rcases EO (P:=P) (T:=T) sS with hb|⟨s',hb⟩
     ·rw[e,hb]at hc;exact hc.elim
     ·rw[e,hb]at hc hR;obtain⟨sQ,oW,v,hv,oS⟩:=hR;obtain⟨t2,h2,pE⟩:=hc;have mm:=m'.set hv (by rw[hm.bl];exact sQ) o.dst;have nxt:=ih bs _ _ _ _ _ _ _ (by rw[An];exact qB) vK h2 mm hp (by cases o.dst<;>exact pL) (pR.set o.dst s') (by cases o.dst<;>exact rR) yU pE;obtain⟨Bk,hBk⟩:∃B,st1.bl[tg i]? =some B:=⟨_,aG a2y⟩;refine .inr (.inr (.inr (.inr ⟨k5,v,_,by show W.heap[β0 (tg i)]? =_;rw[rS];exact(m1.bl _ Bk hBk).1,fun w hw=>oS w (.inr (.inr (.inl ⟨T,x,tg i,q,s,ix,uD,sS,?_⟩))),nxt⟩)));change w.heap[β0 (tg i)]? =_ at hw;rw[rS]at hw;rw[hw,(m1.bl _ Bk hBk).1]
    have zP:kd i=0\/kd i=1\/kd i=2\/kd i=3:=aA;cases pJ:(Ak P st1 o).2 with
    |val s=>
     rw[pJ]at hR hc;obtain⟨sQ,oW,v,hv,oS⟩:=hR;obtain⟨t2,h2,pE⟩:=hc;have mm:=m'.set hv (by rw[hm.bl];exact sQ) o.dst;have nxt:=ih bs _ _ _ _ _ _ _ (by rw[An];exact qB) vK h2 mm hp (by cases o.dst<;>exact pL) (pR.set o.dst s) (by cases o.dst<;>exact rR) yU pE;rcases zP with k0|k1|k2|k3
     ·rw[k0]at pK;exact .inl ⟨k0,v,fun w=>oS w ((ok0 pK).imp (fun h=>h) (fun h=> .inr (.inr h))),nxt⟩
     ·exact .inr (.inl ⟨k1,v,fun w hw=>oS w (.inr (.inl hw)),nxt⟩)
     ·rw[k2]at pK;have:=(ok2 pK).1;omega
     ·rw[k3]at pK;rcases ok3 pK with h|h
      ·omega
      ·have:=(Xb (P:=P) h).1;omega
    |new c T n=>
     rw[pJ]at hR hc;obtain⟨h3,qI,sR,oS⟩:=hR;have k3:kd i=3:=by
      rcases zP with k0|k1|k2|k3
      ·rw[k0]at pK;rcases ok0 pK with h|h
       ·omega
       ·have:=(Qb (P:=P) h).1;omega
      ·rw[k1]at pK;have:=ok1 pK;omega
      ·rw[k2]at pK;have:=(ok2 pK).1;omega
      ·exact k3
     refine .inr (.inr (.inr (.inl ⟨k3,fun b=> .pointer (some ⟨b,0,none⟩),_,oS,fun b W' hx qT qH xY=> ?_⟩)));have hH:=fH b qH xY;rcases hc with⟨t2,_,pP,h2,pE⟩|⟨t2,h2,pE⟩
     ·exact after t2 (.pointer (some ⟨b,0,none⟩)) (H.put b (.cells (D P ρ' c).cells T (0,0))) [b] W' pP h2 hx (PH.put_in (m'.fr.holds.ext hx) qT) (putDom _ _) (fun c hc=>by simp only[aX,bV,or_false]at hc;subst hc;exact⟨xY,qH⟩) (pE b hH)
     ·have mm:=m'.newB hx (b:=b) qT qI sR (fun i hi e=>by
       rcases rR i hi with h|h
       ·omega
       ·rw[e]at h;exact qH h) (bM hB0 xY) hH (by
       cases e:K b with
       |none=>exact e
       |some ob=>have:=hKB b (by simp[e]);omega) o.dst
      refine ih (b::bs) _ _ _ _ _ _ _ (by rw[An];exact qB) vK h2 mm hp (by cases o.dst<;>exact pL) ?_ ?_ (fun b' qJ=>(yU b' qJ).imp (fun h=>h) (fun h=>by simp[h])) pE
      ·refine Rg.set (st:={st' with bl:=st'.bl++[Blk.mk c T n]}) ⟨fun b hb=> ?_,by simp;have:=pR.ln;omega⟩ o.dst _;rw[if_neg (by have:=pR.ln;omega)];exact pR.bt b hb
      ·have:∀i,i<(st'.bl++[Blk.mk c T n]).length->(if i=st'.bl.length then b else β i)<B\/(if i=st'.bl.length then b else β i)∈b::bs:=fun i hi=>by
        split
        ·exact .inr aD
        ·rename_i pI;simp only[aL,aO,bR]at hi;exact(rR i aA).imp (fun h=>h) (fun h=>by simp[h])
       cases o.dst<;>exact this
    |sto b c=>
     rw[pJ]at hR;obtain⟨h4,_⟩:=hR;exfalso;rcases zP with k0|k1|k2|k3
     ·rw[k0]at pK;rcases ok0 pK with h|h
      ·omega
      ·have:=(Qb (P:=P) h).1;omega
     ·rw[k1]at pK;have:=ok1 pK;omega
     ·rw[k2]at pK;have:=(ok2 pK).1;omega
     ·rw[k3]at pK;rcases ok3 pK with h|h
      ·omega
      ·have:=(Xb (P:=P) h).1;omega
    |call f args=>
     rw[pJ]at hR hc;obtain⟨h4,oS⟩:=hR;obtain⟨t2,pP,h2,rT⟩:=hc;have k2:kd i=2:=by
      rcases zP with k0|k1|k2|k3
      ·rw[k0]at pK;rcases ok0 pK with h|h
       ·omega
       ·have:=(Qb (P:=P) h).1;omega
      ·rw[k1]at pK;have:=ok1 pK;omega
      ·exact k2
      ·rw[k3]at pK;rcases ok3 pK with h|h
       ·omega
       ·exfalso;unfold mkB at h;split at h<;>first|cases h|(rename_i uD;simp[Ak,uD,mkB,sMk,Wp,bm,bn,bad]at pJ;split at pJ<;>(split at pJ<;>simp at pJ))
     refine .inr (.inr (.inl ⟨k2,fun v cs W'=>∃H',H'.In W'/\(∀b,H' b≠none->H b≠none\/b∈cs)/\den P G X t2 nx (ρ'++[v]) H',fun w hw=> ?_,fun v cs W' hx ⟨H',pT,rE,pE⟩ pM=>after t2 v H' cs W' pP h2 hx pT rE pM pE⟩));unfold Stp;rw[oS w];refine(rT w (m'.fr.holds.ext hw)).mono fun e w' hh=> ?_;rcases hh with⟨v,H',he,pU,oW,pE⟩|⟨_,_,sF,_⟩
     rotate_left
     ·cases sF
     refine⟨v,he,pU.toExt (m'.fr.holds.ext hw) (oW rfl),?_⟩;obtain⟨cs,pM,rE⟩:=fresh w w' H' pU;exact⟨cs,pM,H',pU.holds,rE,pE⟩
    |prim args=>
     rw[pJ]at hR hc;obtain⟨h4,oS⟩:=hR;obtain⟨t2,v,pP,h2,hv,pE⟩:=hc;have k1:kd i=1:=by
      rcases zP with k0|k1|k2|k3
      ·rw[k0]at pK;rcases ok0 pK with h|h
       ·omega
       ·rcases(Qb (P:=P) h).2 with h|⟨s,h⟩<;>rw[h]at pJ<;>cases pJ
      ·exact k1
      ·rw[k2]at pK;have:=(ok2 pK).1;omega
      ·rw[k3]at pK;rcases ok3 pK with h|h
       ·omega
       ·have:=(Xb (P:=P) h).1;omega
     exact .inr (.inl ⟨k1,v,fun w hw=>by rw[oS];exact hv w (m'.fr.holds.ext hw),ih bs _ _ _ _ _ _ _ (by rw[An];exact qB) vK h2 (m'.bind pP v o.dst) (hp.trans (eW _ _)) (by cases o.dst<;>exact pL) (pR.bind o.dst) (by cases o.dst<;>exact rR) yU pE⟩)
    |eff args=>
     rw[pJ]at hR hc;obtain⟨h4,oS⟩:=hR;obtain⟨t2,pP,h2,rT⟩:=hc;have k2:kd i=2:=by
      rcases zP with k0|k1|k2|k3
      ·rw[k0]at pK;rcases ok0 pK with h|h
       ·omega
       ·have:=(Qb (P:=P) h).1;omega
      ·rw[k1]at pK;have:=ok1 pK;omega
      ·exact k2
      ·rw[k3]at pK;rcases ok3 pK with h|h
       ·omega
       ·exfalso;unfold mkB at h;split at h<;>first|cases h|(rename_i uD;simp[Ak,uD,mkB,h,sMk,bad]at pJ;split at pJ<;>simp at pJ)
     refine .inr (.inr (.inl ⟨k2,fun v cs W'=>∃H',H'.In W'/\(∀b,H' b≠none->H b≠none\/b∈cs)/\den P G X t2 nx (ρ'++[v]) H',fun w hw=> ?_,fun v cs W' hx ⟨H',pT,rE,pE⟩ pM=>after t2 v H' cs W' pP h2 hx pT rE pM pE⟩));refine Stp.cg oS<|Stp.mono ((rT w (m'.fr.holds.ext hw)).toStp fun _ _ hx=>by cases hx.1) fun v w' ⟨H',pU,oW,pE⟩=>⟨pU.toExt (m'.fr.holds.ext hw) (oW rfl),?_⟩;obtain⟨cs,pM,rE⟩:=fresh w w' H' pU;exact⟨cs,pM,H',pU.holds,rE,pE⟩
    |ext f args=>
     rw[pJ]at hR hc;obtain⟨h4,oS⟩:=hR;obtain⟨t2,v,pP,h2,hv,pE⟩:=hc;have k2:kd i=2:=by
      rcases zP with k0|k1|k2|k3
      ·rw[k0]at pK;rcases ok0 pK with h|h
       ·omega
       ·have:=(Qb (P:=P) h).1;omega
      ·rw[k1]at pK;have:=ok1 pK;omega
      ·exact k2
      ·rw[k3]at pK;rcases ok3 pK with h|h
       ·omega
       ·exfalso;unfold mkB at h;split at h<;>first|cases h|(rename_i uD;simp[Ak,uD,mkB,h,sMk,bad]at pJ;split at pJ<;>simp at pJ)
     refine .inr (.inr (.inl ⟨k2,fun u cs W'=>u=v/\cs=[],fun w hw=> ?_,fun u cs W' hx hV pM=> ?_⟩))
     ·unfold Stp;rw[oS,hv w (m'.fr.holds.ext hw)];exact⟨Ext.refl _,[],aD,rfl,rfl⟩
     ·obtain⟨rfl,rfl⟩:=hV;exact after t2 u H [] W' pP h2 hx (m'.fr.holds.ext hx) (fun b hb=> .inl hb) pM pE
    |mk args=>
     rw[pJ]at hR hc;obtain⟨hmk,oS⟩:=hR;obtain⟨t2,pP,h2,mk,ob,hr,pE⟩:=hc;have k3:kd i=3:=by
      have rN:=Xb (P:=P) hmk;rcases zP with k0|k1|k2|k3
      ·rw[k0]at pK;rcases ok0 pK with h|h
       ·omega
       ·rw[rN.2]at h;cases h
      ·rw[k1]at pK;have:=ok1 pK;omega
      ·rw[k2]at pK;rw[(ok2 pK).2]at hmk;cases hmk
      ·exact k3
     refine .inr (.inr (.inr (.inl ⟨k3,mk,ob,fun w=>by rw[oS];exact hr w,fun b W' hx qT qH xY=> ?_⟩)));exact after t2 (mk b) (H.put b ob) [b] W' pP h2 hx (PH.put_in (m'.fr.holds.ext hx) qT) (putDom _ _) (fun c hc=>by simp only[aX,bV,or_false]at hc;subst hc;exact⟨xY,qH⟩) (pE b (fH b qH xY))
    |bad=>rw[pJ]at hc;exact hc.elim
   ·refine .inl ⟨hw,?_⟩;exact ih bs _ _ _ _ _ _ _ (by rw[An];exact qB) vK h1 (m1.set (s:= .x (.k undef)) (v:=undef) rfl (by rintro b q t i h;cases h) o.dst) hp (by cases o.dst<;>exact tD.trans vH) ((tV.congr pV).set o.dst _) (by cases o.dst<;>(simp only[St.set];rw[pV];exact qA)) yU oZ
end
end Go.RX

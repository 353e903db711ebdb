/- What a tree says, and soundness of running a region. -/
import Derived.Test.YtlmgkkjgdapnpaaGreatDoorRxF
namespace Go.RX
open Go.RowKit
def a4w:List Value->Value
 |[x]=>x
 |l=> .tuple l.toArray
def PH.put (H:PH) (b:Nat) (o:Obj):PH:=fun k=>if k=b then some o else H k
def PH.or (X K:PH):PH:=fun b=>match X b with|some o=>some o|none=>K b
def Disj (X K:PH):Prop:=∀b,X b≠none->K b=none
def a1q (P:Program) (f:FuncId):Bool:=match P.funcs[f]? with|some fn=>fn.body.isSome&& !(fn.name== "runtime.NumGoroutine")|none=>false
theorem a2a {P:Program} {f:FuncId} (h:a1q P f=true) (args:Array Value) (w:World):(callFunc f args).run P w= .ok (.enter f args) w:=by
 unfold a1q at h
 split at h
 ·rename_i fn hf
  rw[Bool.and_eq_true]at h
  obtain⟨h1,h2⟩:=h
  unfold callFunc
  have h2:(fn.name== "runtime.NumGoroutine")=false:=by simpa using h2
  have h1:fn.body.isNone=false:=by cases hb:fn.body<;>simp_all
  simp[hf]
  rw[if_neg (by simpa using h2),if_neg (fun e=>by simp[e]at h1)]
 ·cases h
def b7L (P:Program) (l:Nat) (xs:List Value) (X K:PH) (V:Value->PH->Prop):Prop:=
 ∀w,(X.or K).In w->∃fn tmps asg body,(Instr.yield l xs.toArray).run P w= .ok (.round l fn tmps asg body) w/\
  RoundIn Fence.wide 0 P l fn tmps asg body w fun e w'=>∃v X',e= .returned v/\Step (X.or K) w (X'.or K) w'/\Disj X' K/\V v X'
def ItC (P:Program) (f:FuncId) (caps:List Value) (Ro K:PH) (E:List (List Value)->List Value->Prop) (S Sp:List (List Value)->PH->Prop):Prop:=
 ∀(l:Nat) (J Jx:List (List Value)->PH->Prop),
  (∀pre X,J pre X->PH.le Ro X)->
  (∀pre xs X K',E pre xs->J pre X->Disj X K'->b7L P l xs X K' fun v X'=>(v= .bool true/\J (pre++[xs]) X')\/(v= .bool false/\Jx (pre++[xs]) X'))->
  ∀X,J [] X->Disj X K->∀w,(X.or K).In w->Calls P f ((.func (.yield l) #[] #[]::caps).toArray) w fun e w'=>∃v H',e= .returned v/\Step (X.or K) w H' w'/\
   ∃X' K',PH.le (X'.or K') H'/\Disj X' K'/\((∃xs,S xs K'/\J xs X')\/(∃pre,Sp pre K'/\Jx pre X'))
def PnX (X:Value->PH->Prop) (pf:Bool) (H:PH) (w:World) (x:Value) (w':World):Prop:=pf=false/\∃H',Step H w H' w'/\X x H'
def noP:Value->PH->Prop:=fun _ _=>False
def den (P:Program) (G:Value->PH->Prop):(Value->PH->Prop)->Tree->List (List Value->PH->Prop)->List Value->PH->Prop
 |X,.ret l,_,ρ,H=>G (a4w (l.map (D P ρ))) H
 |X,.rq r t,nx,ρ,H=>r.holds P ρ/\den P G X t nx ρ H
 |X,.br c t e,nx,ρ,H=>(D P ρ c= .bool true->den P G X t nx ρ H)/\(D P ρ c= .bool false->den P G X e nx ρ H)
 |X,.call pf f args t,nx,ρ,H=>∀w,H.In w->Calls P f (args.map (D P ρ)).toArray w fun e w'=>(∃v H',e= .returned v/\Step H w H' w'/\(pf=true->PH.le H H')/\den P G X t nx (ρ++[v]) H')\/(∃x,e=pnE x/\PnX X pf H w x w')
 |X,.prim _ _ o args t,nx,ρ,H=>∃v,(∀w,H.In w->(execOp (a0k o.op.operands.toList (args.map (D P ρ))) o).run P w= .ok (.value v) w)/\den P G X t nx (ρ++[v]) H
 |X,.eff pf _ _ o args t,nx,ρ,H=>∀w,H.In w->StpX P (PnX X pf H w) o (a0k o.op.operands.toList (args.map (D P ρ))) w fun v w'=>∃H',Step H w H' w'/\(pf=true->PH.le H H')/\den P G X t nx (ρ++[v]) H'
 |X,.ext f args t,nx,ρ,H=>∃v,(∀w,H.In w->(callFunc f (args.map (D P ρ)).toArray).run P w= .ok (.value v) w)/\den P G X t nx (ρ++[v]) H
 |X,.mk _ _ o args t,nx,ρ,H=>∃(mk:Nat->Value) (ob:Obj),(∀w,(execOp (a0k o.op.operands.toList (args.map (D P ρ))) o).run P w= .ok (.value (mk w.heap.size)) (w.alloc ob))/\∀b,H b=none->den P G X t nx (ρ++[mk b]) (H.put b ob)
 |X,.pub T c t,nx,ρ,H=>∀b,H b=none->den P G X t nx (ρ++[.pointer (some ⟨b,0,none⟩)]) (H.put b (.cells (D P ρ c).cells T (0,0)))
 |X,.dead _,_,_,_=>False
 |X,.both t u,nx,ρ,H=>den P G X t nx ρ H/\den P G X u nx ρ H
 |X,.loop ini t,nx,ρ,H=>∃(I:List Value->PH->Prop) (μ:List Value->PH->Nat),I (ini.map (D P ρ)) H/\
   ∀vals H',vals.length=ini.length->I vals H'->den P G X t (nx++[fun l h=>I l h/\μ l h<μ vals H']) (ρ++vals) H'
 |X,.next d l,nx,ρ,H=>(nx.getD d fun _ _=>False) (l.map (D P ρ)) H
 |X,.join n t u,nx,ρ,H=>∃J:List Value->PH->Prop,den P G X t (nx++[J]) ρ H/\∀vals H',vals.length=n->J vals H'->den P G X u nx (ρ++vals) H'
 |XX,.rf g np ini tb ta te,nx,ρ,H=>∃(f:FuncId) (caps:List Value) (X K Ro:PH) (E:List (List Value)->List Value->Prop) (S Sp:List (List Value)->PH->Prop) (I Ix:List (List Value)->List Value->PH->Prop),
   D P ρ g= .func (.func f) #[] caps.toArray/\a1q P f=true/\H=X.or K/\Disj X K/\ItC P f caps Ro K E S Sp/\(∀pre vals X',I pre vals X'->PH.le Ro X')/\I [] (ini.map (D P ρ)) X/\
   (∀pre xs vals X',E pre xs->vals.length=ini.length->I pre vals X'->xs.length=np/\den P G noP tb (nx++[fun v h=>I (pre++[xs]) v h,fun v h=>Ix (pre++[xs]) v h]) (ρ++(xs++vals)) X')/\
   (∀xs vals X' K',S xs K'->Disj X' K'->vals.length=ini.length->I xs vals X'->den P G XX ta nx (ρ++vals) (X'.or K'))/\
   (∀pre vals X' K',Sp pre K'->Disj X' K'->vals.length=ini.length->Ix pre vals X'->den P G XX te nx (ρ++vals) (X'.or K'))
section
variable {P:Program} {G X:Value->PH->Prop} {w0:Cx}
variable {ρ:List Value} {β:Nat->Nat} {st:St} {a:Act} {W:World} {H:PH}
theorem Mt.set (m:Mt P w0 ρ β st a W) {s:SL} {v:Value} (hv:ML P ρ β s v) (hp:∀b q t i,s= .p b q t i->b<st.bl.length) (d:Option Tmp):Mt P w0 ρ β (st.set d s) (a.put d v) W:=by
 cases d with
 |none=>exact m
 |some t=>
  have hb:(st.set (some t) s).bl=st.bl:=rfl
  refine{sz:= ?_,sl:= ?_,pb:= ?_,df:=m.df,n:=m.n,bl:=m.bl,inj:=m.inj,own:=m.own,sep:=m.sep,fr:=m.fr,kp:=m.kp,rd:=m.rd,kle:=m.kle,ag:=m.ag,ln:=m.ln,kpH:=m.kpH,kpB:=m.kpB,kn:=m.kn,kb:=m.kb}
  ·simpa[Act.put,St.set]using m.sz
  ·intro u s' hs'
   simp only[St.set,List.getElem?_set]at hs'
   simp only[Act.put]
   split at hs'
   ·rename_i e;subst e
    split at hs'
    ·rename_i hlt
     simp only[Option.some.injEq]at hs';subst hs'
     exact⟨v,by rw[Array.getElem?_setIfInBounds_self_of_lt (by rw[m.sz];exact hlt)],hv⟩
    ·cases hs'
   ·rename_i hne
    obtain⟨x,hx,hm⟩:=m.sl u s' hs'
    exact⟨x,by rw[Array.getElem?_setIfInBounds_ne hne];exact hx,hm⟩
  ·intro u b o' s' i hs'
   simp only[St.set,List.getElem?_set]at hs'
   split at hs'
   ·split at hs'
    ·simp only[Option.some.injEq]at hs';exact hp b o' s' i hs'
    ·cases hs'
   ·exact m.pb u b o' s' i hs'
theorem c8Y {β β':Nat->Nat} {n:Nat} (h:∀i,i<n->β' i=β i) {s:SL} {v:Value} (hp:∀b q t i,s= .p b q t i->b<n) (hm:ML P ρ β s v):ML P ρ β' s v:=by
 cases s with
 |x s=>exact hm
 |p b o s i=>simp only[ML]at hm⊢;rw[h b (hp b o s i rfl)];exact hm
 |u=>trivial
theorem Mt.newB (m:Mt P w0 ρ β st a W) {W':World} (hx:Ext W W') {c:SV} {T n b:Nat} (hb:W'.heap[b]? =some (.cells (D P ρ c).cells T (0,0))) (hn:(D P ρ c).cells.size=n) (h1:a0p (D P ρ c).cells)
  (hne:∀i,i<st.bl.length->β i≠b) (hw:w0.w.heap.size<=b) (hH:w0.H b=none) (hK:w0.K b=none) (d:Option Tmp):
  Mt P w0 ρ (fun i=>if i=st.bl.length then b else β i) (St.set {st with bl:=st.bl++[Blk.mk c T n]} d (.p st.bl.length 0 0 noI)) (a.put d (.pointer (some ⟨b,0,none⟩))) W':=by
 have m':=m.ext hx
 have hβ:∀i,i<st.bl.length->(fun i=>if i=st.bl.length then b else β i) i=β i:=fun i hi=>by simp only;rw[if_neg (by omega)]
 have base:Mt P w0 ρ (fun i=>if i=st.bl.length then b else β i) {st with bl:=st.bl++[Blk.mk c T n]} a W':=by
  refine{sz:=m'.sz,sl:= ?_,pb:= ?_,df:=m'.df,n:=m'.n,bl:= ?_,inj:= ?_,own:= ?_,sep:= ?_,fr:=m'.fr,kp:=m'.kp,rd:=m'.rd,kle:=m'.kle,ag:=fun i hi=> ?_,ln:=by simp;have:=m'.ln;omega,kpH:=m'.kpH,kpB:= ?_,kn:=m'.kn,kb:=m'.kb}
  ·intro t s hs
   obtain⟨v,hv,hm⟩:=m'.sl t s hs
   exact⟨v,hv,c8Y hβ (fun b q t' i e=>m'.pb t b q t' i (by rw[<-e];exact hs)) hm⟩
  ·intro t b' o' s' i hs
   have:=m'.pb t b' o' s' i hs
   simp;omega
  ·intro b' B hB
   by_cases hb':b'<st.bl.length
   ·rw[List.getElem?_append_left hb']at hB
    simp only[hβ b' hb']
    exact m'.bl b' B hB
   ·rw[List.getElem?_append_right (by omega)]at hB
    have h0:b'-st.bl.length=0:=by
     rcases Nat.eq_zero_or_pos (b'-st.bl.length)with h|h
     ·exact h
     ·rw[List.getElem?_eq_none (by simp;omega)]at hB;cases hB
    rw[h0]at hB
    simp at hB
    subst hB
    rw[if_pos (by omega)]
    exact⟨hb,hn,h1⟩
  ·intro i j hi hj hij
   simp only[List.length_append,List.length_cons,List.length_nil]at hi hj
   split at hij<;>split at hij
   ·omega
   ·rename_i h1 h2
    exact absurd hij.symm (hne j (by omega))
   ·rename_i h1 h2
    exact absurd hij (hne i (by omega))
   ·exact m'.inj i j (by omega) (by omega) hij
  ·intro i hi
   simp only[List.length_append,List.length_cons,List.length_nil]at hi
   split
   ·exact .inl hw
   ·exact m'.own i (by omega)
  ·intro i hi
   simp only[List.length_append,List.length_cons,List.length_nil]at hi
   split
   ·exact hH
   ·exact m'.sep i (by omega)
  ·have:=m'.ln
   rw[if_neg (by omega)];exact m'.ag i hi
  ·intro i hi
   simp only[List.length_append,List.length_cons,List.length_nil]at hi
   split
   ·exact hK
   ·exact m'.kpB i (by omega)
 refine base.set ?_ ?_ d
 ·simp[ML]
 ·rintro b' q t i h;cases h;simp
theorem Mt.bind (m:Mt P w0 ρ β st a W) (hsc:a6A st=true) (v:Value) (d:Option Tmp):Mt P w0 (ρ++[v]) β (a4v st d) (a.put d v) W:=by
 unfold a6A at hsc
 simp only[Bool.and_eq_true,List.all_eq_true]at hsc
 obtain⟨⟨⟨h1,h2⟩,h3⟩,h4⟩:=hsc
 have hn:=m.n
 have base:Mt P w0 (ρ++[v]) β {st with n:=st.n+1} a W:=by
  refine{sz:=m.sz,sl:= ?_,pb:=m.pb,df:=m.df,n:=by simp[hn],bl:= ?_,inj:=m.inj,own:=m.own,sep:=m.sep,fr:=m.fr,kp:=m.kp,rd:=m.rd,kle:=m.kle,ag:=m.ag,ln:=m.ln,kpH:=m.kpH,kpB:=m.kpB,kn:= ?_,kb:= ?_}
  ·intro t s hs
   obtain⟨x,hx,hm⟩:=m.sl t s hs
   refine⟨x,hx,?_⟩
   have hl:=h1 s (List.mem_of_getElem? hs)
   rw[<-hn]at hl
   cases s with
   |x s=>simp only[ML,SL.lt]at hm hl⊢;rw[a1n P ρ [v] s hl];exact hm
   |p b o s i=>simp only[ML,SL.lt]at hm hl⊢;rw[a1n P ρ [v] i hl];exact hm
   |u=>trivial
  ·intro b B hB
   have hl:=h2 B (List.mem_of_getElem? hB)
   rw[<-hn]at hl
   rw[a1n P ρ [v] B.c hl]
   exact m.bl b B hB
  ·intro r hr
   have hl:=h3 r hr
   rw[<-hn]at hl
   exact(a6l P ρ [v] r hl).2 (m.kn r hr)
  ·intro p hp
   have hl:=h4 p hp
   rw[<-hn]at hl
   rw[a1n P ρ [v] p.1 hl]
   exact m.kb p hp
 refine base.set ?_ ?_ d
 ·show v=(ρ++[v]).getD st.n undef
  rw[<-hn];simp
 ·rintro b q t i h;cases h
theorem Mt.sto (m:Mt P w0 ρ β st a W) {b:Nat} {B:Blk} (hB:st.bl[b]? =some B) {c:SV} (hn:(D P ρ c).cells.size=B.n) (h1:a0p (D P ρ c).cells) (d:Option Tmp):
  Mt P w0 ρ β (St.set {st with bl:=st.bl.set b {B with c:=c}} d (.x (.k undef))) (a.put d undef) (W.setRow (β b) (D P ρ c).cells):=by
 have hlt:b<st.bl.length:=(List.getElem?_eq_some_iff.1 hB).1
 have hb:=(m.bl b B hB).1
 have base:Mt P w0 ρ β {st with bl:=st.bl.set b {B with c:=c}} a (W.setRow (β b) (D P ρ c).cells):=by
  refine{sz:=m.sz,sl:=m.sl,pb:= ?_,df:=m.df,n:=m.n,bl:= ?_,inj:= ?_,own:= ?_,sep:= ?_,fr:= ?_,kp:=fun k ob hk=> ?_,rd:=m.rd,kle:=m.kle,ag:=m.ag,ln:=by simpa using m.ln,kpH:=m.kpH,kpB:=fun i hi=>m.kpB i (by simpa using hi),kn:=m.kn,kb:=m.kb}
  ·intro t b' o' s' i hs;have:=m.pb t b' o' s' i hs;simpa using this
  ·intro b' B' hB'
   simp only[List.getElem?_set]at hB'
   split at hB'
   ·rename_i e;subst e
    simp only[Option.some.injEq]at hB';subst hB'
    exact⟨setRow_heap W (β b) _ _ B.T (0,0) hb,hn,h1⟩
   ·rename_i hne
    obtain⟨g1,g2⟩:=m.bl b' B' hB'
    refine⟨?_,g2⟩
    rw[setRow_other]
    ·exact g1
    ·intro e
     exact hne (m.inj b b' hlt (List.getElem?_eq_some_iff.1 hB').1 e.symm)
  ·intro i j hi hj;simp only[List.length_set]at hi hj;exact m.inj i j hi hj
  ·intro i hi;simp only[List.length_set]at hi;exact m.own i hi
  ·intro i hi;simp only[List.length_set]at hi;exact m.sep i hi
  ·refine⟨m.fr.os,m.fr.tape,m.fr.output,by simpa using m.fr.size,fun k hk hn=> ?_,fun k ob hk=> ?_,m.fr.dom,m.fr.dr⟩
   ·rw[setRow_other _ _ _ _ (fun e=>by
     rcases m.own b hlt with h|h
     ·omega
     ·rw[e]at hn;exact h hn)];exact m.fr.block k hk hn
   ·rw[setRow_other _ _ _ _ (fun e=>by have:=m.sep b hlt;rw[e,this]at hk;cases hk)];exact m.fr.holds k ob hk
  ·rw[setRow_other _ _ _ _ (fun e=>by have:=m.kpB b hlt;rw[e,this]at hk;cases hk)];exact m.kp k ob hk
 exact base.set (s:= .x (.k undef)) (v:=undef) rfl (by rintro b q t i h;cases h) d
theorem Mt.lt (m:Mt P w0 ρ β st a W) {i:Nat} (hi:i<st.bl.length):β i<W.heap.size:=by
 obtain⟨B,hB⟩:∃B,st.bl[i]? =some B:=⟨_,List.getElem?_eq_getElem hi⟩
 exact a0y (m.bl i B hB).1
theorem Mt.step (m:Mt P w0 ρ β st a W) {H':PH} {W':World} (hs:Step w0.H W H' W'):Mt P {w0 with H:=H'} ρ β st a W':=
 {m with
  bl:=fun b B hB=>by
   have hlt:b<st.bl.length:=(List.getElem?_eq_some_iff.1 hB).1
   obtain⟨h1,h2⟩:=m.bl b B hB
   exact⟨by rw[hs.block _ (m.lt hlt) (m.sep b hlt)];exact h1,h2⟩
  sep:=fun b hb=>by
   cases e:H' (β b)with
   |none=>exact e
   |some o=>
    rcases hs.dom (β b) (by simp[e])with h|h
    ·exact absurd (m.sep b hb) h
    ·have:=m.lt hb;omega
  fr:=m.fr.trans hs
  kp:=fun k ob hk=>by
   rw[hs.block k (a0y (m.kp k ob hk)) (m.kpH k (by rw[show w0.K k=some ob from hk];simp))];exact m.kp k ob hk
  kpH:=fun k hk=>by
   cases e:H' k with
   |none=>exact e
   |some o=>
    rcases hs.dom k (by simp[e])with h|h
    ·exact absurd (m.kpH k hk) h
    ·cases e2:w0.K k with
     |none=>exact absurd e2 hk
     |some o2=>have:=a0y (m.kp k o2 e2);omega}
theorem Mt.grow (m:Mt P w0 ρ β st a W) {H':PH} (hin:H'.In W) (hsep:∀b,b<st.bl.length->H' (β b)=none) (hdom:∀b,H' b≠none->w0.H b≠none\/w0.w.heap.size<=b) (hK:∀k,w0.K k≠none->H' k=none):Mt P {w0 with H:=H'} ρ β st a W:=
 {m with
  sep:=hsep
  kpH:=hK
  fr:=⟨m.fr.os,m.fr.tape,m.fr.output,m.fr.size,m.fr.block,hin,fun b hb=>(hdom b hb).elim (m.fr.dom b) .inr,m.fr.dr⟩}
theorem PH.put_in {H:PH} {w:World} {b:Nat} {o:Obj} (h:H.In w) (hb:w.heap[b]? =some o):(H.put b o).In w:=fun k ob hk=>by
 unfold PH.put at hk
 split at hk
 ·rename_i e;subst e;cases hk;exact hb
 ·exact h k ob hk
theorem Mt.grown {W':World} (m:Mt P w0 ρ β st a W) {b:Nat} {ob:Obj} (hx:Ext W W') (hob:W'.heap[b]? =some ob) (hb:W.heap.size<=b):Mt P {w0 with H:=w0.H.put b ob} ρ β st a W':=by
 refine(m.ext hx).grow (H':=w0.H.put b ob) (PH.put_in (m.fr.holds.ext hx) hob) (fun b' hb'=> ?_) (fun b' hb'=> ?_) (fun k hk=> ?_)
 ·unfold PH.put;rw[if_neg (by have:=m.lt hb';omega)];exact m.sep b' hb'
 ·unfold PH.put at hb';split at hb'
  ·rename_i e;subst e;exact .inr (Nat.le_trans m.fr.size hb)
  ·exact .inl hb'
 ·unfold PH.put
  rw[if_neg (fun e=>by
   cases e2:w0.K k with
   |none=>exact hk e2
   |some o2=>have:=a0y (m.kp k o2 e2);omega)]
  exact m.kpH k hk
theorem Mt.know (m:Mt P w0 ρ β st a W) {c:SV} {b:Bool} (h:D P ρ c= .bool b):Mt P w0 ρ β (st.know P c b) a W:=by
 refine{m with kb:= ?_}
 intro p hp
 simp only[St.know,List.mem_append]at hp
 rcases hp with hp|hp
 ·split at hp
  ·rename_i x
   split at hp
   ·rename_i hev
    obtain⟨b',hb'⟩:∃b',D P ρ x= .bool b':=b4f m.kn hev
    simp only[List.mem_cons,List.not_mem_nil,or_false]at hp
    rcases hp with rfl|rfl
    ·exact h
    ·simp only[D,hb',a2u,Value.bool.injEq]at h
     rw[<-h];simp[hb']
   ·simp only[List.mem_cons,List.not_mem_nil,or_false]at hp
    subst hp;exact h
  ·simp only[List.mem_cons,List.not_mem_nil,or_false]at hp
   subst hp;exact h
 ·exact m.kb p hp
structure More (st st':St):Prop where
 es:st'.es=st.es
 js:st'.js=st.js
 rd:st'.rd=st.rd
 sl:st'.sl=st.sl
 bl:st'.bl=st.bl
 kb:st'.kb=st.kb
 n:st'.n=st.n
 d:st'.d=st.d
theorem More.refl (st:St):More st st:=⟨rfl,rfl,rfl,rfl,rfl,rfl,rfl,rfl⟩
theorem Mt.more (m:Mt P w0 ρ β st a W) {st':St} (h:More st st') (hk:∀r∈st'.kn,r.holds P ρ):Mt P w0 ρ β st' a W:=
 {sz:=by rw[h.sl];exact m.sz,sl:=by rw[h.sl];exact m.sl,pb:=by rw[h.sl,h.bl];exact m.pb,df:=m.df,n:=by rw[h.n];exact m.n,bl:=by rw[h.bl];exact m.bl,inj:=by rw[h.bl];exact m.inj,own:=by rw[h.bl];exact m.own,sep:=by rw[h.bl];exact m.sep,fr:=m.fr,kp:=m.kp,rd:=by rw[h.rd];exact m.rd,kle:=m.kle,ag:=m.ag,ln:=by rw[h.bl];exact m.ln,kpH:=m.kpH,kpB:=by rw[h.bl];exact m.kpB,kn:=hk,kb:=by rw[h.kb];exact m.kb}
theorem a1F {nx:List (List Value->PH->Prop)} {k:St->Option Tree}:∀{rs:List Rq} {st:St} {t:Tree},a3b P rs st k=some t->(∀r∈st.kn,r.holds P ρ)->den P G X t nx ρ H->
  ∃st' t',More st st'/\(∀r∈st'.kn,r.holds P ρ)/\(∀r∈rs,r.holds P ρ)/\k st'=some t'/\den P G X t' nx ρ H:=by
 intro rs
 induction rs with
 |nil=>intro st t h hk hd;exact⟨st,t,More.refl st,hk,by simp,h,hd⟩
 |cons r rs ih=>
  intro st t h hk hd
  simp only[a3b]at h
  split at h
  ·rename_i he
   obtain⟨st',t',h1,h2,h3,h4,h5⟩:=ih h hk hd
   refine⟨st',t',h1,h2,fun q hq=> ?_,h4,h5⟩
   rcases List.mem_cons.1 hq with rfl|hq
   ·exact b4f hk he
   ·exact h3 q hq
  ·rw[Option.map_eq_some_iff]at h
   obtain⟨t1,h,rfl⟩:=h
   obtain⟨hr,hd⟩:=hd
   obtain⟨st',t',h1,h2,h3,h4,h5⟩:=ih h (fun q hq=>by
    rcases List.mem_cons.1 hq with rfl|hq
    ·exact hr
    ·exact hk q hq) hd
   refine⟨st',t',⟨h1.es,h1.js,h1.rd,h1.sl,h1.bl,h1.kb,h1.n,h1.d⟩,h2,fun q hq=> ?_,h4,h5⟩
   rcases List.mem_cons.1 hq with rfl|hq
   ·exact hr
   ·exact h3 q hq
def d7K (P:Program) (G X:Value->PH->Prop) (nx:List (List Value->PH->Prop)) (ρ:List Value) (β:Nat->Nat) (st:St) (a:Act) (W:World) (H:PH) (pf:Bool) (o:Oper) (k:St->Option Tree):Prop:=
 ∃st',More st st'/\(∀r∈st'.kn,r.holds P ρ)/\d6w P ρ β st a W o (a1K P st o).2/\
  match(a1K P st o).2 with
  | .val s=>∃t,k (st'.set o.dst s)=some t/\den P G X t nx ρ H
  | .new c T n=>(∃t,d3H st o.dst=true/\a6A st'=true/\k (a4v st' o.dst)=some t/\∀b,H b=none->den P G X t nx (ρ++[.pointer (some ⟨b,0,none⟩)]) (H.put b (.cells (D P ρ c).cells T (0,0))))\/
    (∃t,k (St.set {st' with bl:=st'.bl++[Blk.mk c T n]} o.dst (.p st'.bl.length 0 0 noI))=some t/\den P G X t nx ρ H)
  | .sto b c=>∃B t,st.bl[b]? =some B/\k (St.set {st' with bl:=st'.bl.set b {B with c:=c}} o.dst (.x (.k undef)))=some t/\den P G X t nx ρ H
  | .call f args=>∃t,a6A st'=true/\k (a4v st' o.dst)=some t/\∀w,H.In w->Calls P f (args.map (D P ρ)).toArray w fun e w'=>(∃v H',e= .returned v/\Step H w H' w'/\(pf=true->PH.le H H')/\den P G X t nx (ρ++[v]) H')\/(∃x,e=pnE x/\PnX X pf H w x w')
  | .prim args=>∃t v,a6A st'=true/\k (a4v st' o.dst)=some t/\(∀w,H.In w->(execOp (a0k o.op.operands.toList (args.map (D P ρ))) o).run P w= .ok (.value v) w)/\den P G X t nx (ρ++[v]) H
  | .eff args=>∃t,a6A st'=true/\k (a4v st' o.dst)=some t/\∀w,H.In w->StpX P (PnX X pf H w) o (a0k o.op.operands.toList (args.map (D P ρ))) w fun v w'=>∃H',Step H w H' w'/\(pf=true->PH.le H H')/\den P G X t nx (ρ++[v]) H'
  | .ext f args=>∃t v,a6A st'=true/\k (a4v st' o.dst)=some t/\(∀w,H.In w->(callFunc f (args.map (D P ρ)).toArray).run P w= .ok (.value v) w)/\den P G X t nx (ρ++[v]) H
  | .mk args=>∃t,a6A st'=true/\k (a4v st' o.dst)=some t/\∃(mk:Nat->Value) (ob:Obj),(∀w,(execOp (a0k o.op.operands.toList (args.map (D P ρ))) o).run P w= .ok (.value (mk w.heap.size)) (w.alloc ob))/\∀b,H b=none->den P G X t nx (ρ++[mk b]) (H.put b ob)
  | .bad=>False
theorem a7i {nx:List (List Value->PH->Prop)} {k:St->Option Tree} {pf:Bool} {id i:Nat} {o:Oper} {t:Tree} (m:Mt P w0 ρ β st a W) (h:c3L P pf id i o st k=some t) (hd:den P G X t nx ρ H):d7K P G X nx ρ β st a W H pf o k:=by
 unfold c3L at h
 have hs:=b7K m o
 unfold Snd at hs
 unfold d7K
 generalize a1K P st o=p at h hs⊢
 obtain⟨rs,r⟩:=p
 simp only at h hs⊢
 obtain⟨st',t',h1,h2,h3,h4,h5⟩:=a1F h m.kn hd
 have hs:=hs h3
 refine⟨st',h1,h2,hs,?_⟩
 cases r with
 |val s=>exact⟨t',h4,h5⟩
 |new c T n=>
  simp only at h4⊢
  split at h4
  ·rename_i he
   have he':d3H st o.dst=true:=by unfold d3H at he⊢;rw[h1.es]at he;exact he
   split at h4
   ·rename_i hsc
    rw[Bool.and_eq_true]at hsc
    rw[Option.map_eq_some_iff]at h4
    obtain⟨t1,h4,rfl⟩:=h4
    exact .inl ⟨t1,he',hsc.1,h4,h5⟩
   ·cases h4
  ·exact .inr ⟨t',h4,h5⟩
 |sto b c=>
  simp only[h1.bl]at h4
  have hs':=hs
  obtain⟨_,B,hB,_⟩:=hs'
  simp only[hB]at h4
  refine⟨B,t',hB,?_,h5⟩
  rw[h1.bl];exact h4
 |call f args=>
  simp only at h4
  split at h4
  ·rename_i hsc
   rw[Bool.and_eq_true]at hsc
   rw[Option.map_eq_some_iff]at h4
   obtain⟨t1,h4,rfl⟩:=h4
   exact⟨t1,hsc.1,h4,h5⟩
  ·cases h4
 |prim args=>
  simp only at h4
  split at h4
  ·rename_i hsc
   rw[Bool.and_eq_true]at hsc
   rw[Option.map_eq_some_iff]at h4
   obtain⟨t1,h4,rfl⟩:=h4
   obtain⟨v,hv,hd⟩:=h5
   exact⟨t1,v,hsc.1,h4,hv,hd⟩
  ·cases h4
 |eff args=>
  simp only at h4
  split at h4
  ·rename_i hsc
   rw[Bool.and_eq_true]at hsc
   rw[Option.map_eq_some_iff]at h4
   obtain⟨t1,h4,rfl⟩:=h4
   exact⟨t1,hsc.1,h4,h5⟩
  ·cases h4
 |ext f args=>
  simp only at h4
  split at h4
  ·rename_i hsc
   rw[Bool.and_eq_true]at hsc
   rw[Option.map_eq_some_iff]at h4
   obtain⟨t1,h4,rfl⟩:=h4
   obtain⟨v,hv,hd⟩:=h5
   exact⟨t1,v,hsc.1,h4,hv,hd⟩
  ·cases h4
 |mk args=>
  simp only at h4
  split at h4
  ·rename_i hsc
   rw[Bool.and_eq_true]at hsc
   rw[Option.map_eq_some_iff]at h4
   obtain⟨t1,h4,rfl⟩:=h4
   exact⟨t1,hsc.1,h4,h5⟩
  ·cases h4
 |bad=>
  simp only[Option.some.injEq]at h4
  subst h4
  exact h5
theorem a7j {nx:List (List Value->PH->Prop)} {k:St->Option Tree} {pf:Bool} {ck:Nat->Oper->St->Bool} {id i:Nat} {o:Oper} {t:Tree} (h:b2V P pf ck id i o st k=some t) (hd:den P G X t nx ρ H):ck i o st=true/\c3L P pf id i o st k=some t:=by
 unfold b2V at h
 split at h
 ·rename_i hc;exact⟨hc,h⟩
 ·simp only[Option.some.injEq]at h;subst h;exact hd.elim
theorem b5P (m:Mt P w0 ρ β st a W) {ops:Array Oper} {j:Nat} {c:SV} (h:((ops[j]?).bind (·.dst)).bind (fun d:Nat=>st.sl[d]?)=some (.x c)):
  yielded ops a.tmps j=match D P ρ c with| .bool b=>some b|_=>none:=by
 rw[Option.bind_eq_some_iff]at h
 obtain⟨d,hd,hs⟩:=h
 obtain⟨v,hv,hm⟩:=m.sl d _ hs
 unfold yielded
 rw[hd]
 simp only[Option.bind_some,hv]
 rw[show v=D P ρ c from hm]
 cases D P ρ c<;>rfl
theorem a7k {nx:List (List Value->PH->Prop)} {k:St->Option Tree} {ops:Array Oper} {pf:Bool} {ck:Nat->Oper->St->Bool} {id i:Nat} {o:Oper} {L:List Nat} {t:Tree} (m:Mt P w0 ρ β st a W) (ho:ops[i]? =some o) (h:a6g P pf ck ops id k (i::L) st=some t) (hd:den P G X t nx ρ H):
  (Region.wanted o (yielded ops a.tmps)=true/\∃st' t',Mt P w0 ρ β st' a W/\st'.bl=st.bl/\st'.d=st.d/\st'.sl=st.sl/\b2V P pf ck id i o st' (a6g P pf ck ops id k L)=some t'/\den P G X t' nx ρ H)\/
  (Region.wanted o (yielded ops a.tmps)=false/\∃st' t',Mt P w0 ρ β st' a W/\st'.bl=st.bl/\st'.d=st.d/\st'.sl=st.sl/\a6g P pf ck ops id k L (st'.set o.dst (.x (.k undef)))=some t'/\den P G X t' nx ρ H):=by
 simp only[a6g,ho]at h
 split at h
 ·rename_i hg
  exact .inl ⟨by simp[Region.wanted,hg],st,t,m,rfl,rfl,rfl,h,hd⟩
 ·rename_i j want hg
  split at h
  ·rename_i c hc
   have hy:=b5P m hc
   have hD:=a4J (P:=P) (ρ:=ρ) m.kb c
   have hw:Region.wanted o (yielded ops a.tmps)=(yielded ops a.tmps j==some want):=by simp[Region.wanted,hg]
   rw[hw,hy]
   split at h
   ·rename_i b hl
    rw[hl]at hD
    simp only[D]at hD
    rw[<-hD]
    split at h
    ·rename_i hb
     rw[beq_iff_eq]at hb;subst hb
     exact .inl ⟨by simp,st,t,m,rfl,rfl,rfl,h,hd⟩
    ·rename_i hb
     exact .inr ⟨by simpa using hb,st,t,m,rfl,rfl,rfl,h,hd⟩
   ·rename_i vs hl
    rw[hl]at hD
    simp only[D]at hD
    rw[<-hD]
    exact .inr ⟨by simp,st,t,m,rfl,rfl,rfl,h,hd⟩
   ·generalize b0T st.kb c=c' at h hD
    split at h
    ·rename_i b _
     obtain⟨st',t',h1,h2,h3,h4,h5⟩:=a1F h m.kn hd
     have hb:D P ρ c'= .bool b:=h3 (.isb b c') (by simp)
     have m':=m.more h1 h2
     rw[<-hD,hb]
     split at h4
     ·rename_i hbw
      rw[beq_iff_eq]at hbw;subst hbw
      exact .inl ⟨by simp,_,t',m'.know hb,by simp[St.know,h1.bl],by simp[St.know,h1.d],by simp[St.know,h1.sl],h4,h5⟩
     ·rename_i hbw
      exact .inr ⟨by simpa using hbw,_,t',m'.know hb,by simp[St.know,h1.bl],by simp[St.know,h1.d],by simp[St.know,h1.sl],h4,h5⟩
    obtain⟨st',t',h1,h2,h3,h4,h5⟩:=a1F h m.kn hd
    obtain⟨b,hb⟩:∃b,D P ρ c'= .bool b:=h3 (.bool c') (by simp)
    have m':=m.more h1 h2
    rw[<-hD,hb]
    split at h4
    ·rename_i t1 t2 e1 e2
     simp only[Option.some.injEq]at h4
     by_cases hbw:b=want
     ·subst hbw
      refine .inl ⟨by simp,_,t1,m'.know hb,by simp[St.know,h1.bl],by simp[St.know,h1.d],by simp[St.know,h1.sl],e1,?_⟩
      cases b with
      |true=>simp only[if_true]at h4;subst h4;exact h5.1 hb
      |false=>simp only[Bool.false_eq_true,if_false]at h4;subst h4;exact h5.2 hb
     ·have hbn:b= !want:=by cases b<;>cases want<;>simp_all
      refine .inr ⟨by simpa using hbw,_,t2,m'.know (b:= !want) (by rw[hb,hbn]),by simp[St.know,h1.bl],by simp[St.know,h1.d],by simp[St.know,h1.sl],e2,?_⟩
      cases want with
      |true=>simp only[if_true]at h4;subst h4;exact h5.2 (by rw[hb,hbn];rfl)
      |false=>simp only[Bool.false_eq_true,if_false]at h4;subst h4;exact h5.1 (by rw[hb,hbn];rfl)
    ·cases h4
  ·cases h
structure Rg (st0:St) (β0:Nat->Nat) (st:St) (β:Nat->Nat):Prop where
 bt:∀b,b<st0.bl.length->β b=β0 b
 ln:st0.bl.length<=st.bl.length
theorem Rg.congr {st0 st st':St} {β0 β:Nat->Nat} (h:Rg st0 β0 st β) (hb:st'.bl=st.bl):Rg st0 β0 st' β:=⟨h.bt,by rw[hb];exact h.ln⟩
theorem Rg.set {st0 st:St} {β0 β:Nat->Nat} (h:Rg st0 β0 st β) (d:Option Tmp) (s:SL):Rg st0 β0 (st.set d s) β:=by
 cases d<;>exact⟨h.bt,h.ln⟩
theorem Rg.bind {st0 st:St} {β0 β:Nat->Nat} (h:Rg st0 β0 st β) (d:Option Tmp):Rg st0 β0 (a4v st d) β:=(h.congr (st':={st with n:=st.n+1}) rfl).set d _
theorem b4j {T:TypeId} {x:Operand} {b q s:Nat} {i:SV} (h:st.get x=some (.p b q s i)):(a9w P st T x).2= .bad\/∃s',(a9w P st T x).2= .val s':=by
 unfold a9w
 rw[h]
 simp only
 split
 ·unfold b7r bad
  repeat' split
  all_goals first|exact .inl rfl|exact .inr ⟨_,rfl⟩
 ·exact .inl rfl
theorem b7M {T:TypeId} {x y:Operand} {b q s:Nat} {i:SV} (h:st.get x=some (.p b q s i)):(a6Y P st T x y).2= .bad\/∃c,(a6Y P st T x y).2= .sto b c:=by
 unfold a6Y
 rw[h]
 split
 ·rename_i b' q' s' i' v e _
  cases e
  split
  ·unfold b2U bad
   repeat' split
   all_goals first|exact .inl rfl|exact .inr ⟨_,rfl⟩
  ·exact .inl rfl
 ·rename_i e _;cases e
 ·exact .inl rfl
theorem a5f {x:Operand} {b:Nat} (h:d3s st x=some b):∃q s i,st.get x=some (.p b q s i):=by
 unfold d3s at h
 split at h
 ·rename_i b' q s i hg;simp only[Option.some.injEq]at h;subst h;exact⟨q,s,i,hg⟩
 ·cases h
theorem a1y {o:Oper} (h:a2V st o=true):a1u P o=1/\((a1K P st o).2= .bad\/∃s,(a1K P st o).2= .val s):=by
 unfold a2V at h
 split at h
 ·rename_i S x f ho
  obtain⟨b,hb⟩:=Option.isSome_iff_exists.1 h
  obtain⟨q,s,i,hg⟩:=a5f hb
  refine⟨by simp[a1u,ho],?_⟩
  simp only[a1K,ho]
  unfold a4g bad
  rw[hg]
  simp only
  repeat' split
  all_goals first|exact .inl rfl|exact .inr ⟨_,rfl⟩
 ·rename_i T x ix ho
  obtain⟨b,hb⟩:=Option.isSome_iff_exists.1 h
  obtain⟨q,s,i,hg⟩:=a5f hb
  refine⟨by simp[a1u,ho],?_⟩
  simp only[a1K,ho]
  unfold a4h bad
  rw[hg]
  split
  ·repeat' split
   all_goals first|exact .inl rfl|exact .inr ⟨_,rfl⟩
  ·rename_i e _;cases e
  ·exact .inl rfl
 ·cases h
theorem b1e {o:Oper} (h:mkB st o=true):a1u P o=2/\a2V st o=false:=by
 unfold mkB at h
 split at h
 ·rename_i ho;simp[a1u,a2V,ho]
 ·rename_i ho;simp[a1u,a2V,ho]
 ·rename_i ho;simp[a1u,a2V,ho]
 ·cases h
theorem ok0 {o:Oper} {tg:Nat} (h:a6Z P st o 0 tg=true):a1u P o=0\/a2V st o=true:=by
 simpa[a6Z]using h
theorem ok1 {o:Oper} {tg:Nat} (h:a6Z P st o 1 tg=true):a1u P o<=1:=by simpa[a6Z]using h
theorem ok2 {o:Oper} {tg:Nat} (h:a6Z P st o 2 tg=true):a1u P o=2/\mkB st o=false:=by simpa[a6Z]using h
theorem ok3 {o:Oper} {tg:Nat} (h:a6Z P st o 3 tg=true):a1u P o=3\/mkB st o=true:=by simpa[a6Z]using h
theorem ok5 {o:Oper} {tg:Nat} (h:a6Z P st o 5 tg=true):∃T x q s i,o.op= .load T x/\st.get x=some (.p tg q s i):=by
 simp only[a6Z]at h
 split at h
 ·rename_i T x ho
  obtain⟨q,s,i,hg⟩:=a5f (by simpa using h)
  exact⟨T,x,q,s,i,ho,hg⟩
 ·cases h
theorem ok6 {o:Oper} {tg:Nat} (h:a6Z P st o 6 tg=true):∃T x y q s i,o.op= .store T x y/\st.get x=some (.p tg q s i):=by
 simp only[a6Z]at h
 split at h
 ·rename_i T x y ho
  obtain⟨q,s,i,hg⟩:=a5f (by simpa using h)
  exact⟨T,x,y,q,s,i,ho,hg⟩
 ·cases h
theorem ok7 {o:Oper} {tg:Nat} (h:a6Z P st o 7 tg=true):∃l,(a1K P st o).2= .prim l:=by
 simp only[a6Z]at h
 unfold b4d at h
 split at h
 ·rename_i l hl;exact⟨l,hl⟩
 ·cases h
theorem ok9 {o:Oper} {tg:Nat} (h:a6Z P st o 9 tg=true):(∃l,(a1K P st o).2= .prim l)/\a9u o.op=true:=by
 simp only[a6Z,Bool.and_eq_true]at h
 refine⟨?_,h.2⟩
 have h:=h.1
 unfold b4d at h
 split at h
 ·exact⟨_,by assumption⟩
 ·cases h
theorem d8a {o:Oper} {tg:Nat} (h:a6Z P st o 10 tg=true):c3D P o.op=true:=by simpa[a6Z]using h
theorem ok8 {o:Oper} {tg:Nat} (h:a6Z P st o 8 tg=true):frS tg (a1K P st o).2=true:=by simpa[a6Z]using h
theorem d3L {tg n0:Nat} {r:Res} (h:frS tg r=true) (hn:tg=0\/n0<=tg):∀b c,r= .sto b c->n0<=b:=fun b c e=>by
 subst e
 simp only[frS,Bool.and_eq_true,bne_iff_ne,decide_eq_true_eq]at h
 omega
variable {c1:Bs} {K:PH}
def XT (P:Program) (c1:Bs) (K:PH) (X:Value->PH->Prop) (df:List Deferred) (x:Value) (w':World):Prop:=∃ρ' β' st' a' H',Mt P ⟨c1,H',K⟩ ρ' β' st' a' w'/\a'.defers=df/\X x H'
theorem a8K {df:List Deferred} {nx:List (List Value->PH->Prop)} {k:St->Option Tree} {ops:Array Oper} {pf:Bool} {ck:Nat->Oper->St->Bool} {kd tg:Nat->Nat} {id dn:Nat} {st0:St} {β0:Nat->Nat} {R:Act->World->Prop}
  (hck:∀(i:Nat) (o:Oper) (st:St),ck i o st=true->a6Z P st o (kd i) (tg i)=true) (htg:∀i,(kd i=5\/kd i=6)->tg i<st0.bl.length) (hfr:∀i,kd i=8->tg i=0\/st0.bl.length<=tg i)
  (hk:∀st t ρ' β a W H,k st=some t->Mt P ⟨c1,H,K⟩ ρ' β st a W->ρ<+:ρ'->st.d=dn->den P G X t nx ρ' H->R a W):∀(L:List Nat) (st:St) (t:Tree) (ρ':List Value) (β:Nat->Nat) (a:Act) (W:World) (H:PH),a.defers=df->
  a6g P pf ck ops id k L st=some t->Mt P ⟨c1,H,K⟩ ρ' β st a W->ρ<+:ρ'->st.d=dn->Rg st0 β0 st β->den P G X t nx ρ' H->wpT P (XT P c1 K X df) ops kd (fun i=>β0 (tg i)) R L a W:=by
 intro L
 induction L with
 |nil=>intro st t ρ' β a W H hdf h m hp hdn _ hd;exact hk st t ρ' β a W H h m hp hdn hd
 |cons i L ih=>
  intro st t ρ' β a W H hdf h m hp hdn hrg hd
  cases ho:ops[i]? with
  |none=>simp[a6g,ho]at h
  |some o=>
   refine⟨o,ho,?_⟩
   rcases a7k m ho h hd with⟨hw,st1,t1,m1,hb1,hd1,hs1,h1,hden⟩|⟨hw,st1,t1,m1,hb1,hd1,hs1,h1,hden⟩
   ·refine .inr ⟨hw,?_⟩
    obtain⟨hok,h1⟩:=a7j h1 hden
    have hok:=hck i o st1 hok
    obtain⟨st',hm,hkn,hR,hc⟩:=a7i m1 h1 hden
    have m':=m1.more hm hkn
    have hd':st'.d=dn:=by rw[hm.d,hd1];exact hdn
    have hrg1:=hrg.congr hb1
    have hrg':=hrg1.congr hm.bl
    have hpv:∀b,b<st0.bl.length->β b=β0 b/\β b<W.heap.size/\H (β b)=none:=fun b hb=>by
     have hlt:b<st'.bl.length:=Nat.lt_of_lt_of_le hb hrg'.ln
     exact⟨hrg'.bt b hb,m'.lt hlt,m'.sep b hlt⟩
    have hS:StpX P (XT P c1 K X df) o a.eval W fun v w'=>((∀b c,(a1K P st1 o).2= .sto b c->st0.bl.length<=b)->∀b,b<st0.bl.length->w'.heap[β0 b]? =W.heap[β0 b]?)/\wpT P (XT P c1 K X df) ops kd (fun i=>β0 (tg i)) R L (a.put o.dst v) w':=by
     cases hsym:(a1K P st1 o).2 with
     |val s=>
      rw[hsym]at hR hc
      obtain⟨hptr,hle,v,hv,hrun⟩:=hR
      obtain⟨t2,h2,hd2⟩:=hc
      have mm:=m'.set hv (by rw[hm.bl];exact hptr) o.dst
      unfold StpX
      rw[hrun W (.inr (.inl (Ext.refl _)))]
      exact⟨fun _ _ _=>rfl,ih _ _ _ _ _ _ _ (by rw[a1d];exact hdf) h2 mm hp (by cases o.dst<;>exact hd') (hrg'.set o.dst s) hd2⟩
     |new c T n=>
      rw[hsym]at hR hc
      obtain⟨h3,hsz,hone,hrun⟩:=hR
      unfold StpX
      rw[hrun W]
      refine⟨fun _ b hb=> ?_,?_⟩
      ·obtain⟨e,hlt,_⟩:=hpv b hb
       rw[<-e];exact(Ext.alloc W _).block' hlt
      have hob:(W.alloc (.cells (D P ρ' c).cells T)).heap[W.heap.size]? =some (.cells (D P ρ' c).cells T (0,0)):=by show(W.heap.push _)[W.heap.size]? =_;simp
      have hH:H W.heap.size=none:=by
       cases e:H W.heap.size with
       |none=>rfl
       |some ob=>have:=a0y (m'.fr.holds _ _ e);omega
      have hKs:K W.heap.size=none:=by
       cases e:K W.heap.size with
       |none=>rfl
       |some ob=>have:=a0y (m'.kp _ _ e);omega
      rcases hc with⟨t2,_,hsc,h2,hd2⟩|⟨t2,h2,hd2⟩
      ·have mm:=(m'.grown (ob:= .cells (D P ρ' c).cells T (0,0)) (Ext.alloc W (.cells (D P ρ' c).cells T)) hob (Nat.le_refl _)).bind hsc (.pointer (some ⟨W.heap.size,0,none⟩)) o.dst
       exact ih _ _ _ _ _ _ _ (by rw[a1d];exact hdf) h2 mm (hp.trans (List.prefix_append _ _)) (by cases o.dst<;>exact hd') (hrg'.bind o.dst) (hd2 _ hH)
      ·have mm:=m'.newB (T:=T) (Ext.alloc W (.cells (D P ρ' c).cells T)) (b:=W.heap.size) hob hsz hone (fun i hi e=>by have:=m'.lt hi;omega) (m'.fr.size) hH hKs o.dst
       refine ih _ _ _ _ _ _ _ (by rw[a1d];exact hdf) h2 mm hp (by cases o.dst<;>exact hd') ?_ hd2
       refine Rg.set (st:={st' with bl:=st'.bl++[Blk.mk c T n]}) ⟨fun b hb=> ?_,by simp;have:=hrg'.ln;omega⟩ o.dst _
       rw[if_neg (by have:=hrg'.ln;omega)];exact hrg'.bt b hb
     |sto b c=>
      rw[hsym]at hR hc
      obtain⟨h4,B',hB',hsz,hone,hrun⟩:=hR
      obtain⟨B,t2,hB,h2,hd2⟩:=hc
      obtain rfl:B'=B:=Option.some.inj (hB'.symm.trans hB)
      have hBs:st'.bl[b]? =some B':=by rw[hm.bl];exact hB
      unfold StpX
      have hcell:=(m'.bl b B' hBs).1
      rw[hrun W hcell]
      have mm:=m'.sto hBs hsz hone o.dst
      exact⟨fun h b' hb'=>by
        have hlb:=h b c rfl
        obtain⟨e,_,_⟩:=hpv b' hb'
        rw[<-e]
        exact setRow_other _ _ _ _ fun e2=>absurd (m'.inj _ _ (Nat.lt_of_lt_of_le hb' hrg'.ln) (List.getElem?_eq_some_iff.1 hBs).1 e2) (by omega),ih _ _ _ _ _ _ _ (by rw[a1d];exact hdf) h2 mm hp (by cases o.dst<;>exact hd') (Rg.set (st:={st' with bl:=st'.bl.set b {B' with c:=c}}) ⟨hrg'.bt,by simpa using hrg'.ln⟩ o.dst _) hd2⟩
     |call f args=>
      rw[hsym]at hR hc
      obtain⟨h4,hrun⟩:=hR
      obtain⟨t2,hsc,h2,hcall⟩:=hc
      unfold StpX
      rw[hrun W]
      refine(hcall W m'.fr.holds).mono fun e w' hh=> ?_
      rcases hh with⟨v,H',he,hst,_,hd2⟩|⟨x,he,_,H',hst,hx⟩
      rotate_left
      ·exact .inr ⟨x,he,ρ',β,st',a,H',m'.step hst,hdf,hx⟩
      refine .inl ⟨v,he,fun _ b hb=> ?_,?_⟩
      ·obtain⟨e,hlt,hn⟩:=hpv b hb
       rw[<-e];exact hst.block _ hlt hn
      ·exact ih _ _ _ _ _ _ _ (by rw[a1d];exact hdf) h2 ((m'.step hst).bind hsc v o.dst) (hp.trans (List.prefix_append _ _)) (by cases o.dst<;>exact hd') (hrg'.bind o.dst) hd2
     |prim args=>
      rw[hsym]at hR hc
      obtain⟨h4,hrun⟩:=hR
      obtain⟨t2,v,hsc,h2,hv,hd2⟩:=hc
      unfold StpX
      rw[hrun,hv W m'.fr.holds]
      exact⟨fun _ _ _=>rfl,ih _ _ _ _ _ _ _ (by rw[a1d];exact hdf) h2 (m'.bind hsc v o.dst) (hp.trans (List.prefix_append _ _)) (by cases o.dst<;>exact hd') (hrg'.bind o.dst) hd2⟩
     |eff args=>
      rw[hsym]at hR hc
      obtain⟨h4,hrun⟩:=hR
      obtain⟨t2,hsc,h2,hcall⟩:=hc
      refine StpX.cg hrun<|StpX.mono2 (hcall W m'.fr.holds) (fun v w' ⟨H',hst,_,hd2⟩=>⟨fun _ b hb=> ?_,?_⟩) fun x w' ⟨_,H',hst,hx⟩=>⟨ρ',β,st',a,H',m'.step hst,hdf,hx⟩
      ·obtain⟨e,hlt,hn⟩:=hpv b hb
       rw[<-e];exact hst.block _ hlt hn
      ·exact ih _ _ _ _ _ _ _ (by rw[a1d];exact hdf) h2 ((m'.step hst).bind hsc v o.dst) (hp.trans (List.prefix_append _ _)) (by cases o.dst<;>exact hd') (hrg'.bind o.dst) hd2
     |ext f args=>
      rw[hsym]at hR hc
      obtain⟨h4,hrun⟩:=hR
      obtain⟨t2,v,hsc,h2,hv,hd2⟩:=hc
      unfold StpX
      rw[hrun,hv W m'.fr.holds]
      exact⟨fun _ _ _=>rfl,ih _ _ _ _ _ _ _ (by rw[a1d];exact hdf) h2 (m'.bind hsc v o.dst) (hp.trans (List.prefix_append _ _)) (by cases o.dst<;>exact hd') (hrg'.bind o.dst) hd2⟩
     |mk args=>
      rw[hsym]at hR hc
      obtain⟨_,hrun⟩:=hR
      obtain⟨t2,hsc,h2,mk,ob,hr,hd2⟩:=hc
      unfold StpX
      rw[hrun,hr W]
      refine⟨fun _ b hb=> ?_,?_⟩
      ·obtain⟨e,hlt,_⟩:=hpv b hb
       rw[<-e];exact(Ext.alloc W _).block' hlt
      have hob:(W.alloc ob).heap[W.heap.size]? =some ob:=by show(W.heap.push _)[W.heap.size]? =_;simp
      have hH:H W.heap.size=none:=by
       cases e:H W.heap.size with
       |none=>rfl
       |some ob=>have:=a0y (m'.fr.holds _ _ e);omega
      have mm:=(m'.grown (Ext.alloc W ob) hob (Nat.le_refl _)).bind hsc (mk W.heap.size) o.dst
      exact ih _ _ _ _ _ _ _ (by rw[a1d];exact hdf) h2 mm (hp.trans (List.prefix_append _ _)) (by cases o.dst<;>exact hd') (hrg'.bind o.dst) (hd2 _ hH)
     |bad=>rw[hsym]at hc;exact hc.elim
    by_cases k0:kd i=0
    ·rw[k0]at hok
     have hok:=ok0 hok
     cases hsym:(a1K P st1 o).2 with
     |val s=>
      rw[hsym]at hR hc
      obtain⟨hptr,hle,v,hv,hrun⟩:=hR
      obtain⟨t2,h2,hd2⟩:=hc
      have mm:=m'.set hv (by rw[hm.bl];exact hptr) o.dst
      exact .inl ⟨k0,v,fun w=>hrun w (hok.imp (fun h=>h) (fun h=> .inr (.inr h))),ih _ _ _ _ _ _ _ (by rw[a1d];exact hdf) h2 mm hp (by cases o.dst<;>exact hd') (hrg'.set o.dst s) hd2⟩
     |_=>
      exfalso
      rcases hok with h0|h0
      ·rw[hsym]at hR hc
       first
        |(have:=hR.1;omega)
        |(have:=(b1e (P:=P) hR.1).1;omega)
        |exact hc.elim
      ·rcases(a1y (P:=P) h0).2 with h|⟨s,h⟩
       ·rw[h]at hc;exact hc.elim
       ·rw[h]at hsym;cases hsym
    by_cases k5:kd i=5
    ·rw[k5]at hok
     obtain⟨T,x,q,s,ix,hop,hget⟩:=ok5 hok
     have hbl:=m1.ptrB hget
     have hta:β0 (tg i)=β (tg i):=(hrg1.bt _ (htg i (.inl k5))).symm
     have e:(a1K P st1 o)=a9w P st1 T x:=by simp[a1K,hop]
     rcases b4j (P:=P) (T:=T) hget with hb|⟨s',hb⟩
     ·rw[e,hb]at hc;exact hc.elim
     ·rw[e,hb]at hc hR
      obtain⟨hptr,hle,v,hv,hrun⟩:=hR
      obtain⟨t2,h2,hd2⟩:=hc
      have mm:=m'.set hv (by rw[hm.bl];exact hptr) o.dst
      have nxt:=ih _ _ _ _ _ _ _ (by rw[a1d];exact hdf) h2 mm hp (by cases o.dst<;>exact hd') (hrg'.set o.dst s') hd2
      obtain⟨Bk,hBk⟩:∃B,st1.bl[tg i]? =some B:=⟨_,List.getElem?_eq_getElem hbl⟩
      refine .inr (.inl ⟨k5,v,_,by show W.heap[β0 (tg i)]? =_;rw[hta];exact(m1.bl _ Bk hBk).1,fun w hw=>hrun w (.inr (.inr (.inl ⟨T,x,tg i,q,s,ix,hop,hget,?_⟩))),nxt⟩)
      change w.heap[β0 (tg i)]? =_ at hw
      rw[hta]at hw;rw[hw,(m1.bl _ Bk hBk).1]
    by_cases k6:kd i=6
    ·rw[k6]at hok
     obtain⟨T,x,y,q,s,ix,hop,hget⟩:=ok6 hok
     have hta:β0 (tg i)=β (tg i):=(hrg1.bt _ (htg i (.inr k6))).symm
     have e:(a1K P st1 o)=a6Y P st1 T x y:=by simp[a1K,hop]
     rcases b7M (P:=P) (T:=T) (y:=y) hget with hb|⟨c,hb⟩
     ·rw[e,hb]at hc;exact hc.elim
     ·rw[e,hb]at hc hR
      obtain⟨h4,B',hB',hsz,hone,hrun⟩:=hR
      obtain⟨B,t2,hB,h2,hd2⟩:=hc
      obtain rfl:B'=B:=Option.some.inj (hB'.symm.trans hB)
      have hBs:st'.bl[tg i]? =some B':=by rw[hm.bl];exact hB
      have hcell:=(m'.bl _ B' hBs).1
      have mm:=m'.sto hBs hsz hone o.dst
      refine .inr (.inr (.inl ⟨k6,_,(D P ρ' c).cells,by show W.heap[β0 (tg i)]? =_;rw[hta];exact hcell,fun w hw=> ?_,?_⟩))
      ·change w.heap[β0 (tg i)]? =_ at hw
       show _=Result.ok Next.skip (w.setRow (β0 (tg i)) _)
       rw[hta]at hw⊢;exact hrun w hw
      ·show wpT P (XT P c1 K X df) ops kd _ R L _ (W.setRow (β0 (tg i)) _)
       rw[hta]
       exact ih _ _ _ _ _ _ _ (by rw[a1d];exact hdf) h2 mm hp (by cases o.dst<;>exact hd') (Rg.set (st:={st' with bl:=st'.bl.set (tg i) {B' with c:=c}}) ⟨hrg'.bt,by simpa using hrg'.ln⟩ o.dst _) hd2
    by_cases k7:kd i=7
    ·rw[k7]at hok
     obtain⟨args,hsym⟩:=ok7 hok
     rw[hsym]at hR hc
     obtain⟨h4,hrun⟩:=hR
     obtain⟨t2,v,hsc,h2,hv,hd2⟩:=hc
     refine .inr (.inr (.inr (.inl ⟨k7,v,fun w=>H.In w,fun w hw=>by rw[hrun];exact hv w hw,m'.fr.holds,fun mm c w hmm=> ?_,ih _ _ _ _ _ _ _ (by rw[a1d];exact hdf) h2 (m'.bind hsc v o.dst) (hp.trans (List.prefix_append _ _)) (by cases o.dst<;>exact hd') (hrg'.bind o.dst) hd2⟩)))
     obtain⟨e,_,hn⟩:=hpv (tg mm) (htg mm (.inr hmm))
     have hne:∀b ob,H b=some ob->b≠β0 (tg mm):=fun b ob hb e2=>by rw[e2,<-e,hn]at hb;cases hb
     constructor
     ·intro hin b ob hb
      have:=hin b ob hb
      rwa[setRow_other _ _ _ _ (hne b ob hb)]at this
     ·intro hin b ob hb
      rw[setRow_other _ _ _ _ (hne b ob hb)];exact hin b ob hb
    by_cases k8:kd i=8
    ·rw[k8]at hok
     exact .inr (.inr (.inr (.inr (.inl ⟨k8,hS.mono fun v w' ⟨g1,g2⟩=>⟨fun mm hmm=>g1 (d3L (ok8 hok) (hfr i k8)) _ (htg mm (.inl hmm)),g2⟩⟩))))
    by_cases k9:kd i=9
    ·rw[k9]at hok
     obtain⟨⟨args,hsym⟩,hbo⟩:=ok9 hok
     rw[hsym]at hR hc
     obtain⟨h4,hrun⟩:=hR
     obtain⟨t2,v,hsc,h2,hv,hd2⟩:=hc
     refine .inr (.inr (.inr (.inr (.inr (.inl ⟨k9,v,fun w=>∃w0,H.In w0/\KeepM w0 w,fun w ⟨w0,hw0,hkm⟩=> ?_,⟨W,m'.fr.holds,KeepM.refl _⟩,fun w1 w2 hkm ⟨w0,hw0,hk0⟩=>⟨w0,hw0,hk0.trans hkm⟩,ih _ _ _ _ _ _ _ (by rw[a1d];exact hdf) h2 (m'.bind hsc v o.dst) (hp.trans (List.prefix_append _ _)) (by cases o.dst<;>exact hd') (hrg'.bind o.dst) hd2⟩)))))
     exact(c3B hbo w0 w _ _ hkm (by rw[hrun];exact hv w0 hw0)).2
    by_cases k10:kd i=10
    ·rw[k10]at hok
     refine .inr (.inr (.inr (.inr (.inr (.inr (.inl ⟨k10,?_⟩))))))
     have hmo:=d8a hok
     unfold StpX at hS⊢
     cases e:(execOp a.eval o).run P W with
     |halt h w2=>rw[e]at hS;cases h<;>exact hS
     |ok u w2=>
      rw[e]at hS
      obtain⟨hkm,⟨x,rfl⟩|rfl⟩:=d3G hmo e
      ·exact⟨hkm,hS.2⟩
      ·exact⟨hkm,hS.2⟩
    ·exact .inr (.inr (.inr (.inr (.inr (.inr (.inr ⟨k0,k5,k6,k7,k8,k9,k10,hS.mono fun v w' ⟨_,g2⟩=>g2⟩))))))
   ·refine .inl ⟨hw,?_⟩
    exact ih _ _ _ _ _ _ _ (by rw[a1d];exact hdf) h1 (m1.set (s:= .x (.k undef)) (v:=undef) rfl (by rintro b q t i h;cases h) o.dst) hp (by cases o.dst<;>exact hd1.trans hdn) ((hrg.congr hb1).set o.dst _) hden
theorem b5Q {df:List Deferred} {nx:List (List Value->PH->Prop)} {k:St->Option Tree} {ops:Array Oper} {ck:Nat->Oper->St->Bool} {kd tg:Nat->Nat} {id dn B:Nat} {st0:St} {β0:Nat->Nat} {R:Act->World->Prop} (hB0:c1.w.heap.size<=B) (hKB:∀k,K k≠none->k<B)
  (hck:∀(i:Nat) (o:Oper) (st:St),ck i o st=true->a6Z P st o (kd i) (tg i)=true) (htg:∀i,(kd i=5\/kd i=6)->tg i<st0.bl.length)
  (hk:∀st t ρ' β a W H,a.defers=df->k st=some t->Mt P ⟨c1,H,K⟩ ρ' β st a W->ρ<+:ρ'->st.d=dn->Rg st0 β0 st β->den P G X t nx ρ' H->R a W):∀(L bs:List Nat) (st:St) (t:Tree) (ρ':List Value) (β:Nat->Nat) (a:Act) (W:World) (H:PH),a.defers=df->
  (∀i∈L,frK (kd i)=true)->a6g P true ck ops id k L st=some t->Mt P ⟨c1,H,K⟩ ρ' β st a W->ρ<+:ρ'->st.d=dn->Rg st0 β0 st β->(∀i,i<st.bl.length->β i<B\/β i∈bs)->(∀b,H b≠none->b<B\/b∈bs)->den P G X t nx ρ' H->
  wpF P ops kd (fun i=>β0 (tg i)) B R L bs a W:=by
 intro L
 induction L with
 |nil=>intro bs st t ρ' β a W H hdf _ h m hp hdn hrg _ _ hd w hw;exact hk st t ρ' β a w H hdf h (m.ext hw) hp hdn hrg hd
 |cons i L ih=>
  intro bs st t ρ' β a W H hdf hkL h m hp hdn hrg hbs hHb hd
  have hkL':∀i∈L,frK (kd i)=true:=fun j hj=>hkL j (by simp[hj])
  cases ho:ops[i]? with
  |none=>simp[a6g,ho]at h
  |some o=>
   refine⟨o,ho,?_⟩
   have hle3:=hkL i (by simp)
   simp only[frK,Bool.or_eq_true,decide_eq_true_eq,beq_iff_eq]at hle3
   rcases a7k m ho h hd with⟨hw,st1,t1,m1,hb1,hd1,hs1,h1,hden⟩|⟨hw,st1,t1,m1,hb1,hd1,hs1,h1,hden⟩
   ·refine .inr ⟨hw,?_⟩
    obtain⟨hok,h1⟩:=a7j h1 hden
    have hok:=hck i o st1 hok
    obtain⟨st',hm,hkn,hR,hc⟩:=a7i m1 h1 hden
    have m':=m1.more hm hkn
    have hd':st'.d=dn:=by rw[hm.d,hd1];exact hdn
    have hbl:st'.bl=st.bl:=hm.bl.trans hb1
    have hbs':∀i,i<st'.bl.length->β i<B\/β i∈bs:=by rw[hbl];exact hbs
    have hrg1:=hrg.congr hb1
    have hrg':=hrg1.congr hm.bl
    have after:∀(t2:Tree) (v:Value) (H':PH) (cs:List Nat) (W':World),a6A st'=true->a6g P true ck ops id k L (a4v st' o.dst)=some t2->Ext W W'->H'.In W'->(∀b,H' b≠none->H b≠none\/b∈cs)->(∀c∈cs,B<=c/\c∉bs)->den P G X t2 nx (ρ'++[v]) H'->
      wpF P ops kd (fun i=>β0 (tg i)) B R L (cs++bs) (a.put o.dst v) W':=fun t2 v H' cs W' hsc h2 hx hin hdom hcs hd2=>by
     have mm:=((m'.ext hx).grow (H':=H') hin (fun b hb=>by
      cases e:H' (β b)with
      |none=>rfl
      |some ob=>
       rcases hdom (β b) (by simp[e])with h|h
       ·exact absurd (m'.sep b hb) h
       ·have:=hcs _ h
        rcases hbs' b hb with h'|h'
        ·omega
        ·exact absurd h' this.2) (fun b hb=>(hdom b hb).imp (fun h=>h) (fun h=>Nat.le_trans hB0 (hcs b h).1)) (fun k hk=>by
      cases e:H' k with
      |none=>rfl
      |some ob=>
       rcases hdom k (by simp[e])with h|h
       ·exact absurd (m'.kpH k hk) h
       ·have:=(hcs _ h).1;have:=hKB k hk;omega)).bind hsc v o.dst
     refine ih (cs++bs) _ _ _ _ _ _ _ (by rw[a1d];exact hdf) hkL' h2 mm (hp.trans (List.prefix_append _ _)) (by cases o.dst<;>exact hd') (hrg'.bind o.dst) ?_ ?_ hd2
     ·have:∀i,i<st'.bl.length->β i<B\/β i∈cs++bs:=fun i hi=>(hbs' i hi).imp (fun h=>h) (fun h=>by simp[h])
      cases o.dst<;>exact this
     ·intro b hb
      rcases hdom b hb with h|h
      ·exact(hHb b h).imp (fun h=>h) (fun h=>by simp[h])
      ·exact .inr (by simp[h])
    have fresh:∀(w w':World) (H':PH),Step H w H' w'->∃cs:List Nat,(∀c∈cs,w.heap.size<=c/\c<w'.heap.size)/\∀b,H' b≠none->H b≠none\/b∈cs:=fun w w' H' hst=>by
     refine⟨(List.range w'.heap.size).filter fun b=>decide (w.heap.size<=b),fun c hc=> ?_,fun b hb=> ?_⟩
     ·simp only[List.mem_filter,List.mem_range,decide_eq_true_eq]at hc
      exact⟨hc.2,hc.1⟩
     ·rcases hst.dom b hb with h|h
      ·exact .inl h
      ·right
       cases e:H' b with
       |none=>exact absurd e hb
       |some ob=>
        have:=a0y (hst.holds b ob e)
        simp only[List.mem_filter,List.mem_range,decide_eq_true_eq]
        exact⟨this,h⟩
    have fH:∀b,b∉bs->B<=b->H b=none:=fun b hnb hBb=>by
     cases e:H b with
     |none=>rfl
     |some ob=>
      rcases hHb b (by simp[e])with h|h
      ·omega
      ·exact absurd h hnb
    have putDom:∀(b:Nat) (ob:Obj) (b':Nat),(H.put b ob) b'≠none->H b'≠none\/b'∈[b]:=fun b ob b' hb'=>by
     unfold PH.put at hb';split at hb'
     ·rename_i e;exact .inr (by simp[e])
     ·exact .inl hb'
    by_cases k5:kd i=5
    ·rw[k5]at hok
     obtain⟨T,x,q,s,ix,hop,hget⟩:=ok5 hok
     have hblt:=m1.ptrB hget
     have hta:β0 (tg i)=β (tg i):=(hrg1.bt _ (htg i (.inl k5))).symm
     have e:(a1K P st1 o)=a9w P st1 T x:=by simp[a1K,hop]
     rcases b4j (P:=P) (T:=T) hget with hb|⟨s',hb⟩
     ·rw[e,hb]at hc;exact hc.elim
     ·rw[e,hb]at hc hR
      obtain⟨hptr,hle,v,hv,hrun⟩:=hR
      obtain⟨t2,h2,hd2⟩:=hc
      have mm:=m'.set hv (by rw[hm.bl];exact hptr) o.dst
      have nxt:=ih bs _ _ _ _ _ _ _ (by rw[a1d];exact hdf) hkL' h2 mm hp (by cases o.dst<;>exact hd') (hrg'.set o.dst s') (by cases o.dst<;>exact hbs') hHb hd2
      obtain⟨Bk,hBk⟩:∃B,st1.bl[tg i]? =some B:=⟨_,List.getElem?_eq_getElem hblt⟩
      refine .inr (.inr (.inr (.inr ⟨k5,v,_,by show W.heap[β0 (tg i)]? =_;rw[hta];exact(m1.bl _ Bk hBk).1,fun w hw=>hrun w (.inr (.inr (.inl ⟨T,x,tg i,q,s,ix,hop,hget,?_⟩))),nxt⟩)))
      change w.heap[β0 (tg i)]? =_ at hw
      rw[hta]at hw;rw[hw,(m1.bl _ Bk hBk).1]
    have hk4:kd i=0\/kd i=1\/kd i=2\/kd i=3:=by omega
    cases hsym:(a1K P st1 o).2 with
    |val s=>
     rw[hsym]at hR hc
     obtain⟨hptr,hle,v,hv,hrun⟩:=hR
     obtain⟨t2,h2,hd2⟩:=hc
     have mm:=m'.set hv (by rw[hm.bl];exact hptr) o.dst
     have nxt:=ih bs _ _ _ _ _ _ _ (by rw[a1d];exact hdf) hkL' h2 mm hp (by cases o.dst<;>exact hd') (hrg'.set o.dst s) (by cases o.dst<;>exact hbs') hHb hd2
     rcases hk4 with k0|k1|k2|k3
     ·rw[k0]at hok
      exact .inl ⟨k0,v,fun w=>hrun w ((ok0 hok).imp (fun h=>h) (fun h=> .inr (.inr h))),nxt⟩
     ·exact .inr (.inl ⟨k1,v,fun w hw=>hrun w (.inr (.inl hw)),nxt⟩)
     ·rw[k2]at hok;have:=(ok2 hok).1;omega
     ·rw[k3]at hok
      rcases ok3 hok with h|h
      ·omega
      ·have:=(b1e (P:=P) h).1;omega
    |new c T n=>
     rw[hsym]at hR hc
     obtain⟨h3,hsz,hone,hrun⟩:=hR
     have k3:kd i=3:=by
      rcases hk4 with k0|k1|k2|k3
      ·rw[k0]at hok
       rcases ok0 hok with h|h
       ·omega
       ·have:=(a1y (P:=P) h).1;omega
      ·rw[k1]at hok;have:=ok1 hok;omega
      ·rw[k2]at hok;have:=(ok2 hok).1;omega
      ·exact k3
     refine .inr (.inr (.inr (.inl ⟨k3,fun b=> .pointer (some ⟨b,0,none⟩),_,hrun,fun b W' hx hob hnb hBb=> ?_⟩)))
     have hH:=fH b hnb hBb
     rcases hc with⟨t2,_,hsc,h2,hd2⟩|⟨t2,h2,hd2⟩
     ·exact after t2 (.pointer (some ⟨b,0,none⟩)) (H.put b (.cells (D P ρ' c).cells T (0,0))) [b] W' hsc h2 hx (PH.put_in (m'.fr.holds.ext hx) hob) (putDom _ _) (fun c hc=>by simp only[List.mem_cons,List.not_mem_nil,or_false]at hc;subst hc;exact⟨hBb,hnb⟩) (hd2 b hH)
     ·have mm:=m'.newB hx (b:=b) hob hsz hone (fun i hi e=>by
       rcases hbs' i hi with h|h
       ·omega
       ·rw[e]at h;exact hnb h) (Nat.le_trans hB0 hBb) hH (by
       cases e:K b with
       |none=>exact e
       |some ob=>have:=hKB b (by simp[e]);omega) o.dst
      refine ih (b::bs) _ _ _ _ _ _ _ (by rw[a1d];exact hdf) hkL' h2 mm hp (by cases o.dst<;>exact hd') ?_ ?_ (fun b' hb'=>(hHb b' hb').imp (fun h=>h) (fun h=>by simp[h])) hd2
      ·refine Rg.set (st:={st' with bl:=st'.bl++[Blk.mk c T n]}) ⟨fun b hb=> ?_,by simp;have:=hrg'.ln;omega⟩ o.dst _
       rw[if_neg (by have:=hrg'.ln;omega)];exact hrg'.bt b hb
      ·have:∀i,i<(st'.bl++[Blk.mk c T n]).length->(if i=st'.bl.length then b else β i)<B\/(if i=st'.bl.length then b else β i)∈b::bs:=fun i hi=>by
        split
        ·exact .inr (by simp)
        ·rename_i hne
         simp only[List.length_append,List.length_cons,List.length_nil]at hi
         exact(hbs' i (by omega)).imp (fun h=>h) (fun h=>by simp[h])
       cases o.dst<;>exact this
    |sto b c=>
     rw[hsym]at hR
     obtain⟨h4,_⟩:=hR
     exfalso
     rcases hk4 with k0|k1|k2|k3
     ·rw[k0]at hok
      rcases ok0 hok with h|h
      ·omega
      ·have:=(a1y (P:=P) h).1;omega
     ·rw[k1]at hok;have:=ok1 hok;omega
     ·rw[k2]at hok;have:=(ok2 hok).1;omega
     ·rw[k3]at hok
      rcases ok3 hok with h|h
      ·omega
      ·have:=(b1e (P:=P) h).1;omega
    |call f args=>
     rw[hsym]at hR hc
     obtain⟨h4,hrun⟩:=hR
     obtain⟨t2,hsc,h2,hcall⟩:=hc
     have k2:kd i=2:=by
      rcases hk4 with k0|k1|k2|k3
      ·rw[k0]at hok
       rcases ok0 hok with h|h
       ·omega
       ·have:=(a1y (P:=P) h).1;omega
      ·rw[k1]at hok;have:=ok1 hok;omega
      ·exact k2
      ·rw[k3]at hok
       rcases ok3 hok with h|h
       ·omega
       ·exfalso
        unfold mkB at h
        split at h<;>first|cases h|(rename_i hop;simp[a1K,hop,mkB,sMk,b0W,b4c,c3K,bad]at hsym;split at hsym<;>(split at hsym<;>simp at hsym))
     refine .inr (.inr (.inl ⟨k2,fun v cs W'=>∃H',H'.In W'/\(∀b,H' b≠none->H b≠none\/b∈cs)/\den P G X t2 nx (ρ'++[v]) H',fun w hw=> ?_,fun v cs W' hx ⟨H',hin,hdom,hd2⟩ hcs=>after t2 v H' cs W' hsc h2 hx hin hdom hcs hd2⟩))
     unfold Stp;rw[hrun w]
     refine(hcall w (m'.fr.holds.ext hw)).mono fun e w' hh=> ?_
     rcases hh with⟨v,H',he,hst,hle,hd2⟩|⟨_,_,hpf,_⟩
     rotate_left
     ·cases hpf
     refine⟨v,he,hst.toExt (m'.fr.holds.ext hw) (hle rfl),?_⟩
     obtain⟨cs,hcs,hdom⟩:=fresh w w' H' hst
     exact⟨cs,hcs,H',hst.holds,hdom,hd2⟩
    |prim args=>
     rw[hsym]at hR hc
     obtain⟨h4,hrun⟩:=hR
     obtain⟨t2,v,hsc,h2,hv,hd2⟩:=hc
     have k1:kd i=1:=by
      rcases hk4 with k0|k1|k2|k3
      ·rw[k0]at hok
       rcases ok0 hok with h|h
       ·omega
       ·rcases(a1y (P:=P) h).2 with h|⟨s,h⟩<;>rw[h]at hsym<;>cases hsym
      ·exact k1
      ·rw[k2]at hok;have:=(ok2 hok).1;omega
      ·rw[k3]at hok
       rcases ok3 hok with h|h
       ·omega
       ·have:=(b1e (P:=P) h).1;omega
     exact .inr (.inl ⟨k1,v,fun w hw=>by rw[hrun];exact hv w (m'.fr.holds.ext hw),ih bs _ _ _ _ _ _ _ (by rw[a1d];exact hdf) hkL' h2 (m'.bind hsc v o.dst) (hp.trans (List.prefix_append _ _)) (by cases o.dst<;>exact hd') (hrg'.bind o.dst) (by cases o.dst<;>exact hbs') hHb hd2⟩)
    |eff args=>
     rw[hsym]at hR hc
     obtain⟨h4,hrun⟩:=hR
     obtain⟨t2,hsc,h2,hcall⟩:=hc
     have k2:kd i=2:=by
      rcases hk4 with k0|k1|k2|k3
      ·rw[k0]at hok
       rcases ok0 hok with h|h
       ·omega
       ·have:=(a1y (P:=P) h).1;omega
      ·rw[k1]at hok;have:=ok1 hok;omega
      ·exact k2
      ·rw[k3]at hok
       rcases ok3 hok with h|h
       ·omega
       ·exfalso
        unfold mkB at h
        split at h<;>first|cases h|(rename_i hop;simp[a1K,hop,mkB,h,sMk,bad]at hsym;split at hsym<;>simp at hsym)
     refine .inr (.inr (.inl ⟨k2,fun v cs W'=>∃H',H'.In W'/\(∀b,H' b≠none->H b≠none\/b∈cs)/\den P G X t2 nx (ρ'++[v]) H',fun w hw=> ?_,fun v cs W' hx ⟨H',hin,hdom,hd2⟩ hcs=>after t2 v H' cs W' hsc h2 hx hin hdom hcs hd2⟩))
     refine Stp.cg hrun<|Stp.mono ((hcall w (m'.fr.holds.ext hw)).toStp fun _ _ hx=>by cases hx.1) fun v w' ⟨H',hst,hle,hd2⟩=>⟨hst.toExt (m'.fr.holds.ext hw) (hle rfl),?_⟩
     obtain⟨cs,hcs,hdom⟩:=fresh w w' H' hst
     exact⟨cs,hcs,H',hst.holds,hdom,hd2⟩
    |ext f args=>
     rw[hsym]at hR hc
     obtain⟨h4,hrun⟩:=hR
     obtain⟨t2,v,hsc,h2,hv,hd2⟩:=hc
     have k2:kd i=2:=by
      rcases hk4 with k0|k1|k2|k3
      ·rw[k0]at hok
       rcases ok0 hok with h|h
       ·omega
       ·have:=(a1y (P:=P) h).1;omega
      ·rw[k1]at hok;have:=ok1 hok;omega
      ·exact k2
      ·rw[k3]at hok
       rcases ok3 hok with h|h
       ·omega
       ·exfalso
        unfold mkB at h
        split at h<;>first|cases h|(rename_i hop;simp[a1K,hop,mkB,h,sMk,bad]at hsym;split at hsym<;>simp at hsym)
     refine .inr (.inr (.inl ⟨k2,fun u cs W'=>u=v/\cs=[],fun w hw=> ?_,fun u cs W' hx hV hcs=> ?_⟩))
     ·unfold Stp;rw[hrun,hv w (m'.fr.holds.ext hw)];exact⟨Ext.refl _,[],by simp,rfl,rfl⟩
     ·obtain⟨rfl,rfl⟩:=hV
      exact after t2 u H [] W' hsc h2 hx (m'.fr.holds.ext hx) (fun b hb=> .inl hb) hcs hd2
    |mk args=>
     rw[hsym]at hR hc
     obtain⟨hmk,hrun⟩:=hR
     obtain⟨t2,hsc,h2,mk,ob,hr,hd2⟩:=hc
     have k3:kd i=3:=by
      have hkd:=b1e (P:=P) hmk
      rcases hk4 with k0|k1|k2|k3
      ·rw[k0]at hok
       rcases ok0 hok with h|h
       ·omega
       ·rw[hkd.2]at h;cases h
      ·rw[k1]at hok;have:=ok1 hok;omega
      ·rw[k2]at hok;rw[(ok2 hok).2]at hmk;cases hmk
      ·exact k3
     refine .inr (.inr (.inr (.inl ⟨k3,mk,ob,fun w=>by rw[hrun];exact hr w,fun b W' hx hob hnb hBb=> ?_⟩)))
     exact after t2 (mk b) (H.put b ob) [b] W' hsc h2 hx (PH.put_in (m'.fr.holds.ext hx) hob) (putDom _ _) (fun c hc=>by simp only[List.mem_cons,List.not_mem_nil,or_false]at hc;subst hc;exact⟨hBb,hnb⟩) (hd2 b (fH b hnb hBb))
    |bad=>rw[hsym]at hc;exact hc.elim
   ·refine .inl ⟨hw,?_⟩
    exact ih bs _ _ _ _ _ _ _ (by rw[a1d];exact hdf) hkL' h1 (m1.set (s:= .x (.k undef)) (v:=undef) rfl (by rintro b q t i h;cases h) o.dst) hp (by cases o.dst<;>exact hd1.trans hdn) ((hrg.congr hb1).set o.dst _) (by cases o.dst<;>(simp only[St.set];rw[hb1];exact hbs)) hHb hden
end
end Go.RX

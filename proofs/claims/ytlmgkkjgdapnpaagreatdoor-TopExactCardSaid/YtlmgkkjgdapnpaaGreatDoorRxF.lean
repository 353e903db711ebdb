/- States and their meaning; soundness of one operation. -/
import Derived.Test.YtlmgkkjgdapnpaaGreatDoorRxD
namespace Go.RX
open Go.RowKit
def b3b (t:Nat):List Operand->List Value->Value
 | .tmp u::os,v::vs=>if u=t then v else b3b t os vs
 |_::os,_::vs=>b3b t os vs
 |_,_=>undef
def a0k (os:List Operand) (vs:List Value):Operand->Value
 | .tmp t=>b3b t os vs
 | .const v=>v
 | .global g=> .pointer (some ⟨g,0,none⟩)
 | .func f=> .func (.func f) #[] #[]
theorem c3S (a:Act):∀(os:List Operand) (x:Operand),x∈os->a0k os (os.map a.eval) x=a.eval x:=by
 intro os
 induction os with
 |nil=>intro x hx;cases hx
 |cons y os ih=>
  intro x hx
  cases x with
  |tmp t=>
   simp only[a0k,List.map_cons]
   cases y with
   |tmp u=>
    simp only[b3b]
    split
    ·rename_i h;rw[h]
    ·rename_i h
     have:Operand.tmp t∈os:=by
      rcases List.mem_cons.1 hx with e|e
      ·exact absurd (by injection e with e;exact e.symm) h
      ·exact e
     exact ih _ this
   |const v=>
    simp only[b3b]
    have:Operand.tmp t∈os:=by
     rcases List.mem_cons.1 hx with e|e
     ·cases e
     ·exact e
    exact ih _ this
   |global g=>
    simp only[b3b]
    have:Operand.tmp t∈os:=by
     rcases List.mem_cons.1 hx with e|e
     ·cases e
     ·exact e
    exact ih _ this
   |func f=>
    simp only[b3b]
    have:Operand.tmp t∈os:=by
     rcases List.mem_cons.1 hx with e|e
     ·cases e
     ·exact e
    exact ih _ this
  |const v=>rfl
  |global g=>rfl
  |func f=>rfl
def ML (P:Program) (ρ:List Value) (β:Nat->Nat):SL->Value->Prop
 | .x s,v=>v=D P ρ s
 | .p b o s i,v=>v= .pointer (some ⟨β b,o+s*a2G (D P ρ i),none⟩)
 | .u,_=>True
abbrev PH:=Nat->Option Obj
def PH.In (H:PH) (w:World):Prop:=∀b o,H b=some o->w.heap[b]? =some o
def PH.le (H H':PH):Prop:=∀b o,H b=some o->H' b=some o
structure Step (H:PH) (w:World) (H':PH) (w':World):Prop where
 os:w'.os=w.os
 tape:w'.tape=w.tape
 output:w'.output=w.output
 size:w.heap.size<=w'.heap.size
 block:∀k,k<w.heap.size->H k=none->w'.heap[k]? =w.heap[k]?
 holds:PH.In H' w'
 dom:∀b,H' b≠none->H b≠none\/w.heap.size<=b
 dr:w.drawn<=w'.drawn
theorem Step.refl {H:PH} {w:World} (h:H.In w):Step H w H w:=⟨rfl,rfl,rfl,Nat.le_refl _,fun _ _ _=>rfl,h,fun _ h=> .inl h,Nat.le_refl _⟩
theorem PH.In.ext {H:PH} {w w':World} (h:H.In w) (hx:Ext w w'):H.In w':=fun b o hb=>hx.block (h b o hb)
theorem PH.le.refl (H:PH):PH.le H H:=fun _ _ h=>h
theorem PH.le.trans {A B C:PH} (h:PH.le A B) (k:PH.le B C):PH.le A C:=fun b o hb=>k b o (h b o hb)
theorem PH.le.In {H H':PH} (h:PH.le H H') {w:World} (k:H'.In w):H.In w:=fun b o hb=>k b o (h b o hb)
theorem Step.trans {H H' H'':PH} {a b c:World} (h:Step H a H' b) (k:Step H' b H'' c):Step H a H'' c:=by
 refine⟨k.os.trans h.os,k.tape.trans h.tape,k.output.trans h.output,Nat.le_trans h.size k.size,fun i hi hn=> ?_,k.holds,fun i hi=> ?_,Nat.le_trans h.dr k.dr⟩
 ·have hn':H' i=none:=by
   cases e:H' i with
   |none=>rfl
   | some o => rcases h.dom i (by simp [e]) with h1 | h1
               · exact absurd hn h1
               · omega
  rw[k.block i (Nat.lt_of_lt_of_le hi h.size) hn',h.block i hi hn]
 ·rcases k.dom i hi with h1|h1
  ·exact h.dom i h1
  ·exact .inr (Nat.le_trans h.size h1)
theorem Step.ext {H H':PH} {a b c:World} (h:Step H a H' b) (k:Ext b c):Step H a H' c:=
 ⟨k.os.trans h.os,k.tape.trans h.tape,k.output.trans h.output,Nat.le_trans h.size k.size,fun i hi hn=>(k.block' (Nat.lt_of_lt_of_le hi h.size)).trans (h.block i hi hn),h.holds.ext k,h.dom,Nat.le_trans h.dr k.dr⟩
theorem Step.toExt {H H':PH} {a b:World} (h:Step H a H' b) (ha:H.In a) (hl:PH.le H H'):Ext a b:=by
 refine⟨h.os,h.tape,h.output,h.size,fun k hk=> ?_,h.dr⟩
 cases e:H k with
 |none=>exact h.block k hk e
 |some o=>rw[h.holds k o (hl k o e),ha k o e]
structure Bs where
 w:World
 H0:PH
 ro:Option Nat
 n0:Nat
 b0:Nat->Nat
 K0:PH
structure Cx extends Bs where
 H:PH
 K:PH
def c3T (D:Nat):Deferred:={target:= .collected D,args:= #[]}
structure Mt (P:Program) (w0:Cx) (ρ:List Value) (β:Nat->Nat) (st:St) (a:Act) (W:World):Prop where
 sz:a.tmps.size=st.sl.length
 sl:∀(t:Nat) (s:SL),st.sl[t]? =some s->∃v,a.tmps[t]? =some v/\ML P ρ β s v
 pb:∀(t b o s:Nat) (i:SV),st.sl[t]? =some (.p b o s i)->b<st.bl.length
 df:∃Ds:List Nat,a.defers=Ds.map c3T/\Ds.Nodup/\∀D∈Ds,w0.w.heap.size<=D/\w0.K D=some (.deferred (some []))
 n:ρ.length=st.n
 bl:∀(b:Nat) (B:Blk),st.bl[b]? =some B->W.heap[β b]? =some (.cells (D P ρ B.c).cells B.T (0,0))/\(D P ρ B.c).cells.size=B.n/\a0p (D P ρ B.c).cells
 inj:∀b b',b<st.bl.length->b'<st.bl.length->β b=β b'->b=b'
 own:∀b,b<st.bl.length->w0.w.heap.size<=β b\/w0.H0 (β b)≠none
 sep:∀b,b<st.bl.length->w0.H (β b)=none
 fr:Step w0.H0 w0.w w0.H W
 kp:w0.K.In W
 rd:st.rd=false->w0.ro=none
 ag:∀b,b<w0.n0->β b=w0.b0 b
 ln:w0.n0<=st.bl.length
 kle:PH.le w0.K0 w0.K
 kpH:∀k,w0.K k≠none->w0.H k=none
 kpB:∀b,b<st.bl.length->w0.K (β b)=none
 kn:∀r∈st.kn,r.holds P ρ
 kb:∀p∈st.kb,D P ρ p.1= .bool p.2
section
variable {P:Program} {w0:Cx} {ρ:List Value} {β:Nat->Nat} {st:St} {a:Act} {W:World}
theorem Mt.ext (m:Mt P w0 ρ β st a W) {w:World} (h:Ext W w):Mt P w0 ρ β st a w:=
 {m with
  bl:=fun b B hb=>let⟨h1,h2⟩:=m.bl b B hb;⟨h.block h1,h2⟩
  fr:=m.fr.ext h
  kp:=m.kp.ext h}
theorem Mt.get (m:Mt P w0 ρ β st a W) {x:Operand} {s:SL} (h:st.get x=some s):ML P ρ β s (a.eval x):=by
 cases x with
 |tmp t=>
  obtain⟨v,hv,hm⟩:=m.sl t s h
  simp only[Act.eval,Array.getD_eq_getD_getElem?,hv,Option.getD_some]
  exact hm
 |const c=>simp only[St.get,Option.some.injEq]at h;subst h;rfl
 |func f=>simp only[St.get,Option.some.injEq]at h;subst h;rfl
 |global g=>simp only[St.get,Option.some.injEq]at h;subst h;rfl
theorem Mt.val (m:Mt P w0 ρ β st a W) {x:Operand} {s:SV} (h:st.val x=some s):a.eval x=D P ρ s:=by
 unfold St.val at h
 split at h
 ·rename_i s' hs
  simp only[Option.some.injEq]at h;subst h
  exact m.get hs
 ·cases h
theorem Mt.vals (m:Mt P w0 ρ β st a W):∀{l:List Operand} {svs:List SV},a3t st l=some svs->svs.map (D P ρ)=l.map a.eval:=by
 intro l
 induction l with
 |nil=>intro svs h;simp only[a3t,Option.some.injEq]at h;subst h;rfl
 |cons x r ih=>
  intro svs h
  simp only[a3t]at h
  split at h
  ·rename_i s l' hs hl
   simp only[Option.some.injEq]at h;subst h
   simp only[List.map_cons,ih hl,m.val hs]
  ·cases h
theorem Mt.ptr (m:Mt P w0 ρ β st a W) {x:Operand} {b o s:Nat} {i:SV} (h:st.get x=some (.p b o s i)):a.eval x= .pointer (some ⟨β b,o+s*a2G (D P ρ i),none⟩):=m.get h
theorem Mt.ptrB (m:Mt P w0 ρ β st a W) {x:Operand} {b o s:Nat} {i:SV} (h:st.get x=some (.p b o s i)):b<st.bl.length:=by
 cases x with
 |tmp t=>exact m.pb t b o s i h
 |const c=>simp[St.get]at h
 |func f=>simp[St.get]at h
 |global g=>simp[St.get]at h
def Rd (P:Program) (β:Nat->Nat) (st:St) (W:World) (o:Oper) (w:World):Prop:=
 a1u P o=0\/Ext W w\/(∃T x b q s i,o.op= .load T x/\st.get x=some (.p b q s i)/\w.heap[β b]? =W.heap[β b]?)\/a2V st o=true
def d6w (P:Program) (ρ:List Value) (β:Nat->Nat) (st:St) (a:Act) (W:World) (o:Oper):Res->Prop
 | .val s=>(∀b q t i,s= .p b q t i->b<st.bl.length)/\a1u P o<=1/\∃v,ML P ρ β s v/\∀w,Rd P β st W o w->(execOp a.eval o).run P w= .ok (.value v) w
 | .new c T n=>a1u P o=3/\(D P ρ c).cells.size=n/\a0p (D P ρ c).cells/\∀w,(execOp a.eval o).run P w= .ok (.value (.pointer (some ⟨w.heap.size,0,none⟩))) (w.alloc (.cells (D P ρ c).cells T))
 | .sto b c=>a1u P o=4/\∃B,st.bl[b]? =some B/\(D P ρ c).cells.size=B.n/\a0p (D P ρ c).cells/\∀w,w.heap[β b]? =some (.cells (D P ρ B.c).cells B.T (0,0))->(execOp a.eval o).run P w= .ok .skip (w.setRow (β b) (D P ρ c).cells)
 | .call f args=>a1u P o=2/\∀w,(execOp a.eval o).run P w= .ok (.enter f (args.map (D P ρ)).toArray) w
 | .prim args=>a1u P o=1/\execOp a.eval o=execOp (a0k o.op.operands.toList (args.map (D P ρ))) o
 | .eff args=>(a1u P o=2\/a1u P o=4)/\execOp a.eval o=execOp (a0k o.op.operands.toList (args.map (D P ρ))) o
 | .ext f args=>a1u P o=2/\∀w,(execOp a.eval o).run P w=(callFunc f (args.map (D P ρ)).toArray).run P w
 | .mk args=>mkB st o=true/\execOp a.eval o=execOp (a0k o.op.operands.toList (args.map (D P ρ))) o
 | .bad=>True
def Snd (P:Program) (ρ:List Value) (β:Nat->Nat) (st:St) (a:Act) (W:World) (o:Oper) (p:List Rq×Res):Prop:=(∀q∈p.1,q.holds P ρ)->d6w P ρ β st a W o p.2
theorem a0B (o:Oper):Snd P ρ β st a W o bad:=fun _=>trivial
theorem b4h (m:Mt P w0 ρ β st a W) {o:Oper} {x:Operand} (ho:o.op= .move x\/o.op= .assign x):Snd P ρ β st a W o (c3J st x):=by
 unfold c3J
 split
 ·rename_i s hs
  intro _
  have hk:a1u P o=0:=by rcases ho with h|h<;>simp[a1u,h]
  refine⟨?_,by omega,a.eval x,m.get hs,fun w _=> ?_⟩
  ·rintro b q t i rfl;exact m.ptrB hs
  ·rcases ho with h|h<;>simp[execOp,h]
 ·exact a0B o
theorem c3U (m:Mt P w0 ρ β st a W) {o:Oper} {c x y:Operand} (ho:o.op= .pick c x y):Snd P ρ β st a W o (c8P st c x y):=by
 unfold c8P
 split
 ·rename_i c' x' y' hc hx hy
  intro hq
  obtain⟨b,hb⟩:∃b,D P ρ c'= .bool b:=hq (.bool c') (by simp)
  refine⟨(by rintro b q t i h;cases h),by simp[a1u,ho],_,rfl,fun w _=> ?_⟩
  rw[b2Y,a4J m.kb,hb]
  simp only[execOp,ho,m.val hc,m.val hx,m.val hy,hb,asBool,Sem.run_bind,Sem.run_pure,Result.andThen_ok,a2u]
  cases b<;>rfl
 ·exact a0B o
theorem b7E {o:Oper} {T:TypeId} (ho:o.op= .alloc T):Snd P ρ β st a W o (b7q P T):=by
 unfold b7q
 split
 ·rename_i z hz
  intro hq
  have h1:(D P ρ (.z T)).cells.size=z.cells.size/\a0p (D P ρ (.z T)).cells:=hq (.cells z.cells.size (.z T)) (by simp)
  refine⟨by simp[a1u,ho],h1.1,h1.2,fun w=> ?_⟩
  have hD:D P ρ (.z T)=z:=by simp[D,a0G,hz]
  rw[hD]
  rw[Option.bind_eq_some_iff]at hz
  obtain⟨i,hi,hz⟩:=hz
  simp only[execOp,ho,Instr.alloc,zeroValue,Sem.run_bind,run_typeInfo w hi,Result.andThen_ok,hz,newVar,newRow,Sem.run_pure]
  rfl
 ·exact a0B o
theorem c8W (m:Mt P w0 ρ β st a W) {o:Oper} {T:TypeId} {x:Operand} (ho:o.op= .box T x):Snd P ρ β st a W o (d6q P st T x):=by
 unfold d6q
 split
 ·rename_i x' hx
  intro hq
  have h1:(D P ρ x').cells.size=P.cellsOf T/\a0p (D P ρ x').cells:=hq (.cells (P.cellsOf T) x') (by simp)
  refine⟨by simp[a1u,ho],h1.1,h1.2,fun w=> ?_⟩
  simp only[execOp,ho,Instr.box,newVar,newRow,Sem.run_bind,Sem.run_pure,m.val hx]
  rfl
 ·exact a0B o
theorem a0X {o:Oper} (hs:∀cs b,o.op≠ .select cs b) {svs:List SV} (h:svs.map (D P ρ)=o.op.operands.toList.map a.eval):execOp a.eval o=execOp (a0k o.op.operands.toList (svs.map (D P ρ))) o:=by
 rw[h]
 exact execOp_congr o hs fun x hx=>(c3S a _ x (by simpa using hx)).symm
theorem b4i {N q n s:Nat} {i:SV} (hq:q+n<=N) (h:Rq.holds P ρ (.lt ((N-q-n)/s+1) i)):q+s*a2G (D P ρ i)+n<=N:=by
 obtain⟨h0,h1⟩:=h
 unfold a2G
 have h2:(intOf (D P ρ i)).toNat<=(N-q-n)/s:=by omega
 have h3:s*(intOf (D P ρ i)).toNat<=s*((N-q-n)/s):=Nat.mul_le_mul_left _ h2
 have h4:s*((N-q-n)/s)<=N-q-n:=Nat.mul_div_le _ _
 omega
theorem a9C (m:Mt P w0 ρ β st a W) {o:Oper} {T:TypeId} {x:Operand} (ho:o.op= .load T x):Snd P ρ β st a W o (a9w P st T x):=by
 have hkd:a1u P o=1:=by simp[a1u,ho]
 unfold a9w
 split
 ·rename_i b q s i hp
  split
  ·rename_i B hB
   have hkn:∀r∈(Rq.cells B.n B.c::st.kn),r.holds P ρ:=fun r hr=>by
    rcases List.mem_cons.1 hr with rfl|hr
    ·exact(m.bl b B hB).2
    ·exact m.kn r hr
   unfold b7r
   split
   ·exact a0B o
   ·rename_i hT
    have hT:a2h P T=true:=by simpa using hT
    have hev:=m.ptr hp
    have run:∀(w:World),Rd P β st W o w->q+s*a2G (D P ρ i)+P.cellsOf T<=B.n->(a0F P T=false->q+s*a2G (D P ρ i)<B.n)->
      (execOp a.eval o).run P w= .ok (.value (if a0F P T then .agg ((D P ρ B.c).cells.extract (q+s*a2G (D P ρ i)) (q+s*a2G (D P ρ i)+P.cellsOf T))else(D P ρ B.c).cells.getD (q+s*a2G (D P ρ i)) undef)) w:=fun w hw h1 h2=>by
     obtain⟨hb1,hb2,hb3⟩:=m.bl b B hB
     simp only[execOp,ho,hev,Sem.run_bind]
     have hb1':w.heap[β b]? =some (.cells (D P ρ B.c).cells B.T (0,0)):=by
      rcases hw with h|h|⟨T',x',b',q',s',i',h,hx,hh⟩|h
      ·omega
      ·exact h.block hb1
      ·rw[ho]at h;cases h
       rw[hp]at hx;cases hx
       rw[hh];exact hb1
      ·simp[a2V,ho]at h
     rw[a5e hT hb1' (by rw[hb2];exact h1) (by rw[hb2];exact h2)]
     rfl
    split
    ·rename_i hs0
     subst hs0
     simp only[Nat.zero_mul,Nat.add_zero]at run
     split
     ·rename_i hag
      split
      ·rename_i hle
       intro _
       refine⟨(by rintro b q t i h;cases h),by omega,_,rfl,fun w hw=> ?_⟩
       rw[run w hw hle (by simp[hag]),if_pos hag]
       congr 2
       split
       ·rename_i h
        obtain⟨rfl,h⟩:=h
        rw[a4i,Nat.zero_add,h,<-(m.bl b B hB).2.1]
        simp
       ·rw[a4I hkn]
      ·exact a0B o
     ·rename_i hag
      split
      ·rename_i hle
       intro _
       refine⟨(by rintro b q t i h;cases h),by omega,_,rfl,fun w hw=> ?_⟩
       rw[run w hw hle.1 (fun _=>hle.2),if_neg hag,a3P hkn]
      ·exact a0B o
    ·rename_i hs0
     split
     ·rename_i hle
      intro hq
      have hb:=b4i hle.1 (hq (.lt ((B.n-q-P.cellsOf T)/s+1) i) (by simp))
      refine⟨(by rintro b q t i h;cases h),by omega,_,rfl,fun w hw=> ?_⟩
      rw[run w hw hb (fun _=>by omega)]
      split<;>rfl
     ·exact a0B o
  ·exact a0B o
 ·rename_i x' hx
  intro _
  refine⟨hkd,a0X (by simp[ho]) ?_⟩
  simp[ho,Op.operands,show a.eval x=D P ρ x' from m.get hx]
 ·exact a0B o
theorem b7F (m:Mt P w0 ρ β st a W) {o:Oper} {T:TypeId} {x y:Operand} (ho:o.op= .store T x y):Snd P ρ β st a W o (a6Y P st T x y):=by
 have hkd:a1u P o=4:=by simp[a1u,ho]
 unfold a6Y
 split
 ·rename_i b q s i v hp hv
  split
  ·rename_i B hB
   have hkn:∀r∈(Rq.cells B.n B.c::st.kn),r.holds P ρ:=fun r hr=>by
    rcases List.mem_cons.1 hr with rfl|hr
    ·exact(m.bl b B hB).2
    ·exact m.kn r hr
   obtain⟨_,hb2,hb3⟩:=m.bl b B hB
   unfold b2U
   split
   ·exact a0B o
   ·rename_i hT
    have hT:a2h P T=true:=by simpa using hT
    have hev:=m.ptr hp
    split
    ·rename_i hle
     have fin:∀(c:SV),(D P ρ v).cells.size=P.cellsOf T->a0p (D P ρ v).cells->q+s*a2G (D P ρ i)+P.cellsOf T<=B.n->(D P ρ c).cells=spl (D P ρ B.c).cells (q+s*a2G (D P ρ i)) (D P ρ v).cells.toList->d6w P ρ β st a W o (.sto b c):=fun c h1 h2 h3 h4=>by
      refine⟨hkd,B,hB,?_,?_,fun w hw=> ?_⟩
      ·rw[h4,a5d,hb2]
      ·rw[h4];exact a8I hb3 h2
      ·simp only[execOp,ho,hev,m.val hv,Sem.run_bind]
       rw[a5J hT hw (by rw[hb2];exact h3) h1 h2,h4]
       rfl
     split
     ·rename_i hs0
      subst hs0
      intro hq
      have h1:(D P ρ v).cells.size=P.cellsOf T/\a0p (D P ρ v).cells:=hq (.cells (P.cellsOf T) v) (by simp)
      refine fin _ h1.1 h1.2 (by simpa using hle) ?_
      rw[a7g hkn _ _ _ h1.1 _ _ _ hb2 hle]
      simp
     ·intro hq
      have h1:(D P ρ v).cells.size=P.cellsOf T/\a0p (D P ρ v).cells:=hq (.cells (P.cellsOf T) v) (by simp)
      exact fin _ h1.1 h1.2 (b4i hle (hq (.lt ((B.n-q-P.cellsOf T)/s+1) i) (by simp))) rfl
    ·exact a0B o
  ·exact a0B o
 ·rename_i x' y' hx hy
  intro _
  refine⟨.inr hkd,a0X (by simp[ho]) ?_⟩
  simp[ho,Op.operands,show a.eval x=D P ρ x' from m.get hx,m.val hy]
 ·exact a0B o
theorem a9D (m:Mt P w0 ρ β st a W) {o:Oper} {S f:Nat} {x:Operand} (ho:o.op= .fieldAddr S x f):Snd P ρ β st a W o (a4g P st S x f):=by
 have hkd:a1u P o=1:=by simp[a1u,ho]
 unfold a4g
 split
 ·rename_i b q s i hp
  split
  ·rename_i fs hS
   split
   ·rename_i fd hf
    split
    ·exact a0B o
    ·rename_i hn
     intro _
     have hn0:P.cellsOf fd.type≠0:=fun h=>hn (.inl h)
     have hT:a2h P fd.type=true:=by
      cases h:a2h P fd.type with
      |true=>rfl
      |false=>exact absurd (.inr h) hn
     refine⟨?_,by omega,_,rfl,fun w _=> ?_⟩
     ·rintro b' q' t' i' h;cases h;exact m.ptrB hp
     ·simp only[execOp,ho,m.ptr hp,Sem.run_bind]
      rw[a7h hS hf hT hn0]
      simp only[Result.andThen_ok,Sem.run_pure,Nat.add_right_comm]
   ·exact a0B o
  ·exact a0B o
 ·rename_i x' hx
  intro _
  refine⟨hkd,a0X (by simp[ho]) ?_⟩
  simp[ho,Op.operands,show a.eval x=D P ρ x' from m.get hx]
 ·exact a0B o
theorem a9E (m:Mt P w0 ρ β st a W) {o:Oper} {T:Nat} {x ix:Operand} (ho:o.op= .indexAddr T x ix):Snd P ρ β st a W o (a4h P st T x ix):=by
 have hkd:a1u P o=1:=by simp[a1u,ho]
 unfold a4h
 split
 ·rename_i b q s i j hp hj
  split
  ·rename_i len e hT
   split
   ·exact a0B o
   ·rename_i hn
    have hs:s=0:=by
     rcases Nat.eq_zero_or_pos s with h|h
     ·exact h
     ·exact absurd (.inl (by omega)) hn
    have he:a2h P e=true:=by
     cases h:a2h P e with
     |true=>rfl
     |false=>exact absurd (.inr h) hn
    subst hs
    have hev:=m.ptr hp
    simp only[Nat.zero_mul,Nat.add_zero]at hev
    split
    ·rename_i k mm
     split
     ·rename_i hb
      intro _
      refine⟨?_,by omega,_,rfl,fun w _=> ?_⟩
      ·rintro b' q' t' i' h;cases h;exact m.ptrB hp
      ·simp only[execOp,ho,hev,m.val hj,D,Sem.run_bind]
       rw[a4K hT he _ _ _ _ hb.1 hb.2]
       simp
     ·exact a0B o
    ·split
     ·exact a0B o
     ·intro hq
      obtain⟨k,n,hk⟩:∃k n,D P ρ j= .int k n:=hq (.num j) (by simp)
      obtain⟨h0,h1⟩:0<=intOf (D P ρ j)/\intOf (D P ρ j)<len:=hq (.lt len j) (by simp)
      refine⟨?_,by omega,_,rfl,fun w _=> ?_⟩
      ·rintro b' q' t' i' h;cases h;exact m.ptrB hp
      ·rw[hk]at h0 h1
       simp only[intOf]at h0 h1
       simp only[execOp,ho,hev,m.val hj,hk,Sem.run_bind]
       rw[a4K hT he _ _ _ _ h0 h1]
       simp only[Result.andThen_ok,Sem.run_pure,a2G,intOf,Nat.mul_comm]
  ·exact a0B o
 ·rename_i x' j' hx hj
  intro _
  refine⟨hkd,a0X (by simp[ho]) ?_⟩
  simp[ho,Op.operands,show a.eval x=D P ρ x' from m.get hx,m.val hj]
 ·exact a0B o
theorem b7G (m:Mt P w0 ρ β st a W) {o:Oper} {S f:Nat} {x:Operand} (ho:o.op= .field S x f):Snd P ρ β st a W o (b7s P st S x f):=by
 have hkd:a1u P o=0:=by simp[a1u,ho]
 unfold b7s
 split
 ·rename_i x' hx
  split
  ·rename_i fs hS
   split
   ·rename_i fd hf
    split
    ·rename_i hle
     intro hq
     obtain⟨cs,hcs,hn⟩:∃cs,D P ρ x'= .agg cs/\cs.size=P.cellsOf S:=hq (.agg (P.cellsOf S) x') (by simp)
     refine⟨(by rintro b q t i h;cases h),by omega,_,rfl,fun w _=> ?_⟩
     simp only[execOp,ho,m.val hx,hcs,Sem.run_bind]
     rw[b5M hS hf hle.2.2 (by rw[hn];exact hle.1) hle.2.1]
     simp only[Result.andThen_ok,Sem.run_pure]
     congr 2
     split
     ·rw[a4I m.kn,hcs];rfl
     ·rw[a3P m.kn,hcs];rfl
    ·exact a0B o
   ·exact a0B o
  ·exact a0B o
 ·exact a0B o
theorem b7H (m:Mt P w0 ρ β st a W) {o:Oper} {T:Nat} {x ix:Operand} (ho:o.op= .index T x ix):Snd P ρ β st a W o (b7t P st T x ix):=by
 unfold b7t
 split
 ·rename_i x' j hx hj
  split
  ·rename_i len e hT
   have hkd:a1u P o=0:=by simp[a1u,ho,hT]
   split
   ·rename_i hle
    split
    ·rename_i k mm
     split
     ·rename_i hb
      intro hq
      obtain⟨cs,hcs,hn⟩:∃cs,D P ρ x'= .agg cs/\cs.size=P.cellsOf T:=hq (.agg (P.cellsOf T) x') (by simp)
      refine⟨(by rintro b q t i h;cases h),by omega,_,rfl,fun w _=> ?_⟩
      simp only[execOp,ho,m.val hx,m.val hj,hcs,D,Sem.run_bind]
      rw[a8J hT hle.2.2 _ _ hb.1 hb.2 (by rw[hn];exact hle.1) hle.2.1]
      simp only[Result.andThen_ok,Sem.run_pure]
      congr 2
      split
      ·rw[a4I m.kn,hcs];rfl
      ·rw[a3P m.kn,hcs];rfl
     ·exact a0B o
    ·intro hq
     obtain⟨cs,hcs,hn⟩:∃cs,D P ρ x'= .agg cs/\cs.size=P.cellsOf T:=hq (.agg (P.cellsOf T) x') (by simp)
     obtain⟨k,n,hk⟩:∃k n,D P ρ j= .int k n:=hq (.num j) (by simp)
     obtain⟨h0,h1⟩:0<=intOf (D P ρ j)/\intOf (D P ρ j)<len:=hq (.lt len j) (by simp)
     refine⟨(by rintro b q t i h;cases h),by omega,_,rfl,fun w _=> ?_⟩
     rw[hk]at h0 h1
     simp only[intOf]at h0 h1
     simp only[execOp,ho,m.val hx,m.val hj,hcs,hk,Sem.run_bind]
     rw[a8J hT hle.2.2 _ _ h0 h1 (by rw[hn];exact hle.1) hle.2.1]
     simp only[Result.andThen_ok,Sem.run_pure]
     congr 2
     split<;>simp[D,hcs,hk,a2G,intOf,Value.cells,Nat.mul_comm]
   ·exact a0B o
  ·rename_i hT
   intro _
   refine⟨by simp[a1u,ho,hT],a0X (by simp[ho]) ?_⟩
   simp[ho,Op.operands,m.val hx,m.val hj]
  ·exact a0B o
 ·exact a0B o
theorem b3c (m:Mt P w0 ρ β st a W) {o:Oper} {i:Nat} {x:Operand} (ho:o.op= .extract x i):Snd P ρ β st a W o (a9x st x i):=by
 have hkd:a1u P o=0:=by simp[a1u,ho]
 unfold a9x
 split
 ·rename_i x' hx
  intro hq
  obtain⟨vs,hvs,hn⟩:∃vs,D P ρ x'= .tuple vs/\i<vs.size:=hq (.tup i x') (by simp)
  refine⟨(by rintro b q t i h;cases h),by omega,_,rfl,fun w _=> ?_⟩
  simp only[execOp,ho,m.val hx,hvs,Instr.extract,D,c3E]
  simp[hn]
 ·exact a0B o
theorem b1b {T:TypeId} {k:IntKind} (h:c3H P T=some k):P.underlying T=some (.int k):=by
 unfold c3H at h
 split at h
 ·rename_i k' hk;simp only[Option.some.injEq]at h;subst h;exact hk
 ·cases h
theorem b5O {T:TypeId} (h:c3I P T=true):P.underlying T=some .bool:=by
 unfold c3I at h
 split at h
 ·assumption
 ·cases h
theorem c8X (m:Mt P w0 ρ β st a W) {o:Oper} {op:BinOp} {T T':TypeId} {x y:Operand} (ho:o.op= .binOp op T x y T'):Snd P ρ β st a W o (d6t P st op T x y):=by
 unfold d6t
 split
 ·rename_i x' y' hx hy
  split
  ·rename_i k hk
   have hkd:a1u P o=0:=by simp[a1u,ho,hk]
   split
   ·rename_i hsh
    intro hq
    obtain⟨n,hn⟩:∃n,D P ρ x'= .int k n:=hq (.int k x') (by simp)
    obtain⟨l,r,hr⟩:∃l r,D P ρ y'= .int l r:=hq (.num y') (by simp)
    have h0:0<=intOf (D P ρ y'):=hq (.nn y') (by simp)
    refine⟨(by rintro b q t i h;cases h),by omega,_,rfl,fun w _=> ?_⟩
    rw[hr]at h0
    simp only[intOf]at h0
    simp only[execOp,ho,m.val hx,m.val hy,hn,hr,D]
    rw[Sem.run_bind,c3Q (by simpa[d6r]using hsh) h0]
    rfl
   ·rename_i hsh
    intro hq
    obtain⟨n,hn⟩:∃n,D P ρ x'= .int k n:=hq (.int k x') (by simp)
    obtain⟨r,hr⟩:∃r,D P ρ y'= .int k r:=hq (.int k y') (by simp)
    refine⟨(by rintro b q t i h;cases h),by omega,_,rfl,fun w _=> ?_⟩
    simp only[execOp,ho,m.val hx,m.val hy,hn,hr,D]
    rw[Sem.run_bind,c3P (by simpa[d6r]using hsh) (fun hd=> ?_)]
    ·rfl
    ·have hd':d6s op=true:=by simpa[d6s]using hd
     have:=hq (.nz y') (by simp[hd'])
     simpa[Rq.holds,hr,intOf]using this
  ·rename_i hk
   split
   ·rename_i hb
    rw[Bool.and_eq_true]at hb
    have hkd:a1u P o=0:=by
     have h2:=hb.2
     unfold d6d at h2
     simp[a1u,ho,hk,hb.1,h2]
    intro hq
    obtain⟨n,hn⟩:∃n,D P ρ x'= .bool n:=hq (.bool x') (by simp)
    obtain⟨r,hr⟩:∃r,D P ρ y'= .bool r:=hq (.bool y') (by simp)
    refine⟨(by rintro b q t i h;cases h),by omega,_,rfl,fun w _=> ?_⟩
    simp only[execOp,ho,m.val hx,m.val hy,hn,hr,D,a2u]
    rw[Sem.run_bind,c3R (b5O hb.1) (by simpa[d6d]using hb.2)]
    rfl
   ·rename_i hb
    intro _
    have hkd:a1u P o=1:=by
     simp only[a1u,ho,hk]
     rw[if_neg]
     simpa[d6d]using hb
    refine⟨hkd,a0X (by simp[ho]) ?_⟩
    simp[ho,Op.operands,m.val hx,m.val hy]
 ·exact a0B o
theorem d3J (m:Mt P w0 ρ β st a W) {o:Oper} {op:UnOp} {T:TypeId} {x:Operand} (ho:o.op= .unOp op T x):Snd P ρ β st a W o (sUn P st op T x):=by
 have hkd:a1u P o=0:=by simp[a1u,ho]
 unfold sUn
 split
 ·rename_i x' hx
  cases op with
  |not=>
   intro hq
   obtain⟨b,hb⟩:∃b,D P ρ x'= .bool b:=hq (.bool x') (by simp)
   refine⟨(by rintro b q t i h;cases h),by omega,_,rfl,fun w _=> ?_⟩
   have e:D P ρ (d6u x')= .bool (!b):=by
    unfold d6u;split
    ·simp only[D]at hb⊢;cases hb;rfl
    ·simp[D,hb,a2u]
   simp only[execOp,ho,m.val hx,hb,Op.unary,e]
   rfl
  |plus=>exact a0B o
  |neg=>
   simp only
   split
   ·rename_i k hk
    intro hq
    obtain⟨n,hn⟩:∃n,D P ρ x'= .int k n:=hq (.int k x') (by simp)
    refine⟨(by rintro b q t i h;cases h),by omega,_,rfl,fun w _=> ?_⟩
    simp only[execOp,ho,m.val hx,hn,Op.unary,D,unV,intOf,Op.intArith]
    rfl
   ·exact a0B o
  |xor=>
   simp only
   split
   ·rename_i k hk
    intro hq
    obtain⟨n,hn⟩:∃n,D P ρ x'= .int k n:=hq (.int k x') (by simp)
    refine⟨(by rintro b q t i h;cases h),by omega,_,rfl,fun w _=> ?_⟩
    simp only[execOp,ho,m.val hx,hn,Op.unary,D,unV,intOf,Op.intBits]
    rfl
   ·exact a0B o
 ·exact a0B o
theorem c3V (m:Mt P w0 ρ β st a W) {o:Oper} {s d:TypeId} {x:Operand} (ho:o.op= .convert s d x):Snd P ρ β st a W o (c8Q P st s d x):=by
 unfold c8Q
 split
 ·rename_i x' hx
  split
  ·rename_i k l hk hl
   have hkd:a1u P o=0:=by simp[a1u,ho,hk,hl]
   intro hq
   obtain⟨n,hn⟩:∃n,D P ρ x'= .int k n:=hq (.int k x') (by simp)
   refine⟨(by rintro b q t i h;cases h),by omega,_,rfl,fun w _=> ?_⟩
   simp only[execOp,ho,m.val hx,hn,convert,Sem.run_bind,run_underlying (b1b hk),run_underlying (b1b hl),Result.andThen_ok,D,intOf,Conv.intToInt,Sem.run_pure]
  ·rename_i hno
   intro _
   have hkd:a1u P o=1:=by
    simp only[a1u,ho]
    rw[if_neg]
    intro h
    rw[Bool.and_eq_true,Option.isSome_iff_exists,Option.isSome_iff_exists]at h
    obtain⟨⟨k,hk⟩,⟨l,hl⟩⟩:=h
    exact hno k l hk hl
   refine⟨hkd,a0X (by simp[ho]) ?_⟩
   simp[ho,Op.operands,m.val hx]
 ·exact a0B o
theorem c3W (m:Mt P w0 ρ β st a W) {o:Oper} {c:Call} (ho:o.op= .call c):Snd P ρ β st a W o (c8R P st c):=by
 unfold c8R
 have hsel:∀cs b,o.op≠ .select cs b:=by simp[ho]
 split
 ·rename_i f hc
  have hkd:a1u P o=2:=by
   obtain⟨callee,args,ats⟩:=c
   simp only at hc;subst hc
   simp[a1u,ho]
  split
  ·rename_i l hl
   split
   ·rename_i body hb
    split
    ·exact a0B o
    ·rename_i hnm
     intro _
     refine⟨hkd,fun w=> ?_⟩
     rw[Option.bind_eq_some_iff]at hb
     obtain⟨fn,hf,hb⟩:=hb
     have hn:¬fn.name= "runtime.NumGoroutine" :=fun h=>by
      simp only[hf,Option.map_some,h]at hnm
      simp at hnm
     have hargs:(l.map (D P ρ)).toArray=c.args.map a.eval:=by
      rw[m.vals hl];apply Array.toList_inj.1;simp
     rw[hargs]
     simp[execOp,ho,resolve,hc,Act.eval,Deferred.ofValue,invoke,callFunc,hf,hn,hb]
   ·intro _
    refine⟨hkd,fun w=> ?_⟩
    have hargs:(l.map (D P ρ)).toArray=c.args.map a.eval:=by
     rw[m.vals hl];apply Array.toList_inj.1;simp
    rw[hargs]
    simp[execOp,ho,resolve,hc,Act.eval,Deferred.ofValue,invoke]
  ·exact a0B o
 ·rename_i b hc
  split
  ·rename_i l hl
   split
   ·rename_i hq
    intro _
    refine⟨?_,a0X hsel ?_⟩
    ·obtain⟨callee,args,ats⟩:=c
     simp only at hc;subst hc
     cases b<;>simp[b7v]at hq<;>simp[a1u,ho]
    ·simp[ho,Op.operands,Call.operands,hc,m.vals hl]
   ·rename_i hq
    intro _
    refine⟨?_,a0X hsel ?_⟩
    ·obtain⟨callee,args,ats⟩:=c
     simp only at hc;subst hc
     cases b<;>simp[b7v]at hq<;>simp[a1u,ho]
    ·simp[ho,Op.operands,Call.operands,hc,m.vals hl]
  ·exact a0B o
 ·rename_i f hc hno
  split
  ·rename_i l hl
   intro _
   refine⟨?_,a0X hsel ?_⟩
   ·obtain⟨callee,args,ats⟩:=c
    simp only at hno;subst hno
    simp[a1u,ho]
   ·simp[ho,Op.operands,Call.operands,hno,m.vals hl]
  ·exact a0B o
 ·exact a0B o
theorem b7I (m:Mt P w0 ρ β st a W) {o:Oper} {op:Op} (ho:o.op=op):Snd P ρ β st a W o (b0W st op):=by
 unfold b0W
 split
 ·rename_i l hl
  split
  ·rename_i hp
   intro _
   refine⟨?_,a0X ?_ ?_⟩
   ·cases op<;>simp[b4c]at hp<;>simp[a1u,ho]
   ·rw[ho];cases op<;>simp[b4c]at hp<;>simp
   ·rw[ho];exact m.vals hl
  ·split
   ·rename_i hp
    intro _
    refine⟨?_,a0X ?_ ?_⟩
    ·cases op<;>simp[c3K]at hp<;>simp[a1u,ho]
    ·rw[ho];cases op<;>simp[c3K]at hp<;>simp
    ·rw[ho];exact m.vals hl
   ·exact a0B o
 ·exact a0B o
theorem b1c (m:Mt P w0 ρ β st a W):∀{parts:List (Nat×Operand)} {ps:List (Nat×SV)},b0U st parts=some ps->parts.map (fun p=>(p.1,a.eval p.2))=ps.map fun p=>(p.1,D P ρ p.2):=by
 intro parts
 induction parts with
 |nil=>intro ps h;simp only[b0U,Option.some.injEq]at h;subst h;rfl
 |cons p r ih=>
  intro ps h
  obtain⟨i,x⟩:=p
  simp only[b0U]at h
  split at h
  ·rename_i s l hs hl
   simp only[Option.some.injEq]at h;subst h
   simp only[List.map_cons,ih hl,m.val hs]
  ·cases h
theorem b1d {pl:Nat->Option (Nat×Nat)}:∀{ps:List (Nat×SV)} {l:List (Nat×Nat×SV)},b0V pl ps=some l->(∀p∈ps,∃q n,pl p.1=some (q,n)/\(q,n,p.2)∈l)/\
  (∀cs:Array Value,(ps.map fun p=>(p.1,D P ρ p.2)).foldl (fun acc p=>spl acc ((pl p.1).getD (0,0)).1 p.2.cells.toList) cs=l.foldl (fun acc p=>spl acc p.1 (D P ρ p.2.2).cells.toList) cs):=by
 intro ps
 induction ps with
 |nil=>intro l h;simp only[b0V,Option.some.injEq]at h;subst h;exact⟨by simp,fun _=>rfl⟩
 |cons p r ih=>
  intro l h
  obtain⟨i,x⟩:=p
  simp only[b0V]at h
  split at h
  ·rename_i q n l' hq hl
   simp only[Option.some.injEq]at h;subst h
   obtain⟨h1,h2⟩:=ih hl
   refine⟨fun p hp=> ?_,fun cs=> ?_⟩
   ·rcases List.mem_cons.1 hp with rfl|hp
    ·exact⟨q,n,hq,by simp⟩
    ·obtain⟨q',n',hq',hm⟩:=h1 p hp
     exact⟨q',n',hq',by simp[hm]⟩
   ·simp only[List.map_cons,List.foldl_cons,hq,Option.getD_some]
    exact h2 _
  ·cases h
theorem a9F (hk:∀r∈st.kn,r.holds P ρ) (sf:Bool) (N:Nat):∀(l:List (Nat×Nat×SV)) (acc:SV),(D P ρ acc).cells.size=N->(∀p∈l,(D P ρ p.2.2).cells.size=p.2.1/\p.1+p.2.1<=N)->
  (D P ρ (l.foldl (fun acc p=>b2T P st.kn sf N p.1 p.2.1 p.2.2 acc) acc)).cells=l.foldl (fun acc p=>spl acc p.1 (D P ρ p.2.2).cells.toList) (D P ρ acc).cells:=by
 intro l
 induction l with
 |nil=>intro acc _ _;rfl
 |cons p r ih=>
  intro acc hN hl
  obtain⟨h1,h2⟩:=hl p (by simp)
  have e:=a7g hk sf p.2.1 p.2.2 h1 acc N p.1 hN h2
  simp only[List.foldl_cons]
  rw[ih _ (by rw[e,a5d];exact hN) (fun q hq=>hl q (by simp[hq])),e]
theorem b7J (m:Mt P w0 ρ β st a W) {o:Oper} {T:TypeId} {parts:Array (Nat×Operand)} (ho:o.op= .build T parts):Snd P ρ β st a W o (b7u P st T parts.toList):=by
 have hkd:a1u P o=0:=by simp[a1u,ho]
 unfold b7u
 split
 ·rename_i ps pl hps hpl
  split
  ·rename_i l hl
   split
   ·rename_i hc
    simp only[Bool.and_eq_true,List.all_eq_true,decide_eq_true_eq]at hc
    obtain⟨⟨hc1,hc2⟩,hc3⟩:=hc
    intro hq
    have hz0:(D P ρ (.z T)).cells.size=P.cellsOf T/\a0p (D P ρ (.z T)).cells:=hq (.cells (P.cellsOf T) (.z T)) (by simp)
    rw[Option.any_eq_true]at hc3
    obtain⟨it,hit,hz⟩:=hc3
    rw[Option.isSome_iff_exists]at hz
    obtain⟨z,hz⟩:=hz
    have hzD:a0G P T=z:=by simp[a0G,hit,hz]
    have hzs:z.cells.size=P.cellsOf T:=by rw[<-hzD];exact hz0.1
    obtain⟨hp1,hp2⟩:=b1d (P:=P) (ρ:=ρ) hl
    have hsz:∀p∈l,(D P ρ p.2.2).cells.size=p.2.1:=fun p hp=>(hq (.cells p.2.1 p.2.2) (List.mem_cons_of_mem _ (List.mem_map.2 ⟨p,hp,rfl⟩))).1
    refine⟨(by rintro b q t i h;cases h),by omega,_,rfl,fun w _=> ?_⟩
    have hev:(parts.map fun(i,x)=>(i,a.eval x)).toList=ps.map fun p=>(p.1,D P ρ p.2):=by
     rw[<-b1c m hps];simp
    simp only[execOp,ho,Sem.run_bind]
    rw[b5N hpl hc2 hit hz]
    ·rw[hev,hp2,a4i,a9F m.kn _ _ l (exZ P T) (by rw[b1a,hzD];exact hzs) (fun p hp=>⟨hsz p hp,hc1 p hp⟩),b1a,hzD]
     rfl
    ·rw[hev]
     intro p hp
     rw[List.mem_map]at hp
     obtain⟨p',hp',rfl⟩:=hp
     obtain⟨q,n,hq',hm⟩:=hp1 p' hp'
     exact⟨q,n,hq',hsz _ hm,by rw[hzs];exact hc1 _ hm⟩
   ·exact a0B o
  ·exact a0B o
 ·exact a0B o
theorem d3K (m:Mt P w0 ρ β st a W) {o:Oper} {op:Op} (ho:o.op=op) (hm:mkB st o=true):Snd P ρ β st a W o (sMk st op):=by
 unfold sMk
 split
 ·rename_i l hl
  intro _
  refine⟨hm,a0X ?_ ?_⟩
  ·rw[ho];unfold mkB at hm;rw[ho]at hm;intro cs b e;subst e;simp at hm
  ·rw[ho];exact m.vals hl
 ·exact a0B o
theorem c3X (m:Mt P w0 ρ β st a W) {o:Oper} {op:Op} (ho:o.op=op):Snd P ρ β st a W o (if mkB st o then sMk st op else b0W st op):=by
 split
 ·rename_i h;exact d3K m ho h
 ·exact b7I m ho
theorem b7K (m:Mt P w0 ρ β st a W) (o:Oper):Snd P ρ β st a W o (a1K P st o):=by
 cases ho:o.op<;>simp only[a1K,ho]
 case move x=>exact b4h m (.inl ho)
 case assign x=>exact b4h m (.inr ho)
 case pick c x y=>exact c3U m ho
 case alloc T=>exact b7E ho
 case box T x=>exact c8W m ho
 case load T x=>exact a9C m ho
 case store T x y=>exact b7F m ho
 case fieldAddr S x f=>exact a9D m ho
 case indexAddr T x ix=>exact a9E m ho
 case field S x f=>exact b7G m ho
 case index T x ix=>exact b7H m ho
 case build T parts=>exact b7J m ho
 case extract x i=>exact b3c m ho
 case binOp op T x y T'=>exact c8X m ho
 case unOp op T x=>exact d3J m ho
 case convert s d x=>exact c3V m ho
 case call c=>exact c3W m ho
 all_goals exact c3X m ho
end
end Go.RX

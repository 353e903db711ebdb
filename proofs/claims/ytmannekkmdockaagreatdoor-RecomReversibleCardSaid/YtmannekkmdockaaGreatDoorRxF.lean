/- States and their meaning; soundness of one operation. -/
import Derived.Test.YtmannekkmdockaaGreatDoorRxD
namespace Go.RX
open Go.RowKit
def b2b (t:Nat):List Operand->List Value->Value
 | .tmp u::os,v::vs=>if u=t then v else b2b t os vs
 |_::os,_::vs=>b2b t os vs
 |_,_=>undef
def a0f (os:List Operand) (vs:List Value):Operand->Value
 | .tmp t=>b2b t os vs
 | .const v=>v
 | .global g=> .pointer (some ⟨g,0,none⟩)
 | .func f=> .func (.func f) #[] #[]
theorem c4g (a:Act):∀(os:List Operand) (x:Operand),x∈os->a0f os (os.map a.eval) x=a.eval x:=by
 intro os
 induction os with
 |nil=>intro x hx;cases hx
 |cons y os ih=>
  intro x hx
  cases x with
  |tmp t=>
   simp only[a0f,List.map_cons]
   cases y with
   |tmp u=>
    simp only[b2b]
    split
    ·rename_i h;rw[h]
    ·rename_i h
     have:Operand.tmp t∈os:=by
      rcases List.mem_cons.1 hx with e|e
      ·exact absurd (by injection e with e;exact e.symm) h
      ·exact e
     exact ih _ this
   |const v=>
    simp only[b2b]
    have:Operand.tmp t∈os:=by
     rcases List.mem_cons.1 hx with e|e
     ·cases e
     ·exact e
    exact ih _ this
   |global g=>
    simp only[b2b]
    have:Operand.tmp t∈os:=by
     rcases List.mem_cons.1 hx with e|e
     ·cases e
     ·exact e
    exact ih _ this
   |func f=>
    simp only[b2b]
    have:Operand.tmp t∈os:=by
     rcases List.mem_cons.1 hx with e|e
     ·cases e
     ·exact e
    exact ih _ this
  |const v=>rfl
  |global g=>rfl
  |func f=>rfl
def ML (P:Program) (ρ:List Value) (β:Nat->Nat):SL->Value->Prop
 | .x s,v=>v=D P ρ s
 | .p b o s i,v=>v= .pointer (some ⟨β b,o+s*a2r (D P ρ i),none⟩)
 | .u,_=>True
abbrev PH:=Nat->Option Obj
def PH.In (H:PH) (w:World):Prop:=∀b o,H b=some o->w.heap[b]? =some o
def PH.le (H H':PH):Prop:=∀b o,H b=some o->H' b=some o
structure Step (H:PH) (w:World) (H':PH) (w':World):Prop where
 os:w'.os=w.os
 tape:w'.tape=w.tape
 output:w'.output=w.output
 size:w.heap.size<=w'.heap.size
 block:∀k,k<w.heap.size->H k=none->w'.heap[k]? =w.heap[k]?
 holds:PH.In H' w'
 dom:∀b,H' b≠none->H b≠none\/w.heap.size<=b
 dr:w.drawn<=w'.drawn
theorem Step.refl {H:PH} {w:World} (h:H.In w):Step H w H w:=⟨rfl,rfl,rfl,Nat.le_refl _,fun _ _ _=>rfl,h,fun _ h=> .inl h,Nat.le_refl _⟩
theorem PH.In.ext {H:PH} {w w':World} (h:H.In w) (hx:Ext w w'):H.In w':=fun b o hb=>hx.block (h b o hb)
theorem PH.le.refl (H:PH):PH.le H H:=fun _ _ h=>h
theorem PH.le.trans {A B C:PH} (h:PH.le A B) (k:PH.le B C):PH.le A C:=fun b o hb=>k b o (h b o hb)
theorem PH.le.In {H H':PH} (h:PH.le H H') {w:World} (k:H'.In w):H.In w:=fun b o hb=>k b o (h b o hb)
theorem Step.trans {H H' H'':PH} {a b c:World} (h:Step H a H' b) (k:Step H' b H'' c):Step H a H'' c:=by
 refine⟨k.os.trans h.os,k.tape.trans h.tape,k.output.trans h.output,Nat.le_trans h.size k.size,fun i hi hn=> ?_,k.holds,fun i hi=> ?_,Nat.le_trans h.dr k.dr⟩
 ·have hn':H' i=none:=by
   cases e:H' i with
   |none=>rfl
   | some o => rcases h.dom i (by simp [e]) with h1 | h1
               · exact absurd hn h1
               · omega
  rw[k.block i (Nat.lt_of_lt_of_le hi h.size) hn',h.block i hi hn]
 ·rcases k.dom i hi with h1|h1
  ·exact h.dom i h1
  ·exact .inr (Nat.le_trans h.size h1)
theorem Step.ext {H H':PH} {a b c:World} (h:Step H a H' b) (k:Ext b c):Step H a H' c:=
 ⟨k.os.trans h.os,k.tape.trans h.tape,k.output.trans h.output,Nat.le_trans h.size k.size,fun i hi hn=>(k.block' (Nat.lt_of_lt_of_le hi h.size)).trans (h.block i hi hn),h.holds.ext k,h.dom,Nat.le_trans h.dr k.dr⟩
theorem Step.toExt {H H':PH} {a b:World} (h:Step H a H' b) (ha:H.In a) (hl:PH.le H H'):Ext a b:=by
 refine⟨h.os,h.tape,h.output,h.size,fun k hk=> ?_,h.dr⟩
 cases e:H k with
 |none=>exact h.block k hk e
 |some o=>rw[h.holds k o (hl k o e),ha k o e]
structure Bs where
 w:World
 H0:PH
 ro:Option Nat
 n0:Nat
 b0:Nat->Nat
 K0:PH
structure Cx extends Bs where
 H:PH
 K:PH
def c8J (D:Nat):Deferred:={target:= .collected D,args:= #[]}
structure Mt (P:Program) (w0:Cx) (ρ:List Value) (β:Nat->Nat) (st:St) (a:Act) (W:World):Prop where
 sz:a.tmps.size=st.sl.length
 sl:∀(t:Nat) (s:SL),st.sl[t]? =some s->∃v,a.tmps[t]? =some v/\ML P ρ β s v
 pb:∀(t b o s:Nat) (i:SV),st.sl[t]? =some (.p b o s i)->b<st.bl.length
 df:∃Ds:List Nat,a.defers=Ds.map c8J/\Ds.Nodup/\∀D∈Ds,w0.w.heap.size<=D/\w0.K D=some (.deferred (some []))
 n:ρ.length=st.n
 bl:∀(b:Nat) (B:Blk),st.bl[b]? =some B->W.heap[β b]? =some (.cells (D P ρ B.c).cells B.T (0,0))/\(D P ρ B.c).cells.size=B.n/\a0t (D P ρ B.c).cells
 inj:∀b b',b<st.bl.length->b'<st.bl.length->β b=β b'->b=b'
 own:∀b,b<st.bl.length->w0.w.heap.size<=β b\/w0.H0 (β b)≠none
 sep:∀b,b<st.bl.length->w0.H (β b)=none
 fr:Step w0.H0 w0.w w0.H W
 kp:w0.K.In W
 rd:st.rd=false->w0.ro=none
 ag:∀b,b<w0.n0->β b=w0.b0 b
 ln:w0.n0<=st.bl.length
 kle:PH.le w0.K0 w0.K
 kpH:∀k,w0.K k≠none->w0.H k=none
 kpB:∀b,b<st.bl.length->w0.K (β b)=none
 kn:∀r∈st.kn,r.holds P ρ
 kb:∀p∈st.kb,D P ρ p.1= .bool p.2
section
variable {P:Program} {w0:Cx} {ρ:List Value} {β:Nat->Nat} {st:St} {a:Act} {W:World}
theorem Mt.ext (m:Mt P w0 ρ β st a W) {w:World} (h:Ext W w):Mt P w0 ρ β st a w:=
 {m with
  bl:=fun b B hb=>let⟨h1,h2⟩:=m.bl b B hb;⟨h.block h1,h2⟩
  fr:=m.fr.ext h
  kp:=m.kp.ext h}
theorem Mt.get (m:Mt P w0 ρ β st a W) {x:Operand} {s:SL} (h:st.get x=some s):ML P ρ β s (a.eval x):=by
 cases x with
 |tmp t=>
  obtain⟨v,hv,hm⟩:=m.sl t s h
  simp only[Act.eval,Array.getD_eq_getD_getElem?,hv,Option.getD_some]
  exact hm
 |const c=>simp only[St.get,Option.some.injEq]at h;subst h;rfl
 |func f=>simp only[St.get,Option.some.injEq]at h;subst h;rfl
 |global g=>simp only[St.get,Option.some.injEq]at h;subst h;rfl
theorem Mt.val (m:Mt P w0 ρ β st a W) {x:Operand} {s:SV} (h:st.val x=some s):a.eval x=D P ρ s:=by
 unfold St.val at h
 split at h
 ·rename_i s' hs
  simp only[Option.some.injEq]at h;subst h
  exact m.get hs
 ·cases h
theorem Mt.vals (m:Mt P w0 ρ β st a W):∀{l:List Operand} {svs:List SV},a3r st l=some svs->svs.map (D P ρ)=l.map a.eval:=by
 intro l
 induction l with
 |nil=>intro svs h;simp only[a3r,Option.some.injEq]at h;subst h;rfl
 |cons x r ih=>
  intro svs h
  simp only[a3r]at h
  split at h
  ·rename_i s l' hs hl
   simp only[Option.some.injEq]at h;subst h
   simp only[List.map_cons,ih hl,m.val hs]
  ·cases h
theorem Mt.ptr (m:Mt P w0 ρ β st a W) {x:Operand} {b o s:Nat} {i:SV} (h:st.get x=some (.p b o s i)):a.eval x= .pointer (some ⟨β b,o+s*a2r (D P ρ i),none⟩):=m.get h
theorem Mt.ptrB (m:Mt P w0 ρ β st a W) {x:Operand} {b o s:Nat} {i:SV} (h:st.get x=some (.p b o s i)):b<st.bl.length:=by
 cases x with
 |tmp t=>exact m.pb t b o s i h
 |const c=>simp[St.get]at h
 |func f=>simp[St.get]at h
 |global g=>simp[St.get]at h
def Rd (P:Program) (β:Nat->Nat) (st:St) (W:World) (o:Oper) (w:World):Prop:=
 a1A P o=0\/Ext W w\/(∃T x b q s i,o.op= .load T x/\st.get x=some (.p b q s i)/\w.heap[β b]? =W.heap[β b]?)\/a2P st o=true
def d6w (P:Program) (ρ:List Value) (β:Nat->Nat) (st:St) (a:Act) (W:World) (o:Oper):Res->Prop
 | .val s=>(∀b q t i,s= .p b q t i->b<st.bl.length)/\a1A P o<=1/\∃v,ML P ρ β s v/\∀w,Rd P β st W o w->(execOp a.eval o).run P w= .ok (.value v) w
 | .new c T n=>a1A P o=3/\(D P ρ c).cells.size=n/\a0t (D P ρ c).cells/\∀w,(execOp a.eval o).run P w= .ok (.value (.pointer (some ⟨w.heap.size,0,none⟩))) (w.alloc (.cells (D P ρ c).cells T))
 | .sto b c=>a1A P o=4/\∃B,st.bl[b]? =some B/\(D P ρ c).cells.size=B.n/\a0t (D P ρ c).cells/\∀w,w.heap[β b]? =some (.cells (D P ρ B.c).cells B.T (0,0))->(execOp a.eval o).run P w= .ok .skip (w.setRow (β b) (D P ρ c).cells)
 | .call f args=>a1A P o=2/\∀w,(execOp a.eval o).run P w= .ok (.enter f (args.map (D P ρ)).toArray) w
 | .prim args=>a1A P o=1/\execOp a.eval o=execOp (a0f o.op.operands.toList (args.map (D P ρ))) o
 | .eff args=>(a1A P o=2\/a1A P o=4)/\execOp a.eval o=execOp (a0f o.op.operands.toList (args.map (D P ρ))) o
 | .ext f args=>a1A P o=2/\∀w,(execOp a.eval o).run P w=(callFunc f (args.map (D P ρ)).toArray).run P w
 | .mk args=>mkB st o=true/\execOp a.eval o=execOp (a0f o.op.operands.toList (args.map (D P ρ))) o
 | .bad=>True
def Snd (P:Program) (ρ:List Value) (β:Nat->Nat) (st:St) (a:Act) (W:World) (o:Oper) (p:List Rq×Res):Prop:=(∀q∈p.1,q.holds P ρ)->d6w P ρ β st a W o p.2
theorem a0q (o:Oper):Snd P ρ β st a W o bad:=fun _=>trivial
theorem b4Y (m:Mt P w0 ρ β st a W) {o:Oper} {x:Operand} (ho:o.op= .move x\/o.op= .assign x):Snd P ρ β st a W o (c3X st x):=by
 unfold c3X
 split
 ·rename_i s hs
  intro _
  have hk:a1A P o=0:=by rcases ho with h|h<;>simp[a1A,h]
  refine⟨?_,by omega,a.eval x,m.get hs,fun w _=> ?_⟩
  ·rintro b q t i rfl;exact m.ptrB hs
  ·rcases ho with h|h<;>simp[execOp,h]
 ·exact a0q o
theorem c4h (m:Mt P w0 ρ β st a W) {o:Oper} {c x y:Operand} (ho:o.op= .pick c x y):Snd P ρ β st a W o (c8C st c x y):=by
 unfold c8C
 split
 ·rename_i c' x' y' hc hx hy
  intro hq
  obtain⟨b,hb⟩:∃b,D P ρ c'= .bool b:=hq (.bool c') (by simp)
  refine⟨(by rintro b q t i h;cases h),by simp[a1A,ho],_,rfl,fun w _=> ?_⟩
  rw[b3F,a4K m.kb,hb]
  simp only[execOp,ho,m.val hc,m.val hx,m.val hy,hb,asBool,Sem.run_bind,Sem.run_pure,Result.andThen_ok,a2w]
  cases b<;>rfl
 ·exact a0q o
theorem b8X {o:Oper} {T:TypeId} (ho:o.op= .alloc T):Snd P ρ β st a W o (b8K P T):=by
 unfold b8K
 split
 ·rename_i z hz
  intro hq
  have h1:(D P ρ (.z T)).cells.size=z.cells.size/\a0t (D P ρ (.z T)).cells:=hq (.cells z.cells.size (.z T)) (by simp)
  refine⟨by simp[a1A,ho],h1.1,h1.2,fun w=> ?_⟩
  have hD:D P ρ (.z T)=z:=by simp[D,a0I,hz]
  rw[hD]
  rw[Option.bind_eq_some_iff]at hz
  obtain⟨i,hi,hz⟩:=hz
  simp only[execOp,ho,Instr.alloc,zeroValue,Sem.run_bind,run_typeInfo w hi,Result.andThen_ok,hz,newVar,newRow,Sem.run_pure]
  rfl
 ·exact a0q o
theorem c8K (m:Mt P w0 ρ β st a W) {o:Oper} {T:TypeId} {x:Operand} (ho:o.op= .box T x):Snd P ρ β st a W o (d6q P st T x):=by
 unfold d6q
 split
 ·rename_i x' hx
  intro hq
  have h1:(D P ρ x').cells.size=P.cellsOf T/\a0t (D P ρ x').cells:=hq (.cells (P.cellsOf T) x') (by simp)
  refine⟨by simp[a1A,ho],h1.1,h1.2,fun w=> ?_⟩
  simp only[execOp,ho,Instr.box,newVar,newRow,Sem.run_bind,Sem.run_pure,m.val hx]
  rfl
 ·exact a0q o
theorem a0W {o:Oper} (hs:∀cs b,o.op≠ .select cs b) {svs:List SV} (h:svs.map (D P ρ)=o.op.operands.toList.map a.eval):execOp a.eval o=execOp (a0f o.op.operands.toList (svs.map (D P ρ))) o:=by
 rw[h]
 exact execOp_congr o hs fun x hx=>(c4g a _ x (by simpa using hx)).symm
theorem b4Z {N q n s:Nat} {i:SV} (hq:q+n<=N) (h:Rq.holds P ρ (.lt ((N-q-n)/s+1) i)):q+s*a2r (D P ρ i)+n<=N:=by
 obtain⟨h0,h1⟩:=h
 unfold a2r
 have h2:(intOf (D P ρ i)).toNat<=(N-q-n)/s:=by omega
 have h3:s*(intOf (D P ρ i)).toNat<=s*((N-q-n)/s):=Nat.mul_le_mul_left _ h2
 have h4:s*((N-q-n)/s)<=N-q-n:=Nat.mul_div_le _ _
 omega
theorem b5a (m:Mt P w0 ρ β st a W) {o:Oper} {T:TypeId} {x:Operand} (ho:o.op= .load T x):Snd P ρ β st a W o (b0h P st T x):=by
 have hkd:a1A P o=1:=by simp[a1A,ho]
 unfold b0h
 split
 ·rename_i b q s i hp
  split
  ·rename_i B hB
   have hkn:∀r∈(Rq.cells B.n B.c::st.kn),r.holds P ρ:=fun r hr=>by
    rcases List.mem_cons.1 hr with rfl|hr
    ·exact(m.bl b B hB).2
    ·exact m.kn r hr
   unfold b8L
   split
   ·exact a0q o
   ·rename_i hT
    have hT:a2s P T=true:=by simpa using hT
    have hev:=m.ptr hp
    have run:∀(w:World),Rd P β st W o w->q+s*a2r (D P ρ i)+P.cellsOf T<=B.n->(a0N P T=false->q+s*a2r (D P ρ i)<B.n)->
      (execOp a.eval o).run P w= .ok (.value (if a0N P T then .agg ((D P ρ B.c).cells.extract (q+s*a2r (D P ρ i)) (q+s*a2r (D P ρ i)+P.cellsOf T))else(D P ρ B.c).cells.getD (q+s*a2r (D P ρ i)) undef)) w:=fun w hw h1 h2=>by
     obtain⟨hb1,hb2,hb3⟩:=m.bl b B hB
     simp only[execOp,ho,hev,Sem.run_bind]
     have hb1':w.heap[β b]? =some (.cells (D P ρ B.c).cells B.T (0,0)):=by
      rcases hw with h|h|⟨T',x',b',q',s',i',h,hx,hh⟩|h
      ·omega
      ·exact h.block hb1
      ·rw[ho]at h;cases h
       rw[hp]at hx;cases hx
       rw[hh];exact hb1
      ·simp[a2P,ho]at h
     rw[b2a hT hb1' (by rw[hb2];exact h1) (by rw[hb2];exact h2)]
     rfl
    split
    ·rename_i hs0
     subst hs0
     simp only[Nat.zero_mul,Nat.add_zero]at run
     split
     ·rename_i hag
      split
      ·rename_i hle
       intro _
       refine⟨(by rintro b q t i h;cases h),by omega,_,rfl,fun w hw=> ?_⟩
       rw[run w hw hle (by simp[hag]),if_pos hag]
       congr 2
       split
       ·rename_i h
        obtain⟨rfl,h⟩:=h
        rw[a4m,Nat.zero_add,h,<-(m.bl b B hB).2.1]
        simp
       ·rw[a4J hkn]
      ·exact a0q o
     ·rename_i hag
      split
      ·rename_i hle
       intro _
       refine⟨(by rintro b q t i h;cases h),by omega,_,rfl,fun w hw=> ?_⟩
       rw[run w hw hle.1 (fun _=>hle.2),if_neg hag,a3R hkn]
      ·exact a0q o
    ·rename_i hs0
     split
     ·rename_i hle
      intro hq
      have hb:=b4Z hle.1 (hq (.lt ((B.n-q-P.cellsOf T)/s+1) i) (by simp))
      refine⟨(by rintro b q t i h;cases h),by omega,_,rfl,fun w hw=> ?_⟩
      rw[run w hw hb (fun _=>by omega)]
      split<;>rfl
     ·exact a0q o
  ·exact a0q o
 ·rename_i x' hx
  intro _
  refine⟨hkd,a0W (by simp[ho]) ?_⟩
  simp[ho,Op.operands,show a.eval x=D P ρ x' from m.get hx]
 ·exact a0q o
theorem b8Y (m:Mt P w0 ρ β st a W) {o:Oper} {T:TypeId} {x y:Operand} (ho:o.op= .store T x y):Snd P ρ β st a W o (a7t P st T x y):=by
 have hkd:a1A P o=4:=by simp[a1A,ho]
 unfold a7t
 split
 ·rename_i b q s i v hp hv
  split
  ·rename_i B hB
   have hkn:∀r∈(Rq.cells B.n B.c::st.kn),r.holds P ρ:=fun r hr=>by
    rcases List.mem_cons.1 hr with rfl|hr
    ·exact(m.bl b B hB).2
    ·exact m.kn r hr
   obtain⟨_,hb2,hb3⟩:=m.bl b B hB
   unfold b3B
   split
   ·exact a0q o
   ·rename_i hT
    have hT:a2s P T=true:=by simpa using hT
    have hev:=m.ptr hp
    split
    ·rename_i hle
     have fin:∀(c:SV),(D P ρ v).cells.size=P.cellsOf T->a0t (D P ρ v).cells->q+s*a2r (D P ρ i)+P.cellsOf T<=B.n->(D P ρ c).cells=spl (D P ρ B.c).cells (q+s*a2r (D P ρ i)) (D P ρ v).cells.toList->d6w P ρ β st a W o (.sto b c):=fun c h1 h2 h3 h4=>by
      refine⟨hkd,B,hB,?_,?_,fun w hw=> ?_⟩
      ·rw[h4,a5e,hb2]
      ·rw[h4];exact a9j hb3 h2
      ·simp only[execOp,ho,hev,m.val hv,Sem.run_bind]
       rw[a9l hT hw (by rw[hb2];exact h3) h1 h2,h4]
       rfl
     split
     ·rename_i hs0
      subst hs0
      intro hq
      have h1:(D P ρ v).cells.size=P.cellsOf T/\a0t (D P ρ v).cells:=hq (.cells (P.cellsOf T) v) (by simp)
      refine fin _ h1.1 h1.2 (by simpa using hle) ?_
      rw[a7z hkn _ _ _ h1.1 _ _ _ hb2 hle]
      simp
     ·intro hq
      have h1:(D P ρ v).cells.size=P.cellsOf T/\a0t (D P ρ v).cells:=hq (.cells (P.cellsOf T) v) (by simp)
      exact fin _ h1.1 h1.2 (b4Z hle (hq (.lt ((B.n-q-P.cellsOf T)/s+1) i) (by simp))) rfl
    ·exact a0q o
  ·exact a0q o
 ·rename_i x' y' hx hy
  intro _
  refine⟨.inr hkd,a0W (by simp[ho]) ?_⟩
  simp[ho,Op.operands,show a.eval x=D P ρ x' from m.get hx,m.val hy]
 ·exact a0q o
theorem b0q (m:Mt P w0 ρ β st a W) {o:Oper} {S f:Nat} {x:Operand} (ho:o.op= .fieldAddr S x f):Snd P ρ β st a W o (a4k P st S x f):=by
 have hkd:a1A P o=1:=by simp[a1A,ho]
 unfold a4k
 split
 ·rename_i b q s i hp
  split
  ·rename_i fs hS
   split
   ·rename_i fd hf
    split
    ·exact a0q o
    ·rename_i hn
     intro _
     have hn0:P.cellsOf fd.type≠0:=fun h=>hn (.inl h)
     have hT:a2s P fd.type=true:=by
      cases h:a2s P fd.type with
      |true=>rfl
      |false=>exact absurd (.inr h) hn
     refine⟨?_,by omega,_,rfl,fun w _=> ?_⟩
     ·rintro b' q' t' i' h;cases h;exact m.ptrB hp
     ·simp only[execOp,ho,m.ptr hp,Sem.run_bind]
      rw[a7A hS hf hT hn0]
      simp only[Result.andThen_ok,Sem.run_pure,Nat.add_right_comm]
   ·exact a0q o
  ·exact a0q o
 ·rename_i x' hx
  intro _
  refine⟨hkd,a0W (by simp[ho]) ?_⟩
  simp[ho,Op.operands,show a.eval x=D P ρ x' from m.get hx]
 ·exact a0q o
theorem b0r (m:Mt P w0 ρ β st a W) {o:Oper} {T:Nat} {x ix:Operand} (ho:o.op= .indexAddr T x ix):Snd P ρ β st a W o (a4l P st T x ix):=by
 have hkd:a1A P o=1:=by simp[a1A,ho]
 unfold a4l
 split
 ·rename_i b q s i j hp hj
  split
  ·rename_i len e hT
   split
   ·exact a0q o
   ·rename_i hn
    have hs:s=0:=by
     rcases Nat.eq_zero_or_pos s with h|h
     ·exact h
     ·exact absurd (.inl (by omega)) hn
    have he:a2s P e=true:=by
     cases h:a2s P e with
     |true=>rfl
     |false=>exact absurd (.inr h) hn
    subst hs
    have hev:=m.ptr hp
    simp only[Nat.zero_mul,Nat.add_zero]at hev
    split
    ·rename_i k mm
     split
     ·rename_i hb
      intro _
      refine⟨?_,by omega,_,rfl,fun w _=> ?_⟩
      ·rintro b' q' t' i' h;cases h;exact m.ptrB hp
      ·simp only[execOp,ho,hev,m.val hj,D,Sem.run_bind]
       rw[a4L hT he _ _ _ _ hb.1 hb.2]
       simp
     ·exact a0q o
    ·split
     ·exact a0q o
     ·intro hq
      obtain⟨k,n,hk⟩:∃k n,D P ρ j= .int k n:=hq (.num j) (by simp)
      obtain⟨h0,h1⟩:0<=intOf (D P ρ j)/\intOf (D P ρ j)<len:=hq (.lt len j) (by simp)
      refine⟨?_,by omega,_,rfl,fun w _=> ?_⟩
      ·rintro b' q' t' i' h;cases h;exact m.ptrB hp
      ·rw[hk]at h0 h1
       simp only[intOf]at h0 h1
       simp only[execOp,ho,hev,m.val hj,hk,Sem.run_bind]
       rw[a4L hT he _ _ _ _ h0 h1]
       simp only[Result.andThen_ok,Sem.run_pure,a2r,intOf,Nat.mul_comm]
  ·exact a0q o
 ·rename_i x' j' hx hj
  intro _
  refine⟨hkd,a0W (by simp[ho]) ?_⟩
  simp[ho,Op.operands,show a.eval x=D P ρ x' from m.get hx,m.val hj]
 ·exact a0q o
theorem b8Z (m:Mt P w0 ρ β st a W) {o:Oper} {S f:Nat} {x:Operand} (ho:o.op= .field S x f):Snd P ρ β st a W o (b8M P st S x f):=by
 have hkd:a1A P o=0:=by simp[a1A,ho]
 unfold b8M
 split
 ·rename_i x' hx
  split
  ·rename_i fs hS
   split
   ·rename_i fd hf
    split
    ·rename_i hle
     intro hq
     obtain⟨cs,hcs,hn⟩:∃cs,D P ρ x'= .agg cs/\cs.size=P.cellsOf S:=hq (.agg (P.cellsOf S) x') (by simp)
     refine⟨(by rintro b q t i h;cases h),by omega,_,rfl,fun w _=> ?_⟩
     simp only[execOp,ho,m.val hx,hcs,Sem.run_bind]
     rw[b7m hS hf hle.2.2 (by rw[hn];exact hle.1) hle.2.1]
     simp only[Result.andThen_ok,Sem.run_pure]
     congr 2
     split
     ·rw[a4J m.kn,hcs];rfl
     ·rw[a3R m.kn,hcs];rfl
    ·exact a0q o
   ·exact a0q o
  ·exact a0q o
 ·exact a0q o
theorem b9a (m:Mt P w0 ρ β st a W) {o:Oper} {T:Nat} {x ix:Operand} (ho:o.op= .index T x ix):Snd P ρ β st a W o (b8N P st T x ix):=by
 unfold b8N
 split
 ·rename_i x' j hx hj
  split
  ·rename_i len e hT
   have hkd:a1A P o=0:=by simp[a1A,ho,hT]
   split
   ·rename_i hle
    split
    ·rename_i k mm
     split
     ·rename_i hb
      intro hq
      obtain⟨cs,hcs,hn⟩:∃cs,D P ρ x'= .agg cs/\cs.size=P.cellsOf T:=hq (.agg (P.cellsOf T) x') (by simp)
      refine⟨(by rintro b q t i h;cases h),by omega,_,rfl,fun w _=> ?_⟩
      simp only[execOp,ho,m.val hx,m.val hj,hcs,D,Sem.run_bind]
      rw[a9m hT hle.2.2 _ _ hb.1 hb.2 (by rw[hn];exact hle.1) hle.2.1]
      simp only[Result.andThen_ok,Sem.run_pure]
      congr 2
      split
      ·rw[a4J m.kn,hcs];rfl
      ·rw[a3R m.kn,hcs];rfl
     ·exact a0q o
    ·intro hq
     obtain⟨cs,hcs,hn⟩:∃cs,D P ρ x'= .agg cs/\cs.size=P.cellsOf T:=hq (.agg (P.cellsOf T) x') (by simp)
     obtain⟨k,n,hk⟩:∃k n,D P ρ j= .int k n:=hq (.num j) (by simp)
     obtain⟨h0,h1⟩:0<=intOf (D P ρ j)/\intOf (D P ρ j)<len:=hq (.lt len j) (by simp)
     refine⟨(by rintro b q t i h;cases h),by omega,_,rfl,fun w _=> ?_⟩
     rw[hk]at h0 h1
     simp only[intOf]at h0 h1
     simp only[execOp,ho,m.val hx,m.val hj,hcs,hk,Sem.run_bind]
     rw[a9m hT hle.2.2 _ _ h0 h1 (by rw[hn];exact hle.1) hle.2.1]
     simp only[Result.andThen_ok,Sem.run_pure]
     congr 2
     split<;>simp[D,hcs,hk,a2r,intOf,Value.cells,Nat.mul_comm]
   ·exact a0q o
  ·rename_i hT
   intro _
   refine⟨by simp[a1A,ho,hT],a0W (by simp[ho]) ?_⟩
   simp[ho,Op.operands,m.val hx,m.val hj]
  ·exact a0q o
 ·exact a0q o
theorem b3H (m:Mt P w0 ρ β st a W) {o:Oper} {i:Nat} {x:Operand} (ho:o.op= .extract x i):Snd P ρ β st a W o (b0i st x i):=by
 have hkd:a1A P o=0:=by simp[a1A,ho]
 unfold b0i
 split
 ·rename_i x' hx
  intro hq
  obtain⟨vs,hvs,hn⟩:∃vs,D P ρ x'= .tuple vs/\i<vs.size:=hq (.tup i x') (by simp)
  refine⟨(by rintro b q t i h;cases h),by omega,_,rfl,fun w _=> ?_⟩
  simp only[execOp,ho,m.val hx,hvs,Instr.extract,D,c7q]
  simp[hn]
 ·exact a0q o
theorem b2c {T:TypeId} {k:IntKind} (h:c3V P T=some k):P.underlying T=some (.int k):=by
 unfold c3V at h
 split at h
 ·rename_i k' hk;simp only[Option.some.injEq]at h;subst h;exact hk
 ·cases h
theorem b7o {T:TypeId} (h:c3W P T=true):P.underlying T=some .bool:=by
 unfold c3W at h
 split at h
 ·assumption
 ·cases h
theorem c8L (m:Mt P w0 ρ β st a W) {o:Oper} {op:BinOp} {T T':TypeId} {x y:Operand} (ho:o.op= .binOp op T x y T'):Snd P ρ β st a W o (d6t P st op T x y):=by
 unfold d6t
 split
 ·rename_i x' y' hx hy
  split
  ·rename_i k hk
   have hkd:a1A P o=0:=by simp[a1A,ho,hk]
   split
   ·rename_i hsh
    intro hq
    obtain⟨n,hn⟩:∃n,D P ρ x'= .int k n:=hq (.int k x') (by simp)
    obtain⟨l,r,hr⟩:∃l r,D P ρ y'= .int l r:=hq (.num y') (by simp)
    have h0:0<=intOf (D P ρ y'):=hq (.nn y') (by simp)
    refine⟨(by rintro b q t i h;cases h),by omega,_,rfl,fun w _=> ?_⟩
    rw[hr]at h0
    simp only[intOf]at h0
    simp only[execOp,ho,m.val hx,m.val hy,hn,hr,D]
    rw[Sem.run_bind,c4e (by simpa[d6r]using hsh) h0]
    rfl
   ·rename_i hsh
    intro hq
    obtain⟨n,hn⟩:∃n,D P ρ x'= .int k n:=hq (.int k x') (by simp)
    obtain⟨r,hr⟩:∃r,D P ρ y'= .int k r:=hq (.int k y') (by simp)
    refine⟨(by rintro b q t i h;cases h),by omega,_,rfl,fun w _=> ?_⟩
    simp only[execOp,ho,m.val hx,m.val hy,hn,hr,D]
    rw[Sem.run_bind,c4d (by simpa[d6r]using hsh) (fun hd=> ?_)]
    ·rfl
    ·have hd':d6s op=true:=by simpa[d6s]using hd
     have:=hq (.nz y') (by simp[hd'])
     simpa[Rq.holds,hr,intOf]using this
  ·rename_i hk
   split
   ·rename_i hb
    rw[Bool.and_eq_true]at hb
    have hkd:a1A P o=0:=by
     have h2:=hb.2
     unfold d6h at h2
     simp[a1A,ho,hk,hb.1,h2]
    intro hq
    obtain⟨n,hn⟩:∃n,D P ρ x'= .bool n:=hq (.bool x') (by simp)
    obtain⟨r,hr⟩:∃r,D P ρ y'= .bool r:=hq (.bool y') (by simp)
    refine⟨(by rintro b q t i h;cases h),by omega,_,rfl,fun w _=> ?_⟩
    simp only[execOp,ho,m.val hx,m.val hy,hn,hr,D,a2w]
    rw[Sem.run_bind,c4f (b7o hb.1) (by simpa[d6h]using hb.2)]
    rfl
   ·rename_i hb
    intro _
    have hkd:a1A P o=1:=by
     simp only[a1A,ho,hk]
     rw[if_neg]
     simpa[d6h]using hb
    refine⟨hkd,a0W (by simp[ho]) ?_⟩
    simp[ho,Op.operands,m.val hx,m.val hy]
 ·exact a0q o
theorem d3l (m:Mt P w0 ρ β st a W) {o:Oper} {op:UnOp} {T:TypeId} {x:Operand} (ho:o.op= .unOp op T x):Snd P ρ β st a W o (sUn P st op T x):=by
 have hkd:a1A P o=0:=by simp[a1A,ho]
 unfold sUn
 split
 ·rename_i x' hx
  cases op with
  |not=>
   intro hq
   obtain⟨b,hb⟩:∃b,D P ρ x'= .bool b:=hq (.bool x') (by simp)
   refine⟨(by rintro b q t i h;cases h),by omega,_,rfl,fun w _=> ?_⟩
   have e:D P ρ (d6u x')= .bool (!b):=by
    unfold d6u;split
    ·simp only[D]at hb⊢;cases hb;rfl
    ·simp[D,hb,a2w]
   simp only[execOp,ho,m.val hx,hb,Op.unary,e]
   rfl
  |plus=>exact a0q o
  |neg=>
   simp only
   split
   ·rename_i k hk
    intro hq
    obtain⟨n,hn⟩:∃n,D P ρ x'= .int k n:=hq (.int k x') (by simp)
    refine⟨(by rintro b q t i h;cases h),by omega,_,rfl,fun w _=> ?_⟩
    simp only[execOp,ho,m.val hx,hn,Op.unary,D,unV,intOf,Op.intArith]
    rfl
   ·exact a0q o
  |xor=>
   simp only
   split
   ·rename_i k hk
    intro hq
    obtain⟨n,hn⟩:∃n,D P ρ x'= .int k n:=hq (.int k x') (by simp)
    refine⟨(by rintro b q t i h;cases h),by omega,_,rfl,fun w _=> ?_⟩
    simp only[execOp,ho,m.val hx,hn,Op.unary,D,unV,intOf,Op.intBits]
    rfl
   ·exact a0q o
 ·exact a0q o
theorem c4i (m:Mt P w0 ρ β st a W) {o:Oper} {s d:TypeId} {x:Operand} (ho:o.op= .convert s d x):Snd P ρ β st a W o (c8D P st s d x):=by
 unfold c8D
 split
 ·rename_i x' hx
  split
  ·rename_i k l hk hl
   have hkd:a1A P o=0:=by simp[a1A,ho,hk,hl]
   intro hq
   obtain⟨n,hn⟩:∃n,D P ρ x'= .int k n:=hq (.int k x') (by simp)
   refine⟨(by rintro b q t i h;cases h),by omega,_,rfl,fun w _=> ?_⟩
   simp only[execOp,ho,m.val hx,hn,convert,Sem.run_bind,run_underlying (b2c hk),run_underlying (b2c hl),Result.andThen_ok,D,intOf,Conv.intToInt,Sem.run_pure]
  ·rename_i hno
   intro _
   have hkd:a1A P o=1:=by
    simp only[a1A,ho]
    rw[if_neg]
    intro h
    rw[Bool.and_eq_true,Option.isSome_iff_exists,Option.isSome_iff_exists]at h
    obtain⟨⟨k,hk⟩,⟨l,hl⟩⟩:=h
    exact hno k l hk hl
   refine⟨hkd,a0W (by simp[ho]) ?_⟩
   simp[ho,Op.operands,m.val hx]
 ·exact a0q o
theorem c4j (m:Mt P w0 ρ β st a W) {o:Oper} {c:Call} (ho:o.op= .call c):Snd P ρ β st a W o (c8E P st c):=by
 unfold c8E
 have hsel:∀cs b,o.op≠ .select cs b:=by simp[ho]
 split
 ·rename_i f hc
  have hkd:a1A P o=2:=by
   obtain⟨callee,args,ats⟩:=c
   simp only at hc;subst hc
   simp[a1A,ho]
  split
  ·rename_i l hl
   split
   ·rename_i body hb
    split
    ·exact a0q o
    ·rename_i hnm
     intro _
     refine⟨hkd,fun w=> ?_⟩
     rw[Option.bind_eq_some_iff]at hb
     obtain⟨fn,hf,hb⟩:=hb
     have hn:¬fn.name= "runtime.NumGoroutine" :=fun h=>by
      simp only[hf,Option.map_some,h]at hnm
      simp at hnm
     have hargs:(l.map (D P ρ)).toArray=c.args.map a.eval:=by
      rw[m.vals hl];apply Array.toList_inj.1;simp
     rw[hargs]
     simp[execOp,ho,resolve,hc,Act.eval,Deferred.ofValue,invoke,callFunc,hf,hn,hb]
   ·intro _
    refine⟨hkd,fun w=> ?_⟩
    have hargs:(l.map (D P ρ)).toArray=c.args.map a.eval:=by
     rw[m.vals hl];apply Array.toList_inj.1;simp
    rw[hargs]
    simp[execOp,ho,resolve,hc,Act.eval,Deferred.ofValue,invoke]
  ·exact a0q o
 ·rename_i b hc
  split
  ·rename_i l hl
   split
   ·rename_i hq
    intro _
    refine⟨?_,a0W hsel ?_⟩
    ·obtain⟨callee,args,ats⟩:=c
     simp only at hc;subst hc
     cases b<;>simp[b8P]at hq<;>simp[a1A,ho]
    ·simp[ho,Op.operands,Call.operands,hc,m.vals hl]
   ·rename_i hq
    intro _
    refine⟨?_,a0W hsel ?_⟩
    ·obtain⟨callee,args,ats⟩:=c
     simp only at hc;subst hc
     cases b<;>simp[b8P]at hq<;>simp[a1A,ho]
    ·simp[ho,Op.operands,Call.operands,hc,m.vals hl]
  ·exact a0q o
 ·rename_i f hc hno
  split
  ·rename_i l hl
   intro _
   refine⟨?_,a0W hsel ?_⟩
   ·obtain⟨callee,args,ats⟩:=c
    simp only at hno;subst hno
    simp[a1A,ho]
   ·simp[ho,Op.operands,Call.operands,hno,m.vals hl]
  ·exact a0q o
 ·exact a0q o
theorem b9b (m:Mt P w0 ρ β st a W) {o:Oper} {op:Op} (ho:o.op=op):Snd P ρ β st a W o (b1U st op):=by
 unfold b1U
 split
 ·rename_i l hl
  split
  ·rename_i hp
   intro _
   refine⟨?_,a0W ?_ ?_⟩
   ·cases op<;>simp[b4U]at hp<;>simp[a1A,ho]
   ·rw[ho];cases op<;>simp[b4U]at hp<;>simp
   ·rw[ho];exact m.vals hl
  ·split
   ·rename_i hp
    intro _
    refine⟨?_,a0W ?_ ?_⟩
    ·cases op<;>simp[c3Y]at hp<;>simp[a1A,ho]
    ·rw[ho];cases op<;>simp[c3Y]at hp<;>simp
    ·rw[ho];exact m.vals hl
   ·exact a0q o
 ·exact a0q o
theorem b2d (m:Mt P w0 ρ β st a W):∀{parts:List (Nat×Operand)} {ps:List (Nat×SV)},b1S st parts=some ps->parts.map (fun p=>(p.1,a.eval p.2))=ps.map fun p=>(p.1,D P ρ p.2):=by
 intro parts
 induction parts with
 |nil=>intro ps h;simp only[b1S,Option.some.injEq]at h;subst h;rfl
 |cons p r ih=>
  intro ps h
  obtain⟨i,x⟩:=p
  simp only[b1S]at h
  split at h
  ·rename_i s l hs hl
   simp only[Option.some.injEq]at h;subst h
   simp only[List.map_cons,ih hl,m.val hs]
  ·cases h
theorem b2e {pl:Nat->Option (Nat×Nat)}:∀{ps:List (Nat×SV)} {l:List (Nat×Nat×SV)},b1T pl ps=some l->(∀p∈ps,∃q n,pl p.1=some (q,n)/\(q,n,p.2)∈l)/\
  (∀cs:Array Value,(ps.map fun p=>(p.1,D P ρ p.2)).foldl (fun acc p=>spl acc ((pl p.1).getD (0,0)).1 p.2.cells.toList) cs=l.foldl (fun acc p=>spl acc p.1 (D P ρ p.2.2).cells.toList) cs):=by
 intro ps
 induction ps with
 |nil=>intro l h;simp only[b1T,Option.some.injEq]at h;subst h;exact⟨by simp,fun _=>rfl⟩
 |cons p r ih=>
  intro l h
  obtain⟨i,x⟩:=p
  simp only[b1T]at h
  split at h
  ·rename_i q n l' hq hl
   simp only[Option.some.injEq]at h;subst h
   obtain⟨h1,h2⟩:=ih hl
   refine⟨fun p hp=> ?_,fun cs=> ?_⟩
   ·rcases List.mem_cons.1 hp with rfl|hp
    ·exact⟨q,n,hq,by simp⟩
    ·obtain⟨q',n',hq',hm⟩:=h1 p hp
     exact⟨q',n',hq',by simp[hm]⟩
   ·simp only[List.map_cons,List.foldl_cons,hq,Option.getD_some]
    exact h2 _
  ·cases h
theorem b0s (hk:∀r∈st.kn,r.holds P ρ) (sf:Bool) (N:Nat):∀(l:List (Nat×Nat×SV)) (acc:SV),(D P ρ acc).cells.size=N->(∀p∈l,(D P ρ p.2.2).cells.size=p.2.1/\p.1+p.2.1<=N)->
  (D P ρ (l.foldl (fun acc p=>b3A P st.kn sf N p.1 p.2.1 p.2.2 acc) acc)).cells=l.foldl (fun acc p=>spl acc p.1 (D P ρ p.2.2).cells.toList) (D P ρ acc).cells:=by
 intro l
 induction l with
 |nil=>intro acc _ _;rfl
 |cons p r ih=>
  intro acc hN hl
  obtain⟨h1,h2⟩:=hl p (by simp)
  have e:=a7z hk sf p.2.1 p.2.2 h1 acc N p.1 hN h2
  simp only[List.foldl_cons]
  rw[ih _ (by rw[e,a5e];exact hN) (fun q hq=>hl q (by simp[hq])),e]
theorem b9c (m:Mt P w0 ρ β st a W) {o:Oper} {T:TypeId} {parts:Array (Nat×Operand)} (ho:o.op= .build T parts):Snd P ρ β st a W o (b8O P st T parts.toList):=by
 have hkd:a1A P o=0:=by simp[a1A,ho]
 unfold b8O
 split
 ·rename_i ps pl hps hpl
  split
  ·rename_i l hl
   split
   ·rename_i hc
    simp only[Bool.and_eq_true,List.all_eq_true,decide_eq_true_eq]at hc
    obtain⟨⟨hc1,hc2⟩,hc3⟩:=hc
    intro hq
    have hz0:(D P ρ (.z T)).cells.size=P.cellsOf T/\a0t (D P ρ (.z T)).cells:=hq (.cells (P.cellsOf T) (.z T)) (by simp)
    rw[Option.any_eq_true]at hc3
    obtain⟨it,hit,hz⟩:=hc3
    rw[Option.isSome_iff_exists]at hz
    obtain⟨z,hz⟩:=hz
    have hzD:a0I P T=z:=by simp[a0I,hit,hz]
    have hzs:z.cells.size=P.cellsOf T:=by rw[<-hzD];exact hz0.1
    obtain⟨hp1,hp2⟩:=b2e (P:=P) (ρ:=ρ) hl
    have hsz:∀p∈l,(D P ρ p.2.2).cells.size=p.2.1:=fun p hp=>(hq (.cells p.2.1 p.2.2) (List.mem_cons_of_mem _ (List.mem_map.2 ⟨p,hp,rfl⟩))).1
    refine⟨(by rintro b q t i h;cases h),by omega,_,rfl,fun w _=> ?_⟩
    have hev:(parts.map fun(i,x)=>(i,a.eval x)).toList=ps.map fun p=>(p.1,D P ρ p.2):=by
     rw[<-b2d m hps];simp
    simp only[execOp,ho,Sem.run_bind]
    rw[b7n hpl hc2 hit hz]
    ·rw[hev,hp2,a4m,b0s m.kn _ _ l (exZ P T) (by rw[b1Z,hzD];exact hzs) (fun p hp=>⟨hsz p hp,hc1 p hp⟩),b1Z,hzD]
     rfl
    ·rw[hev]
     intro p hp
     rw[List.mem_map]at hp
     obtain⟨p',hp',rfl⟩:=hp
     obtain⟨q,n,hq',hm⟩:=hp1 p' hp'
     exact⟨q,n,hq',hsz _ hm,by rw[hzs];exact hc1 _ hm⟩
   ·exact a0q o
  ·exact a0q o
 ·exact a0q o
theorem d3m (m:Mt P w0 ρ β st a W) {o:Oper} {op:Op} (ho:o.op=op) (hm:mkB st o=true):Snd P ρ β st a W o (sMk st op):=by
 unfold sMk
 split
 ·rename_i l hl
  intro _
  refine⟨hm,a0W ?_ ?_⟩
  ·rw[ho];unfold mkB at hm;rw[ho]at hm;intro cs b e;subst e;simp at hm
  ·rw[ho];exact m.vals hl
 ·exact a0q o
theorem c4k (m:Mt P w0 ρ β st a W) {o:Oper} {op:Op} (ho:o.op=op):Snd P ρ β st a W o (if mkB st o then sMk st op else b1U st op):=by
 split
 ·rename_i h;exact d3m m ho h
 ·exact b9b m ho
theorem b9d (m:Mt P w0 ρ β st a W) (o:Oper):Snd P ρ β st a W o (a1T P st o):=by
 cases ho:o.op<;>simp only[a1T,ho]
 case move x=>exact b4Y m (.inl ho)
 case assign x=>exact b4Y m (.inr ho)
 case pick c x y=>exact c4h m ho
 case alloc T=>exact b8X ho
 case box T x=>exact c8K m ho
 case load T x=>exact b5a m ho
 case store T x y=>exact b8Y m ho
 case fieldAddr S x f=>exact b0q m ho
 case indexAddr T x ix=>exact b0r m ho
 case field S x f=>exact b8Z m ho
 case index T x ix=>exact b9a m ho
 case build T parts=>exact b9c m ho
 case extract x i=>exact b3H m ho
 case binOp op T x y T'=>exact c8L m ho
 case unOp op T x=>exact d3l m ho
 case convert s d x=>exact c4i m ho
 case call c=>exact c4j m ho
 all_goals exact c4k m ho
end
end Go.RX

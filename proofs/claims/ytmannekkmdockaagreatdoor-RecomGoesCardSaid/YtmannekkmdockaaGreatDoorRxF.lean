/- Lemmas of the proof. -/
import Derived.Test.YtmannekkmdockaaGreatDoorRxD
open Array renaming toList_inj->eZ
open Bool renaming and_eq_true->aF
open Go.Result renaming andThen_ok->aE
open Go.Sem renaming run_bind->aG,run_pure->aT
open List renaming foldl_cons->eP,map_cons->aM,mem_cons->aL,mem_map->aH
open Nat renaming add_zero->cZ,le_refl->aN,le_trans->aS,lt_of_lt_of_le->bK,mul_comm->cE,zero_mul->dV
open Option renaming bind_eq_some_iff->kS,getD_some->mL,isSome_iff_exists->eU
open Option.some renaming injEq->aD
namespace Go.RX
open Go.RowKit
def Ky (t:Nat):List Operand->List Value->Value
 | .tmp u::os,v::vs=>if u=t then v else Ky t os vs
 |_::os,_::vs=>Ky t os vs
 |_,_=>undef
def g9 (os:List Operand) (vs:List Value):Operand->Value
 | .tmp t=>Ky t os vs
 | .const v=>v
 | .global g=> .pointer (some ⟨g,0,none⟩)
 | .func f=> .func (.func f) #[] #[]
theorem XA (a:Act):∀(os:List Operand) (x:Operand),x∈os->g9 os (os.map a.eval) x=a.eval x:=by
 intro os;induction os with
 |nil=>intro x hx;cases hx
 |cons y os ih=>
  intro x hx;cases x with
  |tmp t=>
   simp only[g9,aM];cases y with
   |tmp u=>
    simp only[Ky];split
    ·rename_i h;rw[h]
    ·rename_i h;have:Operand.tmp t∈os:=by
      rcases aL.1 hx with e|e
      ·exact absurd (by injection e with e;exact e.symm) h
      ·exact e
     exact ih _ this
   |const v=>
    simp only[Ky];have:Operand.tmp t∈os:=by
     rcases aL.1 hx with e|e
     ·cases e
     ·exact e
    exact ih _ this
   |global g=>
    simp only[Ky];have:Operand.tmp t∈os:=by
     rcases aL.1 hx with e|e
     ·cases e
     ·exact e
    exact ih _ this
   |func f=>
    simp only[Ky];have:Operand.tmp t∈os:=by
     rcases aL.1 hx with e|e
     ·cases e
     ·exact e
    exact ih _ this
  |const v=>rfl
  |global g=>rfl
  |func f=>rfl
def ML (P:Program) (ρ:List Value) (β:Nat->Nat):SL->Value->Prop
 | .x s,v=>v=D P ρ s
 | .p b o s i,v=>v= .pointer (some ⟨β b,o+s*z6 (D P ρ i),none⟩)
 | .u,_=>True
abbrev PH:=Nat->Option Obj
def PH.In (H:PH) (w:World):Prop:=∀b o,H b=some o->w.heap[b]? =some o
def PH.le (H H':PH):Prop:=∀b o,H b=some o->H' b=some o
structure Step (H:PH) (w:World) (H':PH) (w':World):Prop where
 os:w'.os=w.os
 tape:w'.tape=w.tape
 output:w'.output=w.output
 size:w.heap.size<=w'.heap.size
 block:∀k,k<w.heap.size->H k=none->w'.heap[k]? =w.heap[k]?
 holds:PH.In H' w'
 dom:∀b,H' b≠none->H b≠none\/w.heap.size<=b
 dr:w.drawn<=w'.drawn
theorem Step.refl {H:PH} {w:World} (h:H.In w):Step H w H w:=⟨rfl,rfl,rfl,aN _,fun _ _ _=>rfl,h,fun _ h=> .inl h,aN _⟩
theorem PH.In.ext {H:PH} {w w':World} (h:H.In w) (hx:Ext w w'):H.In w':=fun b o hb=>hx.block (h b o hb)
theorem PH.le.refl (H:PH):PH.le H H:=fun _ _ h=>h
theorem PH.le.trans {A B C:PH} (h:PH.le A B) (k:PH.le B C):PH.le A C:=fun b o hb=>k b o (h b o hb)
theorem PH.le.In {H H':PH} (h:PH.le H H') {w:World} (k:H'.In w):H.In w:=fun b o hb=>k b o (h b o hb)
theorem Step.trans {H H' H'':PH} {a b c:World} (h:Step H a H' b) (k:Step H' b H'' c):Step H a H'' c:=by
 refine⟨k.os.trans h.os,k.tape.trans h.tape,k.output.trans h.output,aS h.size k.size,fun i hi hn=> ?_,k.holds,fun i hi=> ?_,aS h.dr k.dr⟩
 ·have sE:H' i=none:=by
   cases e:H' i with
   |none=>rfl
   | some o => rcases h.dom i (by simp [e]) with h1 | h1
               · exact absurd hn h1
               · omega
  rw[k.block i (bK hi h.size) sE,h.block i hi hn]
 ·rcases k.dom i hi with h1|h1
  ·exact h.dom i h1
  ·exact .inr (aS h.size h1)
theorem Step.ext {H H':PH} {a b c:World} (h:Step H a H' b) (k:Ext b c):Step H a H' c:=
 ⟨k.os.trans h.os,k.tape.trans h.tape,k.output.trans h.output,aS h.size k.size,fun i hi hn=>(k.block' (bK hi h.size)).trans (h.block i hi hn),h.holds.ext k,h.dom,aS h.dr k.dr⟩
theorem Step.toExt {H H':PH} {a b:World} (h:Step H a H' b) (ha:H.In a) (hl:PH.le H H'):Ext a b:=by
 refine⟨h.os,h.tape,h.output,h.size,fun k hk=> ?_,h.dr⟩;cases e:H k with
 |none=>exact h.block k hk e
 |some o=>rw[h.holds k o (hl k o e),ha k o e]
structure Bs where
 w:World
 H0:PH
 ro:Option Nat
 n0:Nat
 b0:Nat->Nat
 K0:PH
structure Cx extends Bs where
 H:PH
 K:PH
def Qm (D:Nat):Deferred:={target:= .collected D,args:= #[]}
structure Mt (P:Program) (w0:Cx) (ρ:List Value) (β:Nat->Nat) (st:St) (a:Act) (W:World):Prop where
 sz:a.tmps.size=st.sl.length
 sl:∀(t:Nat) (s:SL),st.sl[t]? =some s->∃v,a.tmps[t]? =some v/\ML P ρ β s v
 pb:∀(t b o s:Nat) (i:SV),st.sl[t]? =some (.p b o s i)->b<st.bl.length
 df:∃Ds:List Nat,a.defers=Ds.map Qm/\Ds.Nodup/\∀D∈Ds,w0.w.heap.size<=D/\w0.K D=some (.deferred (some []))
 n:ρ.length=st.n
 bl:∀(b:Nat) (B:Blk),st.bl[b]? =some B->W.heap[β b]? =some (.cells (D P ρ B.c).cells B.T (0,0))/\(D P ρ B.c).cells.size=B.n/\s8 (D P ρ B.c).cells
 inj:∀b b',b<st.bl.length->b'<st.bl.length->β b=β b'->b=b'
 own:∀b,b<st.bl.length->w0.w.heap.size<=β b\/w0.H0 (β b)≠none
 sep:∀b,b<st.bl.length->w0.H (β b)=none
 fr:Step w0.H0 w0.w w0.H W
 kp:w0.K.In W
 rd:st.rd=false->w0.ro=none
 ag:∀b,b<w0.n0->β b=w0.b0 b
 ln:w0.n0<=st.bl.length
 kle:PH.le w0.K0 w0.K
 kpH:∀k,w0.K k≠none->w0.H k=none
 kpB:∀b,b<st.bl.length->w0.K (β b)=none
 kn:∀r∈st.kn,r.holds P ρ
 kb:∀p∈st.kb,D P ρ p.1= .bool p.2
section
variable {P:Program} {w0:Cx} {ρ:List Value} {β:Nat->Nat} {st:St} {a:Act} {W:World}
theorem Mt.ext (m:Mt P w0 ρ β st a W) {w:World} (h:Ext W w):Mt P w0 ρ β st a w:=
 {m with
  bl:=fun b B hb=>let⟨h1,h2⟩:=m.bl b B hb;⟨h.block h1,h2⟩
  fr:=m.fr.ext h
  kp:=m.kp.ext h}
theorem Mt.get (m:Mt P w0 ρ β st a W) {x:Operand} {s:SL} (h:st.get x=some s):ML P ρ β s (a.eval x):=by
 cases x with
 |tmp t=>
  obtain⟨v,hv,hm⟩:=m.sl t s h;simp only[Act.eval,Array.getD_eq_getD_getElem?,hv,mL];exact hm
 |const c=>simp only[St.get,aD]at h;subst h;rfl
 |func f=>simp only[St.get,aD]at h;subst h;rfl
 |global g=>simp only[St.get,aD]at h;subst h;rfl
theorem Mt.val (m:Mt P w0 ρ β st a W) {x:Operand} {s:SV} (h:st.val x=some s):a.eval x=D P ρ s:=by
 unfold St.val at h;split at h
 ·rename_i s' hs;simp only[aD]at h;subst h;exact m.get hs
 ·cases h
theorem Mt.vals (m:Mt P w0 ρ β st a W):∀{l:List Operand} {svs:List SV},Ku st l=some svs->svs.map (D P ρ)=l.map a.eval:=by
 intro l;induction l with
 |nil=>intro svs h;simp only[Ku,aD]at h;subst h;rfl
 |cons x r ih=>
  intro svs h;simp only[Ku]at h;split at h
  ·rename_i s l' hs hl;simp only[aD]at h;subst h;simp only[aM,ih hl,m.val hs]
  ·cases h
theorem Mt.ptr (m:Mt P w0 ρ β st a W) {x:Operand} {b o s:Nat} {i:SV} (h:st.get x=some (.p b o s i)):a.eval x= .pointer (some ⟨β b,o+s*z6 (D P ρ i),none⟩):=m.get h
theorem Mt.ptrB (m:Mt P w0 ρ β st a W) {x:Operand} {b o s:Nat} {i:SV} (h:st.get x=some (.p b o s i)):b<st.bl.length:=by
 cases x with
 |tmp t=>exact m.pb t b o s i h
 |const c=>simp[St.get]at h
 |func f=>simp[St.get]at h
 |global g=>simp[St.get]at h
def Rd (P:Program) (β:Nat->Nat) (st:St) (W:World) (o:Oper) (w:World):Prop:=
 r8 P o=0\/Ext W w\/(∃T x b q s i,o.op= .load T x/\st.get x=some (.p b q s i)/\w.heap[β b]? =W.heap[β b]?)\/Jp st o=true
def qs (P:Program) (ρ:List Value) (β:Nat->Nat) (st:St) (a:Act) (W:World) (o:Oper):Res->Prop
 | .val s=>(∀b q t i,s= .p b q t i->b<st.bl.length)/\r8 P o<=1/\∃v,ML P ρ β s v/\∀w,Rd P β st W o w->(execOp a.eval o).run P w= .ok (.value v) w
 | .new c T n=>r8 P o=3/\(D P ρ c).cells.size=n/\s8 (D P ρ c).cells/\∀w,(execOp a.eval o).run P w= .ok (.value (.pointer (some ⟨w.heap.size,0,none⟩))) (w.alloc (.cells (D P ρ c).cells T))
 | .sto b c=>r8 P o=4/\∃B,st.bl[b]? =some B/\(D P ρ c).cells.size=B.n/\s8 (D P ρ c).cells/\∀w,w.heap[β b]? =some (.cells (D P ρ B.c).cells B.T (0,0))->(execOp a.eval o).run P w= .ok .skip (w.setRow (β b) (D P ρ c).cells)
 | .call f args=>r8 P o=2/\∀w,(execOp a.eval o).run P w= .ok (.enter f (args.map (D P ρ)).toArray) w
 | .prim args=>r8 P o=1/\execOp a.eval o=execOp (g9 o.op.operands.toList (args.map (D P ρ))) o
 | .eff args=>(r8 P o=2\/r8 P o=4)/\execOp a.eval o=execOp (g9 o.op.operands.toList (args.map (D P ρ))) o
 | .ext f args=>r8 P o=2/\∀w,(execOp a.eval o).run P w=(callFunc f (args.map (D P ρ)).toArray).run P w
 | .mk args=>mkB st o=true/\execOp a.eval o=execOp (g9 o.op.operands.toList (args.map (D P ρ))) o
 | .bad=>True
def Snd (P:Program) (ρ:List Value) (β:Nat->Nat) (st:St) (a:Act) (W:World) (o:Oper) (p:List Rq×Res):Prop:=(∀q∈p.1,q.holds P ρ)->qs P ρ β st a W o p.2
theorem y7 (o:Oper):Snd P ρ β st a W o bad:=fun _=>trivial
theorem EN (m:Mt P w0 ρ β st a W) {o:Oper} {x:Operand} (ho:o.op= .move x\/o.op= .assign x):Snd P ρ β st a W o (de st x):=by
 unfold de;split
 ·rename_i s hs;intro _;have hk:r8 P o=0:=by rcases ho with h|h<;>simp[r8,h]
  refine⟨?_,by omega,a.eval x,m.get hs,fun w _=> ?_⟩
  ·rintro b q t i rfl;exact m.ptrB hs
  ·rcases ho with h|h<;>simp[execOp,h]
 ·exact y7 o
theorem XB (m:Mt P w0 ρ β st a W) {o:Oper} {c x y:Operand} (ho:o.op= .pick c x y):Snd P ρ β st a W o (pg st c x y):=by
 unfold pg;split
 ·rename_i c' x' y' hc hx hy;intro hq;obtain⟨b,hb⟩:∃b,D P ρ c'= .bool b:=hq (.bool c') (by simp);refine⟨(by rintro b q t i h;cases h),by simp[r8,ho],_,rfl,fun w _=> ?_⟩;rw[WP,qp m.kb,hb];simp only[execOp,ho,m.val hc,m.val hx,m.val hy,hb,asBool,aG,aT,aE,Fg];cases b<;>rfl
 ·exact y7 o
theorem XC {o:Oper} {T:TypeId} (ho:o.op= .alloc T):Snd P ρ β st a W o (pj P T):=by
 unfold pj;split
 ·rename_i z hz;intro hq;have h1:(D P ρ (.z T)).cells.size=z.cells.size/\s8 (D P ρ (.z T)).cells:=hq (.cells z.cells.size (.z T)) (by simp);refine⟨by simp[r8,ho],h1.1,h1.2,fun w=> ?_⟩;have hD:D P ρ (.z T)=z:=by simp[D,s7,hz]
  rw[hD];rw[kS]at hz;obtain⟨i,hi,hz⟩:=hz;simp only[execOp,ho,Instr.alloc,zeroValue,aG,run_typeInfo w hi,aE,hz,newVar,newRow,aT];rfl
 ·exact y7 o
theorem XD (m:Mt P w0 ρ β st a W) {o:Oper} {T:TypeId} {x:Operand} (ho:o.op= .box T x):Snd P ρ β st a W o (pn P st T x):=by
 unfold pn;split
 ·rename_i x' hx;intro hq;have h1:(D P ρ x').cells.size=P.cellsOf T/\s8 (D P ρ x').cells:=hq (.cells (P.cellsOf T) x') (by simp);refine⟨by simp[r8,ho],h1.1,h1.2,fun w=> ?_⟩;simp only[execOp,ho,Instr.box,newVar,newRow,aG,aT,m.val hx];rfl
 ·exact y7 o
theorem Ht {o:Oper} (hs:∀cs b,o.op≠ .select cs b) {svs:List SV} (h:svs.map (D P ρ)=o.op.operands.toList.map a.eval):execOp a.eval o=execOp (g9 o.op.operands.toList (svs.map (D P ρ))) o:=by
 rw[h];exact execOp_congr o hs fun x hx=>(XA a _ x (by simpa using hx)).symm
theorem EO {N q n s:Nat} {i:SV} (hq:q+n<=N) (h:Rq.holds P ρ (.lt ((N-q-n)/s+1) i)):q+s*z6 (D P ρ i)+n<=N:=by
 obtain⟨h0,h1⟩:=h;unfold z6;have h2:(intOf (D P ρ i)).toNat<=(N-q-n)/s:=by omega
 have h3:s*(intOf (D P ρ i)).toNat<=s*((N-q-n)/s):=Nat.mul_le_mul_left _ h2;have h4:s*((N-q-n)/s)<=N-q-n:=Nat.mul_div_le _ _;omega
theorem EP (m:Mt P w0 ρ β st a W) {o:Oper} {T:TypeId} {x:Operand} (ho:o.op= .load T x):Snd P ρ β st a W o (Kv P st T x):=by
 have tD:r8 P o=1:=by simp[r8,ho]
 unfold Kv;split
 ·rename_i b q s i hp;split
  ·rename_i B hB;have rQ:∀r∈(Rq.cells B.n B.c::st.kn),r.holds P ρ:=fun r hr=>by
    rcases aL.1 hr with rfl|hr
    ·exact(m.bl b B hB).2
    ·exact m.kn r hr
   unfold po;split
   ·exact y7 o
   ·rename_i hT;have hT:z7 P T=true:=by simpa using hT
    have vW:=m.ptr hp;have run:∀(w:World),Rd P β st W o w->q+s*z6 (D P ρ i)+P.cellsOf T<=B.n->(Aw P T=false->q+s*z6 (D P ρ i)<B.n)->
      (execOp a.eval o).run P w= .ok (.value (if Aw P T then .agg ((D P ρ B.c).cells.extract (q+s*z6 (D P ρ i)) (q+s*z6 (D P ρ i)+P.cellsOf T))else(D P ρ B.c).cells.getD (q+s*z6 (D P ρ i)) undef)) w:=fun w hw h1 h2=>by
     obtain⟨qQ,qR,uC⟩:=m.bl b B hB;simp only[execOp,ho,vW,aG];have a0v:w.heap[β b]? =some (.cells (D P ρ B.c).cells B.T (0,0)):=by
      rcases hw with h|h|⟨T',x',b',q',s',i',h,hx,hh⟩|h
      ·omega
      ·exact h.block qQ
      ·rw[ho]at h;cases h;rw[hp]at hx;cases hx;rw[hh];exact qQ
      ·simp[Jp,ho]at h
     rw[EJ hT a0v (by rw[qR];exact h1) (by rw[qR];exact h2)];rfl
    split
    ·rename_i yA;subst yA;simp only[dV,cZ]at run;split
     ·rename_i uB;split
      ·rename_i pP;intro _;refine⟨(by rintro b q t i h;cases h),by omega,_,rfl,fun w hw=> ?_⟩;rw[run w hw pP (by simp[uB]),if_pos uB];congr 2;split
       ·rename_i h;obtain⟨rfl,h⟩:=h;rw[eh,Nat.zero_add,h,<-(m.bl b B hB).2.1];simp
       ·rw[qn rQ]
      ·exact y7 o
     ·rename_i uB;split
      ·rename_i pP;intro _;refine⟨(by rintro b q t i h;cases h),by omega,_,rfl,fun w hw=> ?_⟩;rw[run w hw pP.1 (fun _=>pP.2),if_neg uB,qo rQ]
      ·exact y7 o
    ·rename_i yA;split
     ·rename_i pP;intro hq;have hb:=EO pP.1 (hq (.lt ((B.n-q-P.cellsOf T)/s+1) i) (by simp));refine⟨(by rintro b q t i h;cases h),by omega,_,rfl,fun w hw=> ?_⟩;rw[run w hw hb (fun _=>by omega)];split<;>rfl
     ·exact y7 o
  ·exact y7 o
 ·rename_i x' hx;intro _;refine⟨tD,Ht (by simp[ho]) ?_⟩;simp[ho,Op.operands,show a.eval x=D P ρ x' from m.get hx]
 ·exact y7 o
theorem XE (m:Mt P w0 ρ β st a W) {o:Oper} {T:TypeId} {x y:Operand} (ho:o.op= .store T x y):Snd P ρ β st a W o (Qh P st T x y):=by
 have tD:r8 P o=4:=by simp[r8,ho]
 unfold Qh;split
 ·rename_i b q s i v hp hv;split
  ·rename_i B hB;have rQ:∀r∈(Rq.cells B.n B.c::st.kn),r.holds P ρ:=fun r hr=>by
    rcases aL.1 hr with rfl|hr
    ·exact(m.bl b B hB).2
    ·exact m.kn r hr
   obtain⟨_,qR,uC⟩:=m.bl b B hB;unfold pp;split
   ·exact y7 o
   ·rename_i hT;have hT:z7 P T=true:=by simpa using hT
    have vW:=m.ptr hp;split
    ·rename_i pP;have fin:∀(c:SV),(D P ρ v).cells.size=P.cellsOf T->s8 (D P ρ v).cells->q+s*z6 (D P ρ i)+P.cellsOf T<=B.n->(D P ρ c).cells=spl (D P ρ B.c).cells (q+s*z6 (D P ρ i)) (D P ρ v).cells.toList->qs P ρ β st a W o (.sto b c):=fun c h1 h2 h3 h4=>by
      refine⟨tD,B,hB,?_,?_,fun w hw=> ?_⟩
      ·rw[h4,Xo,qR]
      ·rw[h4];exact EC uC h2
      ·simp only[execOp,ho,vW,m.val hv,aG];rw[EK hT hw (by rw[qR];exact h3) h1 h2,h4];rfl
     split
     ·rename_i yA;subst yA;intro hq;have h1:(D P ρ v).cells.size=P.cellsOf T/\s8 (D P ρ v).cells:=hq (.cells (P.cellsOf T) v) (by simp);refine fin _ h1.1 h1.2 (by simpa using pP) ?_;rw[EE rQ _ _ _ h1.1 _ _ _ qR pP];simp
     ·intro hq;have h1:(D P ρ v).cells.size=P.cellsOf T/\s8 (D P ρ v).cells:=hq (.cells (P.cellsOf T) v) (by simp);exact fin _ h1.1 h1.2 (EO pP (hq (.lt ((B.n-q-P.cellsOf T)/s+1) i) (by simp))) rfl
    ·exact y7 o
  ·exact y7 o
 ·rename_i x' y' hx hy;intro _;refine⟨.inr tD,Ht (by simp[ho]) ?_⟩;simp[ho,Op.operands,show a.eval x=D P ρ x' from m.get hx,m.val hy]
 ·exact y7 o
theorem XF (m:Mt P w0 ρ β st a W) {o:Oper} {S f:Nat} {x:Operand} (ho:o.op= .fieldAddr S x f):Snd P ρ β st a W o (dh P st S x f):=by
 have tD:r8 P o=1:=by simp[r8,ho]
 unfold dh;split
 ·rename_i b q s i hp;split
  ·rename_i fs hS;split
   ·rename_i fd hf;split
    ·exact y7 o
    ·rename_i hn;intro _;have wN:P.cellsOf fd.type≠0:=fun h=>hn (.inl h);have hT:z7 P fd.type=true:=by
      cases h:z7 P fd.type with
      |true=>rfl
      |false=>exact absurd (.inr h) hn
     refine⟨?_,by omega,_,rfl,fun w _=> ?_⟩
     ·rintro b' q' t' i' h;cases h;exact m.ptrB hp
     ·simp only[execOp,ho,m.ptr hp,aG];rw[EL hS hf hT wN];simp only[aE,aT,Nat.add_right_comm]
   ·exact y7 o
  ·exact y7 o
 ·rename_i x' hx;intro _;refine⟨tD,Ht (by simp[ho]) ?_⟩;simp[ho,Op.operands,show a.eval x=D P ρ x' from m.get hx]
 ·exact y7 o
theorem XG (m:Mt P w0 ρ β st a W) {o:Oper} {T:Nat} {x ix:Operand} (ho:o.op= .indexAddr T x ix):Snd P ρ β st a W o (di P st T x ix):=by
 have tD:r8 P o=1:=by simp[r8,ho]
 unfold di;split
 ·rename_i b q s i j hp hj;split
  ·rename_i len e hT;split
   ·exact y7 o
   ·rename_i hn;have hs:s=0:=by
     rcases Nat.eq_zero_or_pos s with h|h
     ·exact h
     ·exact absurd (.inl (by omega)) hn
    have he:z7 P e=true:=by
     cases h:z7 P e with
     |true=>rfl
     |false=>exact absurd (.inr h) hn
    subst hs;have vW:=m.ptr hp;simp only[dV,cZ]at vW;split
    ·rename_i k mm;split
     ·rename_i hb;intro _;refine⟨?_,by omega,_,rfl,fun w _=> ?_⟩
      ·rintro b' q' t' i' h;cases h;exact m.ptrB hp
      ·simp only[execOp,ho,vW,m.val hj,D,aG];rw[qq hT he _ _ _ _ hb.1 hb.2];simp
     ·exact y7 o
    ·split
     ·exact y7 o
     ·intro hq;obtain⟨k,n,hk⟩:∃k n,D P ρ j= .int k n:=hq (.num j) (by simp);obtain⟨h0,h1⟩:0<=intOf (D P ρ j)/\intOf (D P ρ j)<len:=hq (.lt len j) (by simp);refine⟨?_,by omega,_,rfl,fun w _=> ?_⟩
      ·rintro b' q' t' i' h;cases h;exact m.ptrB hp
      ·rw[hk]at h0 h1;simp only[intOf]at h0 h1;simp only[execOp,ho,vW,m.val hj,hk,aG];rw[qq hT he _ _ _ _ h0 h1];simp only[aE,aT,z6,intOf,cE]
  ·exact y7 o
 ·rename_i x' j' hx hj;intro _;refine⟨tD,Ht (by simp[ho]) ?_⟩;simp[ho,Op.operands,show a.eval x=D P ρ x' from m.get hx,m.val hj]
 ·exact y7 o
theorem XH (m:Mt P w0 ρ β st a W) {o:Oper} {S f:Nat} {x:Operand} (ho:o.op= .field S x f):Snd P ρ β st a W o (pq P st S x f):=by
 have tD:r8 P o=0:=by simp[r8,ho]
 unfold pq;split
 ·rename_i x' hx;split
  ·rename_i fs hS;split
   ·rename_i fd hf;split
    ·rename_i pP;intro hq;obtain⟨cs,qI,hn⟩:∃cs,D P ρ x'= .agg cs/\cs.size=P.cellsOf S:=hq (.agg (P.cellsOf S) x') (by simp);refine⟨(by rintro b q t i h;cases h),by omega,_,rfl,fun w _=> ?_⟩;simp only[execOp,ho,m.val hx,qI,aG];rw[WU hS hf pP.2.2 (by rw[hn];exact pP.1) pP.2.1];simp only[aE,aT];congr 2;split
     ·rw[qn m.kn,qI];rfl
     ·rw[qo m.kn,qI];rfl
    ·exact y7 o
   ·exact y7 o
  ·exact y7 o
 ·exact y7 o
theorem XI (m:Mt P w0 ρ β st a W) {o:Oper} {T:Nat} {x ix:Operand} (ho:o.op= .index T x ix):Snd P ρ β st a W o (pt P st T x ix):=by
 unfold pt;split
 ·rename_i x' j hx hj;split
  ·rename_i len e hT;have tD:r8 P o=0:=by simp[r8,ho,hT]
   split
   ·rename_i pP;split
    ·rename_i k mm;split
     ·rename_i hb;intro hq;obtain⟨cs,qI,hn⟩:∃cs,D P ρ x'= .agg cs/\cs.size=P.cellsOf T:=hq (.agg (P.cellsOf T) x') (by simp);refine⟨(by rintro b q t i h;cases h),by omega,_,rfl,fun w _=> ?_⟩;simp only[execOp,ho,m.val hx,m.val hj,qI,D,aG];rw[EM hT pP.2.2 _ _ hb.1 hb.2 (by rw[hn];exact pP.1) pP.2.1];simp only[aE,aT];congr 2;split
      ·rw[qn m.kn,qI];rfl
      ·rw[qo m.kn,qI];rfl
     ·exact y7 o
    ·intro hq;obtain⟨cs,qI,hn⟩:∃cs,D P ρ x'= .agg cs/\cs.size=P.cellsOf T:=hq (.agg (P.cellsOf T) x') (by simp);obtain⟨k,n,hk⟩:∃k n,D P ρ j= .int k n:=hq (.num j) (by simp);obtain⟨h0,h1⟩:0<=intOf (D P ρ j)/\intOf (D P ρ j)<len:=hq (.lt len j) (by simp);refine⟨(by rintro b q t i h;cases h),by omega,_,rfl,fun w _=> ?_⟩;rw[hk]at h0 h1;simp only[intOf]at h0 h1;simp only[execOp,ho,m.val hx,m.val hj,qI,hk,aG];rw[EM hT pP.2.2 _ _ h0 h1 (by rw[hn];exact pP.1) pP.2.1];simp only[aE,aT];congr 2;split<;>simp[D,qI,hk,z6,intOf,Value.cells,cE]
   ·exact y7 o
  ·rename_i hT;intro _;refine⟨by simp[r8,ho,hT],Ht (by simp[ho]) ?_⟩;simp[ho,Op.operands,m.val hx,m.val hj]
  ·exact y7 o
 ·exact y7 o
theorem XJ (m:Mt P w0 ρ β st a W) {o:Oper} {i:Nat} {x:Operand} (ho:o.op= .extract x i):Snd P ρ β st a W o (px st x i):=by
 have tD:r8 P o=0:=by simp[r8,ho]
 unfold px;split
 ·rename_i x' hx;intro hq;obtain⟨vs,hvs,hn⟩:∃vs,D P ρ x'= .tuple vs/\i<vs.size:=hq (.tup i x') (by simp);refine⟨(by rintro b q t i h;cases h),by omega,_,rfl,fun w _=> ?_⟩;simp only[execOp,ho,m.val hx,hvs,Instr.extract,D,Np];simp[hn]
 ·exact y7 o
theorem EQ {T:TypeId} {k:IntKind} (h:Kt P T=some k):P.underlying T=some (.int k):=by
 unfold Kt at h;split at h
 ·rename_i k' hk;simp only[aD]at h;subst h;exact hk
 ·cases h
theorem XK {T:TypeId} (h:cz P T=true):P.underlying T=some .bool:=by
 unfold cz at h;split at h
 ·assumption
 ·cases h
theorem XL (m:Mt P w0 ρ β st a W) {o:Oper} {op:BinOp} {T T':TypeId} {x y:Operand} (ho:o.op= .binOp op T x y T'):Snd P ρ β st a W o (qd P st op T x y):=by
 unfold qd;split
 ·rename_i x' y' hx hy;split
  ·rename_i k hk;have tD:r8 P o=0:=by simp[r8,ho,hk]
   split
   ·rename_i yB;intro hq;obtain⟨n,hn⟩:∃n,D P ρ x'= .int k n:=hq (.int k x') (by simp);obtain⟨l,r,hr⟩:∃l r,D P ρ y'= .int l r:=hq (.num y') (by simp);have h0:0<=intOf (D P ρ y'):=hq (.nn y') (by simp);refine⟨(by rintro b q t i h;cases h),by omega,_,rfl,fun w _=> ?_⟩;rw[hr]at h0;simp only[intOf]at h0;simp only[execOp,ho,m.val hx,m.val hy,hn,hr,D];rw[aG,WW (by simpa[pz]using yB) h0];rfl
   ·rename_i yB;intro hq;obtain⟨n,hn⟩:∃n,D P ρ x'= .int k n:=hq (.int k x') (by simp);obtain⟨r,hr⟩:∃r,D P ρ y'= .int k r:=hq (.int k y') (by simp);refine⟨(by rintro b q t i h;cases h),by omega,_,rfl,fun w _=> ?_⟩;simp only[execOp,ho,m.val hx,m.val hy,hn,hr,D];rw[aG,WV (by simpa[pz]using yB) (fun hd=> ?_)]
    ·rfl
    ·have qB:qc op=true:=by simpa[qc]using hd
     have:=hq (.nz y') (by simp[qB]);simpa[Rq.holds,hr,intOf]using this
  ·rename_i hk;split
   ·rename_i hb;rw[aF]at hb;have tD:r8 P o=0:=by
     have h2:=hb.2;unfold dj at h2;simp[r8,ho,hk,hb.1,h2]
    intro hq;obtain⟨n,hn⟩:∃n,D P ρ x'= .bool n:=hq (.bool x') (by simp);obtain⟨r,hr⟩:∃r,D P ρ y'= .bool r:=hq (.bool y') (by simp);refine⟨(by rintro b q t i h;cases h),by omega,_,rfl,fun w _=> ?_⟩;simp only[execOp,ho,m.val hx,m.val hy,hn,hr,D,Fg];rw[aG,WX (XK hb.1) (by simpa[dj]using hb.2)];rfl
   ·rename_i hb;intro _;have tD:r8 P o=1:=by
     simp only[r8,ho,hk];rw[if_neg];simpa[dj]using hb
    refine⟨tD,Ht (by simp[ho]) ?_⟩;simp[ho,Op.operands,m.val hx,m.val hy]
 ·exact y7 o
theorem XM (m:Mt P w0 ρ β st a W) {o:Oper} {op:UnOp} {T:TypeId} {x:Operand} (ho:o.op= .unOp op T x):Snd P ρ β st a W o (sUn P st op T x):=by
 have tD:r8 P o=0:=by simp[r8,ho]
 unfold sUn;split
 ·rename_i x' hx;cases op with
  |not=>
   intro hq;obtain⟨b,hb⟩:∃b,D P ρ x'= .bool b:=hq (.bool x') (by simp);refine⟨(by rintro b q t i h;cases h),by omega,_,rfl,fun w _=> ?_⟩;have e:D P ρ (qe x')= .bool (!b):=by
    unfold qe;split
    ·simp only[D]at hb⊢;cases hb;rfl
    ·simp[D,hb,Fg]
   simp only[execOp,ho,m.val hx,hb,Op.unary,e];rfl
  |plus=>exact y7 o
  |neg=>
   simp only;split
   ·rename_i k hk;intro hq;obtain⟨n,hn⟩:∃n,D P ρ x'= .int k n:=hq (.int k x') (by simp);refine⟨(by rintro b q t i h;cases h),by omega,_,rfl,fun w _=> ?_⟩;simp only[execOp,ho,m.val hx,hn,Op.unary,D,unV,intOf,Op.intArith];rfl
   ·exact y7 o
  |xor=>
   simp only;split
   ·rename_i k hk;intro hq;obtain⟨n,hn⟩:∃n,D P ρ x'= .int k n:=hq (.int k x') (by simp);refine⟨(by rintro b q t i h;cases h),by omega,_,rfl,fun w _=> ?_⟩;simp only[execOp,ho,m.val hx,hn,Op.unary,D,unV,intOf,Op.intBits];rfl
   ·exact y7 o
 ·exact y7 o
theorem XN (m:Mt P w0 ρ β st a W) {o:Oper} {s d:TypeId} {x:Operand} (ho:o.op= .convert s d x):Snd P ρ β st a W o (qf P st s d x):=by
 unfold qf;split
 ·rename_i x' hx;split
  ·rename_i k l hk hl;have tD:r8 P o=0:=by simp[r8,ho,hk,hl]
   intro hq;obtain⟨n,hn⟩:∃n,D P ρ x'= .int k n:=hq (.int k x') (by simp);refine⟨(by rintro b q t i h;cases h),by omega,_,rfl,fun w _=> ?_⟩;simp only[execOp,ho,m.val hx,hn,convert,aG,run_underlying (EQ hk),run_underlying (EQ hl),aE,D,intOf,Conv.intToInt,aT]
  ·rename_i uU;intro _;have tD:r8 P o=1:=by
    simp only[r8,ho];rw[if_neg];intro h;rw[aF,eU,eU]at h;obtain⟨⟨k,hk⟩,⟨l,hl⟩⟩:=h;exact uU k l hk hl
   refine⟨tD,Ht (by simp[ho]) ?_⟩;simp[ho,Op.operands,m.val hx]
 ·exact y7 o
theorem XO (m:Mt P w0 ρ β st a W) {o:Oper} {c:Call} (ho:o.op= .call c):Snd P ρ β st a W o (qh P st c):=by
 unfold qh;have qD:∀cs b,o.op≠ .select cs b:=by simp[ho]
 split
 ·rename_i f hc;have tD:r8 P o=2:=by
   obtain⟨callee,args,ats⟩:=c;simp only at hc;subst hc;simp[r8,ho]
  split
  ·rename_i l hl;split
   ·rename_i body hb;split
    ·exact y7 o
    ·rename_i hnm;intro _;refine⟨tD,fun w=> ?_⟩;rw[kS]at hb;obtain⟨fn,hf,hb⟩:=hb;have hn:¬fn.name= "runtime.NumGoroutine" :=fun h=>by
      simp only[hf,Option.map_some,h]at hnm;simp at hnm
     have qU:(l.map (D P ρ)).toArray=c.args.map a.eval:=by
      rw[m.vals hl];apply eZ.1;simp
     rw[qU];simp[execOp,ho,resolve,hc,Act.eval,Deferred.ofValue,invoke,callFunc,hf,hn,hb]
   ·intro _;refine⟨tD,fun w=> ?_⟩;have qU:(l.map (D P ρ)).toArray=c.args.map a.eval:=by
     rw[m.vals hl];apply eZ.1;simp
    rw[qU];simp[execOp,ho,resolve,hc,Act.eval,Deferred.ofValue,invoke]
  ·exact y7 o
 ·rename_i b hc;split
  ·rename_i l hl;split
   ·rename_i hq;intro _;refine⟨?_,Ht qD ?_⟩
    ·obtain⟨callee,args,ats⟩:=c;simp only at hc;subst hc;cases b<;>simp[qg]at hq<;>simp[r8,ho]
    ·simp[ho,Op.operands,Call.operands,hc,m.vals hl]
   ·rename_i hq;intro _;refine⟨?_,Ht qD ?_⟩
    ·obtain⟨callee,args,ats⟩:=c;simp only at hc;subst hc;cases b<;>simp[qg]at hq<;>simp[r8,ho]
    ·simp[ho,Op.operands,Call.operands,hc,m.vals hl]
  ·exact y7 o
 ·rename_i f hc uU;split
  ·rename_i l hl;intro _;refine⟨?_,Ht qD ?_⟩
   ·obtain⟨callee,args,ats⟩:=c;simp only at uU;subst uU;simp[r8,ho]
   ·simp[ho,Op.operands,Call.operands,uU,m.vals hl]
  ·exact y7 o
 ·exact y7 o
theorem XP (m:Mt P w0 ρ β st a W) {o:Oper} {op:Op} (ho:o.op=op):Snd P ρ β st a W o (Xj st op):=by
 unfold Xj;split
 ·rename_i l hl;split
  ·rename_i hp;intro _;refine⟨?_,Ht ?_ ?_⟩
   ·cases op<;>simp[dm]at hp<;>simp[r8,ho]
   ·rw[ho];cases op<;>simp[dm]at hp<;>simp
   ·rw[ho];exact m.vals hl
  ·split
   ·rename_i hp;intro _;refine⟨?_,Ht ?_ ?_⟩
    ·cases op<;>simp[dp]at hp<;>simp[r8,ho]
    ·rw[ho];cases op<;>simp[dp]at hp<;>simp
    ·rw[ho];exact m.vals hl
   ·exact y7 o
 ·exact y7 o
theorem XQ (m:Mt P w0 ρ β st a W):∀{parts:List (Nat×Operand)} {ps:List (Nat×SV)},Xh st parts=some ps->parts.map (fun p=>(p.1,a.eval p.2))=ps.map fun p=>(p.1,D P ρ p.2):=by
 intro parts;induction parts with
 |nil=>intro ps h;simp only[Xh,aD]at h;subst h;rfl
 |cons p r ih=>
  intro ps h;obtain⟨i,x⟩:=p;simp only[Xh]at h;split at h
  ·rename_i s l hs hl;simp only[aD]at h;subst h;simp only[aM,ih hl,m.val hs]
  ·cases h
theorem XR {pl:Nat->Option (Nat×Nat)}:∀{ps:List (Nat×SV)} {l:List (Nat×Nat×SV)},Xi pl ps=some l->(∀p∈ps,∃q n,pl p.1=some (q,n)/\(q,n,p.2)∈l)/\
  (∀cs:Array Value,(ps.map fun p=>(p.1,D P ρ p.2)).foldl (fun acc p=>spl acc ((pl p.1).getD (0,0)).1 p.2.cells.toList) cs=l.foldl (fun acc p=>spl acc p.1 (D P ρ p.2.2).cells.toList) cs):=by
 intro ps;induction ps with
 |nil=>intro l h;simp only[Xi,aD]at h;subst h;exact⟨by simp,fun _=>rfl⟩
 |cons p r ih=>
  intro l h;obtain⟨i,x⟩:=p;simp only[Xi]at h;split at h
  ·rename_i q n l' hq hl;simp only[aD]at h;subst h;obtain⟨h1,h2⟩:=ih hl;refine⟨fun p hp=> ?_,fun cs=> ?_⟩
   ·rcases aL.1 hp with rfl|hp
    ·exact⟨q,n,hq,by simp⟩
    ·obtain⟨q',n',vM,hm⟩:=h1 p hp;exact⟨q',n',vM,by simp[hm]⟩
   ·simp only[aM,eP,hq,mL];exact h2 _
  ·cases h
theorem XS (hk:∀r∈st.kn,r.holds P ρ) (sf:Bool) (N:Nat):∀(l:List (Nat×Nat×SV)) (acc:SV),(D P ρ acc).cells.size=N->(∀p∈l,(D P ρ p.2.2).cells.size=p.2.1/\p.1+p.2.1<=N)->
  (D P ρ (l.foldl (fun acc p=>Qf P st.kn sf N p.1 p.2.1 p.2.2 acc) acc)).cells=l.foldl (fun acc p=>spl acc p.1 (D P ρ p.2.2).cells.toList) (D P ρ acc).cells:=by
 intro l;induction l with
 |nil=>intro acc _ _;rfl
 |cons p r ih=>
  intro acc hN hl;obtain⟨h1,h2⟩:=hl p (by simp);have e:=EE hk sf p.2.1 p.2.2 h1 acc N p.1 hN h2;simp only[eP];rw[ih _ (by rw[e,Xo];exact hN) (fun q hq=>hl q (by simp[hq])),e]
theorem XT (m:Mt P w0 ρ β st a W) {o:Oper} {T:TypeId} {parts:Array (Nat×Operand)} (ho:o.op= .build T parts):Snd P ρ β st a W o (pu P st T parts.toList):=by
 have tD:r8 P o=0:=by simp[r8,ho]
 unfold pu;split
 ·rename_i ps pl sO qN;split
  ·rename_i l hl;split
   ·rename_i hc;simp only[aF,List.all_eq_true,decide_eq_true_eq]at hc;obtain⟨⟨sG,rD⟩,vN⟩:=hc;intro hq;have uO:(D P ρ (.z T)).cells.size=P.cellsOf T/\s8 (D P ρ (.z T)).cells:=hq (.cells (P.cellsOf T) (.z T)) (by simp);rw[Option.any_eq_true]at vN;obtain⟨it,hit,hz⟩:=vN;rw[eU]at hz;obtain⟨z,hz⟩:=hz;have hzD:s7 P T=z:=by simp[s7,hit,hz]
    have hzs:z.cells.size=P.cellsOf T:=by rw[<-hzD];exact uO.1
    obtain⟨uP,rE⟩:=XR (P:=P) (ρ:=ρ) hl;have rP:∀p∈l,(D P ρ p.2.2).cells.size=p.2.1:=fun p hp=>(hq (.cells p.2.1 p.2.2) (List.mem_cons_of_mem _ (aH.2 ⟨p,hp,rfl⟩))).1;refine⟨(by rintro b q t i h;cases h),by omega,_,rfl,fun w _=> ?_⟩;have vW:(parts.map fun(i,x)=>(i,a.eval x)).toList=ps.map fun p=>(p.1,D P ρ p.2):=by
     rw[<-XQ m sO];simp
    simp only[execOp,ho,aG];rw[WZ qN rD hit hz]
    ·rw[vW,rE,eh,XS m.kn _ _ l (exZ P T) (by rw[EF,hzD];exact hzs) (fun p hp=>⟨rP p hp,sG p hp⟩),EF,hzD];rfl
    ·rw[vW];intro p hp;rw[aH]at hp;obtain⟨p',hp',rfl⟩:=hp;obtain⟨q,n,vM,hm⟩:=uP p' hp';exact⟨q,n,vM,rP _ hm,by rw[hzs];exact sG _ hm⟩
   ·exact y7 o
  ·exact y7 o
 ·exact y7 o
theorem XU (m:Mt P w0 ρ β st a W) {o:Oper} {op:Op} (ho:o.op=op) (hm:mkB st o=true):Snd P ρ β st a W o (sMk st op):=by
 unfold sMk;split
 ·rename_i l hl;intro _;refine⟨hm,Ht ?_ ?_⟩
  ·rw[ho];unfold mkB at hm;rw[ho]at hm;intro cs b e;subst e;simp at hm
  ·rw[ho];exact m.vals hl
 ·exact y7 o
theorem XV (m:Mt P w0 ρ β st a W) {o:Oper} {op:Op} (ho:o.op=op):Snd P ρ β st a W o (if mkB st o then sMk st op else Xj st op):=by
 split
 ·rename_i h;exact XU m ho h
 ·exact XP m ho
theorem XW (m:Mt P w0 ρ β st a W) (o:Oper):Snd P ρ β st a W o (By P st o):=by
 cases ho:o.op<;>simp only[By,ho]
 case move x=>exact EN m (.inl ho)
 case assign x=>exact EN m (.inr ho)
 case pick c x y=>exact XB m ho
 case alloc T=>exact XC ho
 case box T x=>exact XD m ho
 case load T x=>exact EP m ho
 case store T x y=>exact XE m ho
 case fieldAddr S x f=>exact XF m ho
 case indexAddr T x ix=>exact XG m ho
 case field S x f=>exact XH m ho
 case index T x ix=>exact XI m ho
 case build T parts=>exact XT m ho
 case extract x i=>exact XJ m ho
 case binOp op T x y T'=>exact XL m ho
 case unOp op T x=>exact XM m ho
 case convert s d x=>exact XN m ho
 case call c=>exact XO m ho
 all_goals exact XV m ho
end
end Go.RX

/- Lemmas of the proof. -/
import Derived.Test.YtmannekkmdockaaGreatDoorRxD
open Go.Result renaming andThen_ok->eH
open Go.Sem renaming run_bind->eI,run_pure->eJ
open List renaming foldl_cons->fV
open Option renaming bind_eq_some_iff->lJ,getD_some->nE,isSome_iff_exists->gU
namespace Go.RX
open RowKit
def On (t:Nat):List Operand->List Value->Value
 | .tmp u::os,v::vs=>if u=t then v else On t os vs
 |_::os,_::vs=>On t os vs
 |_,_=>undef
def g8 (os:List Operand) (vs:List Value):Operand->Value
 | .tmp t=>On t os vs
 | .const v=>v
 | .global g=> .pointer (some ⟨g,0,none⟩)
 | .func f=> .func (.func f) #[] #[]
theorem YT (a:Act):∀(os:List Operand) (x:Operand),x∈os->g8 os (os.map a.eval) x=a.eval x:=by
 intro os;induction os with
 |nil=>intro x hx;cases hx
 |cons y os ih=>
  intro x hx;cases x with
  |tmp t=>
   simp only[g8,aN];cases y with
   |tmp u=>
    simp only[On];split
    ·rename_i h;rw[h]
    ·rename_i h;have:Operand.tmp t∈os:=by
      rcases aP.1 hx with e|e
      ·exact absurd (by injection e with e;exact e.symm) h
      ·exact e
     exact ih _ this
   |const v=>
    simp only[On];have:Operand.tmp t∈os:=by
     rcases aP.1 hx with e|e
     ·cases e
     ·exact e
    exact ih _ this
   |global g=>
    simp only[On];have:Operand.tmp t∈os:=by
     rcases aP.1 hx with e|e
     ·cases e
     ·exact e
    exact ih _ this
   |func f=>
    simp only[On];have:Operand.tmp t∈os:=by
     rcases aP.1 hx with e|e
     ·cases e
     ·exact e
    exact ih _ this
  |const v=>rfl
  |global g=>rfl
  |func f=>rfl
def ML (P:Program) (ρ:List Value) (β:Nat->Nat):SL->Value->Prop
 | .x s,v=>v=D P ρ s
 | .p b o s i,v=>v= .pointer (some ⟨β b,o+s*t6 (D P ρ i),none⟩)
 | .u,_=>True
abbrev PH:=Nat->Option Obj
def PH.In (H:PH) (w:World):Prop:=∀b o,H b=some o->w.heap[b]? =some o
def Pl (H H':PH):Prop:=∀b o,H b=some o->H' b=some o
structure Step (H:PH) (w:World) (H':PH) (w':World):Prop where
 os:w'.os=w.os
 tape:w'.tape=w.tape
 output:w'.output=w.output
 size:w.heap.size<=w'.heap.size
 block:∀k,k<w.heap.size->H k=none->w'.heap[k]? =w.heap[k]?
 holds:PH.In H' w'
 dom:∀b,H' b≠none->H b≠none\/w.heap.size<=b
 dr:w.drawn<=w'.drawn
theorem Step.refl {H:PH} {w:World} (h:H.In w):Step H w H w:=⟨rfl,rfl,rfl,aS _,fun _ _ _=>rfl,h,fun _ h=> .inl h,aS _⟩
theorem PH.In.ext {H:PH} {w w':World} (h:H.In w) (hx:Ext w w'):H.In w':=fun b o hb=>hx.block (h b o hb)
theorem Pl.refl (H:PH):Pl H H:=fun _ _ h=>h
theorem Pl.trans {A B C:PH} (h:Pl A B) (k:Pl B C):Pl A C:=fun b o hb=>k b o (h b o hb)
theorem Pl.In {H H':PH} (h:Pl H H') {w:World} (k:H'.In w):H.In w:=fun b o hb=>k b o (h b o hb)
theorem Step.trans {H H' H'':PH} {a b c:World} (h:Step H a H' b) (k:Step H' b H'' c):Step H a H'' c:=by
 refine⟨k.os.trans h.os,k.tape.trans h.tape,k.output.trans h.output,bD h.size k.size,fun i hi hn=> ?_,k.holds,fun i hi=> ?_,bD h.dr k.dr⟩
 ·have sP:H' i=none:=by
   cases e:H' i with
   |none=>rfl
   | some o => rcases h.dom i (by simp [e]) with h1 | h1
               · exact absurd hn h1
               · omega
  rw[k.block i (aU hi h.size) sP,h.block i hi hn]
 ·rcases k.dom i hi with h1|h1
  ·exact h.dom i h1
  ·exact .inr (bD h.size h1)
theorem Step.ext {H H':PH} {a b c:World} (h:Step H a H' b) (k:Ext b c):Step H a H' c:=
 ⟨k.os.trans h.os,k.tape.trans h.tape,k.output.trans h.output,bD h.size k.size,fun i hi hn=>(k.block' (aU hi h.size)).trans (h.block i hi hn),h.holds.ext k,h.dom,bD h.dr k.dr⟩
theorem Step.toExt {H H':PH} {a b:World} (h:Step H a H' b) (ha:H.In a) (hl:Pl H H'):Ext a b:=by
 refine⟨h.os,h.tape,h.output,h.size,fun k hk=> ?_,h.dr⟩;cases e:H k with
 |none=>exact h.block k hk e
 |some o=>rw[h.holds k o (hl k o e),ha k o e]
structure Bs where
 w:World
 H0:PH
 ro:Option Nat
 n0:Nat
 b0:Nat->Nat
 K0:PH
structure Cx extends Bs where
 H:PH
 K:PH
def Qy (D:Nat):Deferred:={target:= .collected D,args:= #[]}
structure Mt (P:Program) (w0:Cx) (ρ:List Value) (β:Nat->Nat) (st:St) (a:Act) (W:World):Prop where
 sz:a.tmps.size=st.sl.length
 sl:∀(t:Nat) (s:SL),st.sl[t]? =some s->∃v,a.tmps[t]? =some v/\ML P ρ β s v
 pb:∀(t b o s:Nat) (i:SV),st.sl[t]? =some (.p b o s i)->b<st.bl.length
 df:∃Ds:List Nat,a.defers=Ds.map Qy/\Ds.Nodup/\∀D∈Ds,w0.w.heap.size<=D/\w0.K D=some (.deferred (some []))
 n:ρ.length=st.n
 bl:∀(b:Nat) (B:Blk),st.bl[b]? =some B->W.heap[β b]? =some (.cells (D P ρ B.c).cells B.T (0,0))/\(D P ρ B.c).cells.size=B.n/\o0 (D P ρ B.c).cells
 inj:∀b b',b<st.bl.length->b'<st.bl.length->β b=β b'->b=b'
 own:∀b,b<st.bl.length->w0.w.heap.size<=β b\/w0.H0 (β b)≠none
 sep:∀b,b<st.bl.length->w0.H (β b)=none
 fr:Step w0.H0 w0.w w0.H W
 kp:w0.K.In W
 rd:st.rd=false->w0.ro=none
 ag:∀b,b<w0.n0->β b=w0.b0 b
 ln:w0.n0<=st.bl.length
 kle:Pl w0.K0 w0.K
 kpH:∀k,w0.K k≠none->w0.H k=none
 kpB:∀b,b<st.bl.length->w0.K (β b)=none
 kn:∀r∈st.kn,r.holds P ρ
 kb:∀p∈st.kb,D P ρ p.1= .bool p.2
section
variable {P:Program} {w0:Cx} {ρ:List Value} {β:Nat->Nat} {st:St} {a:Act} {W:World}
theorem Mt.ext (m:Mt P w0 ρ β st a W) {w:World} (h:Ext W w):Mt P w0 ρ β st a w:=
 {m with
  bl:=fun b B hb=>let⟨h1,h2⟩:=m.bl b B hb;⟨h.block h1,h2⟩
  fr:=m.fr.ext h
  kp:=m.kp.ext h}
theorem Mt.get (m:Mt P w0 ρ β st a W) {x:Operand} {s:SL} (h:st.get x=some s):ML P ρ β s (a.eval x):=by
 cases x with
 |tmp t=>
  obtain⟨v,hv,hm⟩:=m.sl t s h;simp only[Act.eval,cR,hv,nE];exact hm
 |const c=>simp only[St.get,dM]at h;subst h;rfl
 |func f=>simp only[St.get,dM]at h;subst h;rfl
 |global g=>simp only[St.get,dM]at h;subst h;rfl
theorem Mt.val (m:Mt P w0 ρ β st a W) {x:Operand} {s:SV} (h:st.val x=some s):a.eval x=D P ρ s:=by
 unfold St.val at h;split at h
 ·rename_i s' hs;simp only[dM]at h;subst h;exact m.get hs
 ·cases h
theorem Mt.vals (m:Mt P w0 ρ β st a W):∀{l:List Operand} {svs:List SV},Lj st l=some svs->svs.map (D P ρ)=l.map a.eval:=by
 intro l;induction l with
 |nil=>intro svs h;simp only[Lj,dM]at h;subst h;rfl
 |cons x r ih=>
  intro svs h;simp only[Lj]at h;split at h
  ·rename_i s l' hs hl;simp only[dM]at h;subst h;simp only[aN,ih hl,m.val hs]
  ·cases h
theorem Mt.ptr (m:Mt P w0 ρ β st a W) {x:Operand} {b o s:Nat} {i:SV} (h:st.get x=some (.p b o s i)):a.eval x= .pointer (some ⟨β b,o+s*t6 (D P ρ i),none⟩):=m.get h
theorem Mt.ptrB (m:Mt P w0 ρ β st a W) {x:Operand} {b o s:Nat} {i:SV} (h:st.get x=some (.p b o s i)):b<st.bl.length:=by
 cases x with
 |tmp t=>exact m.pb t b o s i h
 |const c=>simp[St.get]at h
 |func f=>simp[St.get]at h
 |global g=>simp[St.get]at h
def Rd (P:Program) (β:Nat->Nat) (st:St) (W:World) (o:Oper) (w:World):Prop:=
 n8 P o=0\/Ext W w\/(∃T x b q s i,o.op= .load T x/\st.get x=some (.p b q s i)/\w.heap[β b]? =W.heap[β b]?)\/Jt st o=true
def uh (P:Program) (ρ:List Value) (β:Nat->Nat) (st:St) (a:Act) (W:World) (o:Oper):Res->Prop
 | .val s=>(∀b q t i,s= .p b q t i->b<st.bl.length)/\n8 P o<=1/\∃v,ML P ρ β s v/\∀w,Rd P β st W o w->(execOp a.eval o).run P w= .ok (.value v) w
 | .new c T n=>n8 P o=3/\(D P ρ c).cells.size=n/\o0 (D P ρ c).cells/\∀w,(execOp a.eval o).run P w= .ok (.value (.pointer (some ⟨w.heap.size,0,none⟩))) (w.alloc (.cells (D P ρ c).cells T))
 | .sto b c=>n8 P o=4/\∃B,st.bl[b]? =some B/\(D P ρ c).cells.size=B.n/\o0 (D P ρ c).cells/\∀w,w.heap[β b]? =some (.cells (D P ρ B.c).cells B.T (0,0))->(execOp a.eval o).run P w= .ok .skip (w.setRow (β b) (D P ρ c).cells)
 | .call f args=>n8 P o=2/\∀w,(execOp a.eval o).run P w= .ok (.enter f (args.map (D P ρ)).toArray) w
 | .prim args=>n8 P o=1/\execOp a.eval o=execOp (g8 o.op.operands.toList (args.map (D P ρ))) o
 | .eff args=>(n8 P o=2\/n8 P o=4)/\execOp a.eval o=execOp (g8 o.op.operands.toList (args.map (D P ρ))) o
 | .ext f args=>n8 P o=2/\∀w,(execOp a.eval o).run P w=(callFunc f (args.map (D P ρ)).toArray).run P w
 | .mk args=>mkB st o=true/\execOp a.eval o=execOp (g8 o.op.operands.toList (args.map (D P ρ))) o
 | .bad=>True
def Snd (P:Program) (ρ:List Value) (β:Nat->Nat) (st:St) (a:Act) (W:World) (o:Oper) (p:List Rq×Res):Prop:=(∀q∈p.1,q.holds P ρ)->uh P ρ β st a W o p.2
theorem x9 (o:Oper):Snd P ρ β st a W o bad:=fun _=>trivial
theorem GE (m:Mt P w0 ρ β st a W) {o:Oper} {x:Operand} (ho:o.op= .move x\/o.op= .assign x):Snd P ρ β st a W o (ei st x):=by
 unfold ei;split
 ·rename_i s hs;intro _;have hk:n8 P o=0:=by rcases ho with h|h<;>simp[n8,h]
  refine⟨?_,aA,a.eval x,m.get hs,fun w _=> ?_⟩
  ·rintro b q t i rfl;exact m.ptrB hs
  ·rcases ho with h|h<;>simp[execOp,h]
 ·exact x9 o
theorem YU (m:Mt P w0 ρ β st a W) {o:Oper} {c x y:Operand} (ho:o.op= .pick c x y):Snd P ρ β st a W o (rk st c x y):=by
 unfold rk;split
 ·rename_i c' x' y' hc hx hy;intro hq;obtain⟨b,hb⟩:∃b,D P ρ c'= .bool b:=hq (.bool c') aD;refine⟨(by rintro b q t i h;cases h),by simp[n8,ho],_,rfl,fun w _=> ?_⟩;rw[YI,uf m.kb,hb];simp only[execOp,ho,m.val hc,m.val hx,m.val hy,hb,asBool,eI,eJ,eH,Gh];cases b<;>rfl
 ·exact x9 o
theorem YV {o:Oper} {T:TypeId} (ho:o.op= .alloc T):Snd P ρ β st a W o (rl P T):=by
 unfold rl;split
 ·rename_i z hz;intro hq;have h1:(D P ρ (.z T)).cells.size=z.cells.size/\o0 (D P ρ (.z T)).cells:=hq (.cells z.cells.size (.z T)) aD;refine⟨by simp[n8,ho],h1.1,h1.2,fun w=> ?_⟩;have hD:D P ρ (.z T)=z:=by simp[D,r8,hz]
  rw[hD];rw[lJ]at hz;obtain⟨i,hi,hz⟩:=hz;simp only[execOp,ho,Instr.alloc,zeroValue,eI,run_typeInfo w hi,eH,hz,newVar,newRow,eJ];rfl
 ·exact x9 o
theorem YW (m:Mt P w0 ρ β st a W) {o:Oper} {T:TypeId} {x:Operand} (ho:o.op= .box T x):Snd P ρ β st a W o (rn P st T x):=by
 unfold rn;split
 ·rename_i x' hx;intro hq;have h1:(D P ρ x').cells.size=P.cellsOf T/\o0 (D P ρ x').cells:=hq (.cells (P.cellsOf T) x') aD;refine⟨by simp[n8,ho],h1.1,h1.2,fun w=> ?_⟩;simp only[execOp,ho,Instr.box,newVar,newRow,eI,eJ,m.val hx];rfl
 ·exact x9 o
theorem Hu {o:Oper} (hs:∀cs b,o.op≠ .select cs b) {svs:List SV} (h:svs.map (D P ρ)=o.op.operands.toList.map a.eval):execOp a.eval o=execOp (g8 o.op.operands.toList (svs.map (D P ρ))) o:=by
 rw[h];exact execOp_congr o hs fun x hx=>(YT a _ x (by simpa using hx)).symm
theorem GF {N q n s:Nat} {i:SV} (hq:q+n<=N) (h:Rq.holds P ρ (.lt ((N-q-n)/s+1) i)):q+s*t6 (D P ρ i)+n<=N:=by
 obtain⟨h0,h1⟩:=h;unfold t6;have h2:(intOf (D P ρ i)).toNat<=(N-q-n)/s:=aA;have h3:s*(intOf (D P ρ i)).toNat<=s*((N-q-n)/s):=cE _ h2;have h4:s*((N-q-n)/s)<=N-q-n:=Nat.mul_div_le _ _;omega
theorem GG (m:Mt P w0 ρ β st a W) {o:Oper} {T:TypeId} {x:Operand} (ho:o.op= .load T x):Snd P ρ β st a W o (Ll P st T x):=by
 have uF:n8 P o=1:=by simp[n8,ho]
 unfold Ll;split
 ·rename_i b q s i hp;split
  ·rename_i B hB;have rX:∀r∈(Rq.cells B.n B.c::st.kn),r.holds P ρ:=fun r hr=>by
    rcases aP.1 hr with rfl|hr
    ·exact(m.bl b B hB).2
    ·exact m.kn r hr
   unfold rp;split
   ·exact x9 o
   ·rename_i hT;have hT:w9 P T=true:=by simpa using hT
    have yA:=m.ptr hp;have run:∀(w:World),Rd P β st W o w->q+s*t6 (D P ρ i)+P.cellsOf T<=B.n->(An P T=false->q+s*t6 (D P ρ i)<B.n)->
      (execOp a.eval o).run P w= .ok (.value (if An P T then .agg ((D P ρ B.c).cells.extract (q+s*t6 (D P ρ i)) (q+s*t6 (D P ρ i)+P.cellsOf T))else(D P ρ B.c).cells.getD (q+s*t6 (D P ρ i)) undef)) w:=fun w hw h1 h2=>by
     obtain⟨qX,rE,yB⟩:=m.bl b B hB;simp only[execOp,ho,yA,eI];have a1f:w.heap[β b]? =some (.cells (D P ρ B.c).cells B.T (0,0)):=by
      rcases hw with h|h|⟨T',x',b',q',s',i',h,hx,hh⟩|h
      ·omega
      ·exact h.block qX
      ·rw[ho]at h;cases h;rw[hp]at hx;cases hx;rw[hh];exact qX
      ·simp[Jt,ho]at h
     rw[FY hT a1f (by rw[rE];exact h1) (by rw[rE];exact h2)];rfl
    split
    ·rename_i zH;subst zH;simp only[cD,eF]at run;split
     ·rename_i uW;split
      ·rename_i pY;intro _;refine⟨(by rintro b q t i h;cases h),aA,_,rfl,fun w hw=> ?_⟩;rw[run w hw pY (by simp[uW]),if_pos uW];congr 2;split
       ·rename_i h;obtain⟨rfl,h⟩:=h;rw[fc,bK,h,<-(m.bl b B hB).2.1];simp
       ·rw[ud rX]
      ·exact x9 o
     ·rename_i uW;split
      ·rename_i pY;intro _;refine⟨(by rintro b q t i h;cases h),aA,_,rfl,fun w hw=> ?_⟩;rw[run w hw pY.1 (fun _=>pY.2),if_neg uW,ue rX]
      ·exact x9 o
    ·rename_i zH;split
     ·rename_i pY;intro hq;have hb:=GF pY.1 (hq (.lt ((B.n-q-P.cellsOf T)/s+1) i) aD);refine⟨(by rintro b q t i h;cases h),aA,_,rfl,fun w hw=> ?_⟩;rw[run w hw hb (fun _=>aA)];split<;>rfl
     ·exact x9 o
  ·exact x9 o
 ·rename_i x' hx;intro _;refine⟨uF,Hu (by simp[ho]) ?_⟩;simp[ho,Op.operands,show a.eval x=D P ρ x' from m.get hx]
 ·exact x9 o
theorem YX (m:Mt P w0 ρ β st a W) {o:Oper} {T:TypeId} {x y:Operand} (ho:o.op= .store T x y):Snd P ρ β st a W o (Qs P st T x y):=by
 have uF:n8 P o=4:=by simp[n8,ho]
 unfold Qs;split
 ·rename_i b q s i v hp hv;split
  ·rename_i B hB;have rX:∀r∈(Rq.cells B.n B.c::st.kn),r.holds P ρ:=fun r hr=>by
    rcases aP.1 hr with rfl|hr
    ·exact(m.bl b B hB).2
    ·exact m.kn r hr
   obtain⟨_,rE,yB⟩:=m.bl b B hB;unfold rx;split
   ·exact x9 o
   ·rename_i hT;have hT:w9 P T=true:=by simpa using hT
    have yA:=m.ptr hp;split
    ·rename_i pY;have fin:∀(c:SV),(D P ρ v).cells.size=P.cellsOf T->o0 (D P ρ v).cells->q+s*t6 (D P ρ i)+P.cellsOf T<=B.n->(D P ρ c).cells=spl (D P ρ B.c).cells (q+s*t6 (D P ρ i)) (D P ρ v).cells.toList->uh P ρ β st a W o (.sto b c):=fun c h1 h2 h3 h4=>by
      refine⟨uF,B,hB,?_,?_,fun w hw=> ?_⟩
      ·rw[h4,Xo,rE]
      ·rw[h4];exact FR yB h2
      ·simp only[execOp,ho,yA,m.val hv,eI];rw[FZ hT hw (by rw[rE];exact h3) h1 h2,h4];rfl
     split
     ·rename_i zH;subst zH;intro hq;have h1:(D P ρ v).cells.size=P.cellsOf T/\o0 (D P ρ v).cells:=hq (.cells (P.cellsOf T) v) aD;refine fin _ h1.1 h1.2 (by simpa using pY) ?_;rw[FT rX _ _ _ h1.1 _ _ _ rE pY];simp
     ·intro hq;have h1:(D P ρ v).cells.size=P.cellsOf T/\o0 (D P ρ v).cells:=hq (.cells (P.cellsOf T) v) aD;exact fin _ h1.1 h1.2 (GF pY (hq (.lt ((B.n-q-P.cellsOf T)/s+1) i) aD)) rfl
    ·exact x9 o
  ·exact x9 o
 ·rename_i x' y' hx hy;intro _;refine⟨.inr uF,Hu (by simp[ho]) ?_⟩;simp[ho,Op.operands,show a.eval x=D P ρ x' from m.get hx,m.val hy]
 ·exact x9 o
theorem YY (m:Mt P w0 ρ β st a W) {o:Oper} {S f:Nat} {x:Operand} (ho:o.op= .fieldAddr S x f):Snd P ρ β st a W o (en P st S x f):=by
 have uF:n8 P o=1:=by simp[n8,ho]
 unfold en;split
 ·rename_i b q s i hp;split
  ·rename_i fs hS;split
   ·rename_i fd hf;split
    ·exact x9 o
    ·rename_i hn;intro _;have yC:P.cellsOf fd.type≠0:=fun h=>hn (.inl h);have hT:w9 P fd.type=true:=by
      cases h:w9 P fd.type with
      |true=>rfl
      |false=>exact absurd (.inr h) hn
     refine⟨?_,aA,_,rfl,fun w _=> ?_⟩
     ·rintro b' q' t' i' h;cases h;exact m.ptrB hp
     ·simp only[execOp,ho,m.ptr hp,eI];rw[GA hS hf hT yC];simp only[eH,eJ,Nat.add_right_comm]
   ·exact x9 o
  ·exact x9 o
 ·rename_i x' hx;intro _;refine⟨uF,Hu (by simp[ho]) ?_⟩;simp[ho,Op.operands,show a.eval x=D P ρ x' from m.get hx]
 ·exact x9 o
theorem YZ (m:Mt P w0 ρ β st a W) {o:Oper} {T:Nat} {x ix:Operand} (ho:o.op= .indexAddr T x ix):Snd P ρ β st a W o (eo P st T x ix):=by
 have uF:n8 P o=1:=by simp[n8,ho]
 unfold eo;split
 ·rename_i b q s i j hp hj;split
  ·rename_i len e hT;split
   ·exact x9 o
   ·rename_i hn;have hs:s=0:=by
     rcases eC s with h|h
     ·exact h
     ·exact absurd (.inl aA) hn
    have he:w9 P e=true:=by
     cases h:w9 P e with
     |true=>rfl
     |false=>exact absurd (.inr h) hn
    subst hs;have yA:=m.ptr hp;simp only[cD,eF]at yA;split
    ·rename_i k mm;split
     ·rename_i hb;intro _;refine⟨?_,aA,_,rfl,fun w _=> ?_⟩
      ·rintro b' q' t' i' h;cases h;exact m.ptrB hp
      ·simp only[execOp,ho,yA,m.val hj,D,eI];rw[ug hT he _ _ _ _ hb.1 hb.2];simp
     ·exact x9 o
    ·split
     ·exact x9 o
     ·intro hq;obtain⟨k,n,hk⟩:∃k n,D P ρ j= .int k n:=hq (.num j) aD;obtain⟨h0,h1⟩:0<=intOf (D P ρ j)/\intOf (D P ρ j)<len:=hq (.lt len j) aD;refine⟨?_,aA,_,rfl,fun w _=> ?_⟩
      ·rintro b' q' t' i' h;cases h;exact m.ptrB hp
      ·rw[hk]at h0 h1;simp only[intOf]at h0 h1;simp only[execOp,ho,yA,m.val hj,hk,eI];rw[ug hT he _ _ _ _ h0 h1];simp only[eH,eJ,t6,intOf,cX]
  ·exact x9 o
 ·rename_i x' j' hx hj;intro _;refine⟨uF,Hu (by simp[ho]) ?_⟩;simp[ho,Op.operands,show a.eval x=D P ρ x' from m.get hx,m.val hj]
 ·exact x9 o
theorem ZA (m:Mt P w0 ρ β st a W) {o:Oper} {S f:Nat} {x:Operand} (ho:o.op= .field S x f):Snd P ρ β st a W o (ry P st S x f):=by
 have uF:n8 P o=0:=by simp[n8,ho]
 unfold ry;split
 ·rename_i x' hx;split
  ·rename_i fs hS;split
   ·rename_i fd hf;split
    ·rename_i pY;intro hq;obtain⟨cs,qM,hn⟩:∃cs,D P ρ x'= .agg cs/\cs.size=P.cellsOf S:=hq (.agg (P.cellsOf S) x') aD;refine⟨(by rintro b q t i h;cases h),aA,_,rfl,fun w _=> ?_⟩;simp only[execOp,ho,m.val hx,qM,eI];rw[YN hS hf pY.2.2 (by rw[hn];exact pY.1) pY.2.1];simp only[eH,eJ];congr 2;split
     ·rw[ud m.kn,qM];rfl
     ·rw[ue m.kn,qM];rfl
    ·exact x9 o
   ·exact x9 o
  ·exact x9 o
 ·exact x9 o
theorem ZB (m:Mt P w0 ρ β st a W) {o:Oper} {T:Nat} {x ix:Operand} (ho:o.op= .index T x ix):Snd P ρ β st a W o (sd P st T x ix):=by
 unfold sd;split
 ·rename_i x' j hx hj;split
  ·rename_i len e hT;have uF:n8 P o=0:=by simp[n8,ho,hT]
   split
   ·rename_i pY;split
    ·rename_i k mm;split
     ·rename_i hb;intro hq;obtain⟨cs,qM,hn⟩:∃cs,D P ρ x'= .agg cs/\cs.size=P.cellsOf T:=hq (.agg (P.cellsOf T) x') aD;refine⟨(by rintro b q t i h;cases h),aA,_,rfl,fun w _=> ?_⟩;simp only[execOp,ho,m.val hx,m.val hj,qM,D,eI];rw[GB hT pY.2.2 _ _ hb.1 hb.2 (by rw[hn];exact pY.1) pY.2.1];simp only[eH,eJ];congr 2;split
      ·rw[ud m.kn,qM];rfl
      ·rw[ue m.kn,qM];rfl
     ·exact x9 o
    ·intro hq;obtain⟨cs,qM,hn⟩:∃cs,D P ρ x'= .agg cs/\cs.size=P.cellsOf T:=hq (.agg (P.cellsOf T) x') aD;obtain⟨k,n,hk⟩:∃k n,D P ρ j= .int k n:=hq (.num j) aD;obtain⟨h0,h1⟩:0<=intOf (D P ρ j)/\intOf (D P ρ j)<len:=hq (.lt len j) aD;refine⟨(by rintro b q t i h;cases h),aA,_,rfl,fun w _=> ?_⟩;rw[hk]at h0 h1;simp only[intOf]at h0 h1;simp only[execOp,ho,m.val hx,m.val hj,qM,hk,eI];rw[GB hT pY.2.2 _ _ h0 h1 (by rw[hn];exact pY.1) pY.2.1];simp only[eH,eJ];congr 2;split<;>simp[D,qM,hk,t6,intOf,Value.cells,cX]
   ·exact x9 o
  ·rename_i hT;intro _;refine⟨by simp[n8,ho,hT],Hu (by simp[ho]) ?_⟩;simp[ho,Op.operands,m.val hx,m.val hj]
  ·exact x9 o
 ·exact x9 o
theorem ZC (m:Mt P w0 ρ β st a W) {o:Oper} {i:Nat} {x:Operand} (ho:o.op= .extract x i):Snd P ρ β st a W o (sk st x i):=by
 have uF:n8 P o=0:=by simp[n8,ho]
 unfold sk;split
 ·rename_i x' hx;intro hq;obtain⟨vs,hvs,hn⟩:∃vs,D P ρ x'= .tuple vs/\i<vs.size:=hq (.tup i x') aD;refine⟨(by rintro b q t i h;cases h),aA,_,rfl,fun w _=> ?_⟩;simp only[execOp,ho,m.val hx,hvs,Instr.extract,D,Gw];simp[hn]
 ·exact x9 o
theorem GH {T:TypeId} {k:IntKind} (h:Lh P T=some k):P.underlying T=some (.int k):=by
 unfold Lh at h;split at h
 ·rename_i k' hk;simp only[dM]at h;subst h;exact hk
 ·cases h
theorem ZD {T:TypeId} (h:eh P T=true):P.underlying T=some .bool:=by
 unfold eh at h;split at h
 ·assumption
 ·cases h
theorem ZE (m:Mt P w0 ρ β st a W) {o:Oper} {op:BinOp} {T T':TypeId} {x y:Operand} (ho:o.op= .binOp op T x y T'):Snd P ρ β st a W o (sx P st op T x y):=by
 unfold sx;split
 ·rename_i x' y' hx hy;split
  ·rename_i k hk;have uF:n8 P o=0:=by simp[n8,ho,hk]
   split
   ·rename_i hsh;intro hq;obtain⟨n,hn⟩:∃n,D P ρ x'= .int k n:=hq (.int k x') aD;obtain⟨l,r,hr⟩:∃l r,D P ρ y'= .int l r:=hq (.num y') aD;have h0:0<=intOf (D P ρ y'):=hq (.nn y') aD;refine⟨(by rintro b q t i h;cases h),aA,_,rfl,fun w _=> ?_⟩;rw[hr]at h0;simp only[intOf]at h0;simp only[execOp,ho,m.val hx,m.val hy,hn,hr,D];rw[eI,YP (by simpa[so]using hsh) h0];rfl
   ·rename_i hsh;intro hq;obtain⟨n,hn⟩:∃n,D P ρ x'= .int k n:=hq (.int k x') aD;obtain⟨r,hr⟩:∃r,D P ρ y'= .int k r:=hq (.int k y') aD;refine⟨(by rintro b q t i h;cases h),aA,_,rfl,fun w _=> ?_⟩;simp only[execOp,ho,m.val hx,m.val hy,hn,hr,D];rw[eI,YO (by simpa[so]using hsh) (fun hd=> ?_)]
    ·rfl
    ·have qZ:sw op=true:=by simpa[sw]using hd
     have:=hq (.nz y') (by simp[qZ]);simpa[Rq.holds,hr,intOf]using this
  ·rename_i hk;split
   ·rename_i hb;rw[bA]at hb;have uF:n8 P o=0:=by
     have h2:=hb.2;unfold ep at h2;simp[n8,ho,hk,hb.1,h2]
    intro hq;obtain⟨n,hn⟩:∃n,D P ρ x'= .bool n:=hq (.bool x') aD;obtain⟨r,hr⟩:∃r,D P ρ y'= .bool r:=hq (.bool y') aD;refine⟨(by rintro b q t i h;cases h),aA,_,rfl,fun w _=> ?_⟩;simp only[execOp,ho,m.val hx,m.val hy,hn,hr,D,Gh];rw[eI,YQ (ZD hb.1) (by simpa[ep]using hb.2)];rfl
   ·rename_i hb;intro _;have uF:n8 P o=1:=by
     simp only[n8,ho,hk];rw[if_neg];simpa[ep]using hb
    refine⟨uF,Hu (by simp[ho]) ?_⟩;simp[ho,Op.operands,m.val hx,m.val hy]
 ·exact x9 o
theorem ZF (m:Mt P w0 ρ β st a W) {o:Oper} {op:UnOp} {T:TypeId} {x:Operand} (ho:o.op= .unOp op T x):Snd P ρ β st a W o (sUn P st op T x):=by
 have uF:n8 P o=0:=by simp[n8,ho]
 unfold sUn;split
 ·rename_i x' hx;cases op with
  |not=>
   intro hq;obtain⟨b,hb⟩:∃b,D P ρ x'= .bool b:=hq (.bool x') aD;refine⟨(by rintro b q t i h;cases h),aA,_,rfl,fun w _=> ?_⟩;have e:D P ρ (sy x')= .bool (!b):=by
    unfold sy;split
    ·simp only[D]at hb⊢;cases hb;rfl
    ·simp[D,hb,Gh]
   simp only[execOp,ho,m.val hx,hb,Op.unary,e];rfl
  |plus=>exact x9 o
  |neg=>
   simp only;split
   ·rename_i k hk;intro hq;obtain⟨n,hn⟩:∃n,D P ρ x'= .int k n:=hq (.int k x') aD;refine⟨(by rintro b q t i h;cases h),aA,_,rfl,fun w _=> ?_⟩;simp only[execOp,ho,m.val hx,hn,Op.unary,D,unV,intOf,Op.intArith];rfl
   ·exact x9 o
  |xor=>
   simp only;split
   ·rename_i k hk;intro hq;obtain⟨n,hn⟩:∃n,D P ρ x'= .int k n:=hq (.int k x') aD;refine⟨(by rintro b q t i h;cases h),aA,_,rfl,fun w _=> ?_⟩;simp only[execOp,ho,m.val hx,hn,Op.unary,D,unV,intOf,Op.intBits];rfl
   ·exact x9 o
 ·exact x9 o
theorem ZG (m:Mt P w0 ρ β st a W) {o:Oper} {s d:TypeId} {x:Operand} (ho:o.op= .convert s d x):Snd P ρ β st a W o (tc P st s d x):=by
 unfold tc;split
 ·rename_i x' hx;split
  ·rename_i k l hk hl;have uF:n8 P o=0:=by simp[n8,ho,hk,hl]
   intro hq;obtain⟨n,hn⟩:∃n,D P ρ x'= .int k n:=hq (.int k x') aD;refine⟨(by rintro b q t i h;cases h),aA,_,rfl,fun w _=> ?_⟩;simp only[execOp,ho,m.val hx,hn,convert,eI,run_underlying (GH hk),run_underlying (GH hl),eH,D,intOf,Conv.intToInt,eJ]
  ·rename_i wA;intro _;have uF:n8 P o=1:=by
    simp only[n8,ho];rw[if_neg];intro h;rw[bA,gU,gU]at h;obtain⟨⟨k,hk⟩,⟨l,hl⟩⟩:=h;exact wA k l hk hl
   refine⟨uF,Hu (by simp[ho]) ?_⟩;simp[ho,Op.operands,m.val hx]
 ·exact x9 o
theorem ZH (m:Mt P w0 ρ β st a W) {o:Oper} {c:Call} (ho:o.op= .call c):Snd P ρ β st a W o (tf P st c):=by
 unfold tf;have qJ:∀cs b,o.op≠ .select cs b:=by simp[ho]
 split
 ·rename_i f hc;have uF:n8 P o=2:=by
   obtain⟨callee,args,ats⟩:=c;simp only at hc;subst hc;simp[n8,ho]
  split
  ·rename_i l hl;split
   ·rename_i body hb;split
    ·exact x9 o
    ·rename_i hnm;intro _;refine⟨uF,fun w=> ?_⟩;rw[lJ]at hb;obtain⟨fn,hf,hb⟩:=hb;have hn:¬fn.name= "runtime.NumGoroutine" :=fun h=>by
      simp only[hf,dF,h]at hnm;simp at hnm
     have rF:(l.map (D P ρ)).toArray=c.args.map a.eval:=by
      rw[m.vals hl];apply cI.1;simp
     rw[rF];simp[execOp,ho,resolve,hc,Act.eval,Deferred.ofValue,invoke,callFunc,hf,hn,hb]
   ·intro _;refine⟨uF,fun w=> ?_⟩;have rF:(l.map (D P ρ)).toArray=c.args.map a.eval:=by
     rw[m.vals hl];apply cI.1;simp
    rw[rF];simp[execOp,ho,resolve,hc,Act.eval,Deferred.ofValue,invoke]
  ·exact x9 o
 ·rename_i b hc;split
  ·rename_i l hl;split
   ·rename_i hq;intro _;refine⟨?_,Hu qJ ?_⟩
    ·obtain⟨callee,args,ats⟩:=c;simp only at hc;subst hc;cases b<;>simp[td]at hq<;>simp[n8,ho]
    ·simp[ho,Op.operands,Call.operands,hc,m.vals hl]
   ·rename_i hq;intro _;refine⟨?_,Hu qJ ?_⟩
    ·obtain⟨callee,args,ats⟩:=c;simp only at hc;subst hc;cases b<;>simp[td]at hq<;>simp[n8,ho]
    ·simp[ho,Op.operands,Call.operands,hc,m.vals hl]
  ·exact x9 o
 ·rename_i f hc wA;split
  ·rename_i l hl;intro _;refine⟨?_,Hu qJ ?_⟩
   ·obtain⟨callee,args,ats⟩:=c;simp only at wA;subst wA;simp[n8,ho]
   ·simp[ho,Op.operands,Call.operands,wA,m.vals hl]
  ·exact x9 o
 ·exact x9 o
theorem ZI (m:Mt P w0 ρ β st a W) {o:Oper} {op:Op} (ho:o.op=op):Snd P ρ β st a W o (Xh st op):=by
 unfold Xh;split
 ·rename_i l hl;split
  ·rename_i hp;intro _;refine⟨?_,Hu ?_ ?_⟩
   ·cases op<;>simp[eq]at hp<;>simp[n8,ho]
   ·rw[ho];cases op<;>simp[eq]at hp<;>simp
   ·rw[ho];exact m.vals hl
  ·split
   ·rename_i hp;intro _;refine⟨?_,Hu ?_ ?_⟩
    ·cases op<;>simp[er]at hp<;>simp[n8,ho]
    ·rw[ho];cases op<;>simp[er]at hp<;>simp
    ·rw[ho];exact m.vals hl
   ·exact x9 o
 ·exact x9 o
theorem ZJ (m:Mt P w0 ρ β st a W):∀{parts:List (Nat×Operand)} {ps:List (Nat×SV)},Xf st parts=some ps->parts.map (fun p=>(p.1,a.eval p.2))=ps.map fun p=>(p.1,D P ρ p.2):=by
 intro parts;induction parts with
 |nil=>intro ps h;simp only[Xf,dM]at h;subst h;rfl
 |cons p r ih=>
  intro ps h;obtain⟨i,x⟩:=p;simp only[Xf]at h;split at h
  ·rename_i s l hs hl;simp only[dM]at h;subst h;simp only[aN,ih hl,m.val hs]
  ·cases h
theorem ZK {pl:Nat->Option (Nat×Nat)}:∀{ps:List (Nat×SV)} {l:List (Nat×Nat×SV)},Xg pl ps=some l->(∀p∈ps,∃q n,pl p.1=some (q,n)/\(q,n,p.2)∈l)/\
  (∀cs:Array Value,(ps.map fun p=>(p.1,D P ρ p.2)).foldl (fun acc p=>spl acc ((pl p.1).getD (0,0)).1 p.2.cells.toList) cs=l.foldl (fun acc p=>spl acc p.1 (D P ρ p.2.2).cells.toList) cs):=by
 intro ps;induction ps with
 |nil=>intro l h;simp only[Xg,dM]at h;subst h;exact⟨aD,fun _=>rfl⟩
 |cons p r ih=>
  intro l h;obtain⟨i,x⟩:=p;simp only[Xg]at h;split at h
  ·rename_i q n l' hq hl;simp only[dM]at h;subst h;obtain⟨h1,h2⟩:=ih hl;refine⟨fun p hp=> ?_,fun cs=> ?_⟩
   ·rcases aP.1 hp with rfl|hp
    ·exact⟨q,n,hq,aD⟩
    ·obtain⟨q',n',vU,hm⟩:=h1 p hp;exact⟨q',n',vU,by simp[hm]⟩
   ·simp only[aN,fV,hq,nE];exact h2 _
  ·cases h
theorem ZL (hk:∀r∈st.kn,r.holds P ρ) (sf:Bool) (N:Nat):∀(l:List (Nat×Nat×SV)) (acc:SV),(D P ρ acc).cells.size=N->(∀p∈l,(D P ρ p.2.2).cells.size=p.2.1/\p.1+p.2.1<=N)->
  (D P ρ (l.foldl (fun acc p=>Qq P st.kn sf N p.1 p.2.1 p.2.2 acc) acc)).cells=l.foldl (fun acc p=>spl acc p.1 (D P ρ p.2.2).cells.toList) (D P ρ acc).cells:=by
 intro l;induction l with
 |nil=>intro acc _ _;rfl
 |cons p r ih=>
  intro acc hN hl;obtain⟨h1,h2⟩:=hl p aD;have e:=FT hk sf p.2.1 p.2.2 h1 acc N p.1 hN h2;simp only[fV];rw[ih _ (by rw[e,Xo];exact hN) (fun q hq=>hl q (by simp[hq])),e]
theorem ZM (m:Mt P w0 ρ β st a W) {o:Oper} {T:TypeId} {parts:Array (Nat×Operand)} (ho:o.op= .build T parts):Snd P ρ β st a W o (si P st T parts.toList):=by
 have uF:n8 P o=0:=by simp[n8,ho]
 unfold si;split
 ·rename_i ps pl tH qS;split
  ·rename_i l hl;split
   ·rename_i hc;simp only[bA,dE,decide_eq_true_eq]at hc;obtain⟨⟨sL,rY⟩,zY⟩:=hc;intro hq;have yD:(D P ρ (.z T)).cells.size=P.cellsOf T/\o0 (D P ρ (.z T)).cells:=hq (.cells (P.cellsOf T) (.z T)) aD;rw[Option.any_eq_true]at zY;obtain⟨it,hit,hz⟩:=zY;rw[gU]at hz;obtain⟨z,hz⟩:=hz;have hzD:r8 P T=z:=by simp[r8,hit,hz]
    have hzs:z.cells.size=P.cellsOf T:=by rw[<-hzD];exact yD.1
    obtain⟨vI,rT⟩:=ZK (P:=P) (ρ:=ρ) hl;have rR:∀p∈l,(D P ρ p.2.2).cells.size=p.2.1:=fun p hp=>(hq (.cells p.2.1 p.2.2) (cF _ (aY.2 ⟨p,hp,rfl⟩))).1;refine⟨(by rintro b q t i h;cases h),aA,_,rfl,fun w _=> ?_⟩;have yA:(parts.map fun(i,x)=>(i,a.eval x)).toList=ps.map fun p=>(p.1,D P ρ p.2):=by
     rw[<-ZJ m tH];simp
    simp only[execOp,ho,eI];rw[YS qS rY hit hz]
    ·rw[yA,rT,fc,ZL m.kn _ _ l (exZ P T) (by rw[FU,hzD];exact hzs) (fun p hp=>⟨rR p hp,sL p hp⟩),FU,hzD];rfl
    ·rw[yA];intro p hp;rw[aY]at hp;obtain⟨p',hp',rfl⟩:=hp;obtain⟨q,n,vU,hm⟩:=vI p' hp';exact⟨q,n,vU,rR _ hm,by rw[hzs];exact sL _ hm⟩
   ·exact x9 o
  ·exact x9 o
 ·exact x9 o
theorem ZN (m:Mt P w0 ρ β st a W) {o:Oper} {op:Op} (ho:o.op=op) (hm:mkB st o=true):Snd P ρ β st a W o (sMk st op):=by
 unfold sMk;split
 ·rename_i l hl;intro _;refine⟨hm,Hu ?_ ?_⟩
  ·rw[ho];unfold mkB at hm;rw[ho]at hm;intro cs b e;subst e;simp at hm
  ·rw[ho];exact m.vals hl
 ·exact x9 o
theorem ZO (m:Mt P w0 ρ β st a W) {o:Oper} {op:Op} (ho:o.op=op):Snd P ρ β st a W o (if mkB st o then sMk st op else Xh st op):=by
 split
 ·rename_i h;exact ZN m ho h
 ·exact ZI m ho
theorem ZP (m:Mt P w0 ρ β st a W) (o:Oper):Snd P ρ β st a W o (Br P st o):=by
 cases ho:o.op<;>simp only[Br,ho]
 case move x=>exact GE m (.inl ho)
 case assign x=>exact GE m (.inr ho)
 case pick c x y=>exact YU m ho
 case alloc T=>exact YV ho
 case box T x=>exact YW m ho
 case load T x=>exact GG m ho
 case store T x y=>exact YX m ho
 case fieldAddr S x f=>exact YY m ho
 case indexAddr T x ix=>exact YZ m ho
 case field S x f=>exact ZA m ho
 case index T x ix=>exact ZB m ho
 case build T parts=>exact ZM m ho
 case extract x i=>exact ZC m ho
 case binOp op T x y T'=>exact ZE m ho
 case unOp op T x=>exact ZF m ho
 case convert s d x=>exact ZG m ho
 case call c=>exact ZH m ho
 all_goals exact ZO m ho
end
end Go.RX

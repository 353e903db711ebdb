/- Lemmas of the proof. -/
import Derived.Test.YtcdnhlplkhldbaaGreatDoorRxD
open Go.Result renaming andThen_ok->eJ
open Go.Sem renaming run_bind->eK,run_pure->eL
open List renaming foldl_cons->gQ,prefix_append->eT
open Nat renaming eq_zero_or_pos->kR
open Option renaming bind_eq_some_iff->jH,getD_some->nD,isSome_iff_exists->fQ,map_eq_some_iff->eZ,some->eX
set_option linter.all false
namespace Go.RX
open RowKit
def Oe (t:Nat):List Operand->List Value->Value
 | .tmp u::os,v::vs=>if u=t then v else Oe t os vs
 |_::os,_::vs=>Oe t os vs
 |_,_=>undef
def e8 (os:List Operand) (vs:List Value):Operand->Value
 | .tmp t=>Oe t os vs
 | .const v=>v
 | .global g=> .pointer (some ⟨g,0,none⟩)
 | .func f=> .func (.func f) #[] #[]
def ZL (a:Act):∀(os:List Operand) (x:Operand),x∈os->e8 os (os.map a.eval) x=a.eval x:=by
 intro os;induction os with
 |nil=>intro x hx;cases hx
 |cons y os ih=>
  intro x hx;cases x with
  |tmp t=>
   simp only[e8,bI];cases y with
   |tmp u=>
    simp only[Oe];split
    ·rename_i h;rw[h]
    ·rename_i h;have:Operand.tmp t∈os:=by
      rcases bG.1 hx with e|e
      ·exact absurd (by injection e with e;exact e.symm) h
      ·exact e
     exact ih _ this
   |const v=>
    simp only[Oe];have:Operand.tmp t∈os:=by
     rcases bG.1 hx with e|e
     ·cases e
     ·exact e
    exact ih _ this
   |global g=>
    simp only[Oe];have:Operand.tmp t∈os:=by
     rcases bG.1 hx with e|e
     ·cases e
     ·exact e
    exact ih _ this
   |func f=>
    simp only[Oe];have:Operand.tmp t∈os:=by
     rcases bG.1 hx with e|e
     ·cases e
     ·exact e
    exact ih _ this
  |const v=>rfl
  |global g=>rfl
  |func f=>rfl
def ML (P:Program) (ρ:List Value) (β:Nat->Nat):SL->Value->Prop
 | .x s,v=>v=D P ρ s
 | .p b o s i,v=>v= .pointer (some ⟨β b,o+s*t6 (D P ρ i),none⟩)
 | .u,_=>True
abbrev PH:=Nat->Option Obj
def PH.In (H:PH) (w:World):Prop:=∀b o,H b=some o->w.heap[b]? =some o
def Pl (H H':PH):Prop:=∀b o,H b=some o->H' b=some o
structure Step (H:PH) (w:World) (H':PH) (w':World):Prop where
 os:w'.os=w.os
 tape:w'.tape=w.tape
 output:w'.output=w.output
 size:w.heap.size<=w'.heap.size
 block:∀k,k<w.heap.size->H k=none->w'.heap[k]? =w.heap[k]?
 holds:PH.In H' w'
 dom:∀b,H' b≠none->H b≠none\/w.heap.size<=b
 dr:w.drawn<=w'.drawn
def Step.refl {H:PH} {w:World} (h:H.In w):Step H w H w:=⟨rfl,rfl,rfl,aS _,fun _ _ _=>rfl,h,fun _ h=> .inl h,aS _⟩
def PH.In.ext {H:PH} {w w':World} (h:H.In w) (hx:Ext w w'):H.In w':=fun b o hb=>hx.block (h b o hb)
def Pl.refl (H:PH):Pl H H:=fun _ _ h=>h
def Pl.trans {A B C:PH} (h:Pl A B) (k:Pl B C):Pl A C:=fun b o hb=>k b o (h b o hb)
def Pl.In {H H':PH} (h:Pl H H') {w:World} (k:H'.In w):H.In w:=fun b o hb=>k b o (h b o hb)
def Step.trans {H H' H'':PH} {a b c:World} (h:Step H a H' b) (k:Step H' b H'' c):Step H a H'' c:=by
 refine⟨k.os.trans h.os,k.tape.trans h.tape,k.output.trans h.output,cK h.size k.size,fun i hi hn=> ?_,k.holds,fun i hi=> ?_,cK h.dr k.dr⟩
 ·have sC:H' i=none:=by
   cases e:H' i with
   |none=>rfl
   | some o => rcases h.dom i (by simp [e]) with h1 | h1
               · exact absurd hn h1
               · omega
  rw[k.block i (aU hi h.size) sC,h.block i hi hn]
 ·rcases k.dom i hi with h1|h1
  ·exact h.dom i h1
  ·exact .inr (cK h.size h1)
def Step.ext {H H':PH} {a b c:World} (h:Step H a H' b) (k:Ext b c):Step H a H' c:=
 ⟨k.os.trans h.os,k.tape.trans h.tape,k.output.trans h.output,cK h.size k.size,fun i hi hn=>(k.block' (aU hi h.size)).trans (h.block i hi hn),h.holds.ext k,h.dom,cK h.dr k.dr⟩
def Step.toExt {H H':PH} {a b:World} (h:Step H a H' b) (ha:H.In a) (hl:Pl H H'):Ext a b:=by
 refine⟨h.os,h.tape,h.output,h.size,fun k hk=> ?_,h.dr⟩;cases e:H k with
 |none=>exact h.block k hk e
 |some o=>rw[h.holds k o (hl k o e),ha k o e]
structure Bs where
 w:World
 H0:PH
 ro:Option Nat
 n0:Nat
 b0:Nat->Nat
 K0:PH
structure Cx extends Bs where
 H:PH
 K:PH
def Kz (D:Nat):Deferred:={target:= .collected D,args:= #[]}
structure Mt (P:Program) (w0:Cx) (ρ:List Value) (β:Nat->Nat) (st:St) (a:Act) (W:World):Prop where
 sz:a.tmps.size=st.sl.length
 sl:∀(t:Nat) (s:SL),st.sl[t]? =some s->∃v,a.tmps[t]? =some v/\ML P ρ β s v
 pb:∀(t b o s:Nat) (i:SV),st.sl[t]? =some (.p b o s i)->b<st.bl.length
 df:∃Ds:List Nat,a.defers=Ds.map Kz/\Ds.Nodup/\∀D∈Ds,w0.w.heap.size<=D/\w0.K D=some (.deferred (some []))
 n:ρ.length=st.n
 bl:∀(b:Nat) (B:Blk),st.bl[b]? =some B->W.heap[β b]? =some (.cells (D P ρ B.c).cells B.T (0,0))/\(D P ρ B.c).cells.size=B.n/\j0 (D P ρ B.c).cells
 inj:∀b b',b<st.bl.length->b'<st.bl.length->β b=β b'->b=b'
 own:∀b,b<st.bl.length->w0.w.heap.size<=β b\/w0.H0 (β b)≠none
 sep:∀b,b<st.bl.length->w0.H (β b)=none
 fr:Step w0.H0 w0.w w0.H W
 kp:w0.K.In W
 rd:st.rd=false->w0.ro=none
 ag:∀b,b<w0.n0->β b=w0.b0 b
 ln:w0.n0<=st.bl.length
 kle:Pl w0.K0 w0.K
 kpH:∀k,w0.K k≠none->w0.H k=none
 kpB:∀b,b<st.bl.length->w0.K (β b)=none
 kn:∀r∈st.kn,r.holds P ρ
 kb:∀p∈st.kb,D P ρ p.1= .bool p.2
section
variable {P:Program} {w0:Cx} {ρ:List Value} {β:Nat->Nat} {st:St} {a:Act} {W:World}
def Mt.ext (m:Mt P w0 ρ β st a W) {w:World} (h:Ext W w):Mt P w0 ρ β st a w:=
 {m with
  bl:=fun b B hb=>let⟨h1,h2⟩:=m.bl b B hb;⟨h.block h1,h2⟩
  fr:=m.fr.ext h
  kp:=m.kp.ext h}
def Mt.get (m:Mt P w0 ρ β st a W) {x:Operand} {s:SL} (h:st.get x=some s):ML P ρ β s (a.eval x):=by
 cases x with
 |tmp t=>
  obtain⟨v,hv,hm⟩:=m.sl t s h;simp only[Act.eval,bD,hv,nD];exact hm
 |const c=>simp only[St.get,cN]at h;subst h;rfl
 |func f=>simp only[St.get,cN]at h;subst h;rfl
 |global g=>simp only[St.get,cN]at h;subst h;rfl
def Mt.val (m:Mt P w0 ρ β st a W) {x:Operand} {s:SV} (h:st.val x=some s):a.eval x=D P ρ s:=by
 unfold St.val at h;split at h
 ·rename_i s' hs;simp only[cN]at h;subst h;exact m.get hs
 ·cases h
def Mt.vals (m:Mt P w0 ρ β st a W):∀{l:List Operand} {svs:List SV},Ku st l=some svs->svs.map (D P ρ)=l.map a.eval:=by
 intro l;induction l with
 |nil=>intro svs h;simp only[Ku,cN]at h;subst h;rfl
 |cons x r ih=>
  intro svs h;simp only[Ku]at h;split at h
  ·rename_i s l' hs hl;simp only[cN]at h;subst h;simp only[bI,ih hl,m.val hs]
  ·cases h
def Mt.ptr (m:Mt P w0 ρ β st a W) {x:Operand} {b o s:Nat} {i:SV} (h:st.get x=some (.p b o s i)):a.eval x= .pointer (some ⟨β b,o+s*t6 (D P ρ i),none⟩):=m.get h
def Mt.ptrB (m:Mt P w0 ρ β st a W) {x:Operand} {b o s:Nat} {i:SV} (h:st.get x=some (.p b o s i)):b<st.bl.length:=by
 cases x with
 |tmp t=>exact m.pb t b o s i h
 |const c=>simp[St.get]at h
 |func f=>simp[St.get]at h
 |global g=>simp[St.get]at h
def Rd (P:Program) (β:Nat->Nat) (st:St) (W:World) (o:Oper) (w:World):Prop:=
 r4 P o=0\/Ext W w\/(∃T x b q s i,o.op= .load T x/\st.get x=some (.p b q s i)/\w.heap[β b]? =W.heap[β b]?)\/Jf st o=true
def ue (P:Program) (ρ:List Value) (β:Nat->Nat) (st:St) (a:Act) (W:World) (o:Oper):Res->Prop
 | .val s=>(∀b q t i,s= .p b q t i->b<st.bl.length)/\r4 P o<=1/\∃v,ML P ρ β s v/\∀w,Rd P β st W o w->(execOp a.eval o).run P w= .ok (.value v) w
 | .new c T n=>r4 P o=3/\(D P ρ c).cells.size=n/\j0 (D P ρ c).cells/\∀w,(execOp a.eval o).run P w= .ok (.value (.pointer (some ⟨w.heap.size,0,none⟩))) (w.alloc (.cells (D P ρ c).cells T))
 | .sto b c=>r4 P o=4/\∃B,st.bl[b]? =some B/\(D P ρ c).cells.size=B.n/\j0 (D P ρ c).cells/\∀w,w.heap[β b]? =some (.cells (D P ρ B.c).cells B.T (0,0))->(execOp a.eval o).run P w= .ok .skip (w.setRow (β b) (D P ρ c).cells)
 | .call f args=>r4 P o=2/\∀w,(execOp a.eval o).run P w= .ok (.enter f (args.map (D P ρ)).toArray) w
 | .prim args=>r4 P o=1/\execOp a.eval o=execOp (e8 o.op.operands.toList (args.map (D P ρ))) o
 | .eff args=>(r4 P o=2\/r4 P o=4)/\execOp a.eval o=execOp (e8 o.op.operands.toList (args.map (D P ρ))) o
 | .ext f args=>r4 P o=2/\∀w,(execOp a.eval o).run P w=(callFunc f (args.map (D P ρ)).toArray).run P w
 | .mk args=>mkB st o=true/\execOp a.eval o=execOp (e8 o.op.operands.toList (args.map (D P ρ))) o
 | .bad=>True
def Snd (P:Program) (ρ:List Value) (β:Nat->Nat) (st:St) (a:Act) (W:World) (o:Oper) (p:List Rq×Res):Prop:=(∀q∈p.1,q.holds P ρ)->ue P ρ β st a W o p.2
def s6 (o:Oper):Snd P ρ β st a W o bad:=fun _=>trivial
def HE (m:Mt P w0 ρ β st a W) {o:Oper} {x:Operand} (ho:o.op= .move x\/o.op= .assign x):Snd P ρ β st a W o (fh st x):=by
 unfold fh;split
 ·rename_i s hs;intro _;have hk:r4 P o=0:=by rcases ho with h|h<;>simp[r4,h]
  refine⟨?_,aA,a.eval x,m.get hs,fun w _=> ?_⟩
  ·rintro b q t i rfl;exact m.ptrB hs
  ·rcases ho with h|h<;>simp[execOp,h]
 ·exact s6 o
def ZM (m:Mt P w0 ρ β st a W) {o:Oper} {c x y:Operand} (ho:o.op= .pick c x y):Snd P ρ β st a W o (qw st c x y):=by
 unfold qw;split
 ·rename_i c' x' y' hc hx hy;intro hq;obtain⟨b,hb⟩:∃b,D P ρ c'= .bool b:=hq (.bool c') aD;refine⟨(by rintro b q t i h;cases h),by simp[r4,ho],_,rfl,fun w _=> ?_⟩;rw[ZA,tu m.kb,hb];simp only[execOp,ho,m.val hc,m.val hx,m.val hy,hb,asBool,eK,eL,eJ,Ep];cases b<;>rfl
 ·exact s6 o
def ZN {o:Oper} {T:TypeId} (ho:o.op= .alloc T):Snd P ρ β st a W o (qz P T):=by
 unfold qz;split
 ·rename_i z hz;intro hq;have h1:(D P ρ (.z T)).cells.size=z.cells.size/\j0 (D P ρ (.z T)).cells:=hq (.cells z.cells.size (.z T)) aD;refine⟨by simp[r4,ho],h1.1,h1.2,fun w=> ?_⟩;have hD:D P ρ (.z T)=z:=by simp[D,j3,hz]
  rw[hD];rw[jH]at hz;obtain⟨i,hi,hz⟩:=hz;simp only[execOp,ho,Instr.alloc,zeroValue,eK,run_typeInfo w hi,eJ,hz,newVar,newRow,eL];rfl
 ·exact s6 o
def ZO (m:Mt P w0 ρ β st a W) {o:Oper} {T:TypeId} {x:Operand} (ho:o.op= .box T x):Snd P ρ β st a W o (rh P st T x):=by
 unfold rh;split
 ·rename_i x' hx;intro hq;have h1:(D P ρ x').cells.size=P.cellsOf T/\j0 (D P ρ x').cells:=hq (.cells (P.cellsOf T) x') aD;refine⟨by simp[r4,ho],h1.1,h1.2,fun w=> ?_⟩;simp only[execOp,ho,Instr.box,newVar,newRow,eK,eL,m.val hx];rfl
 ·exact s6 o
def Gf {o:Oper} (hs:∀cs b,o.op≠ .select cs b) {svs:List SV} (h:svs.map (D P ρ)=o.op.operands.toList.map a.eval):execOp a.eval o=execOp (e8 o.op.operands.toList (svs.map (D P ρ))) o:=by
 rw[h];exact execOp_congr o hs fun x hx=>(ZL a _ x (by simpa using hx)).symm
def HF {N q n s:Nat} {i:SV} (hq:q+n<=N) (h:Rq.holds P ρ (.lt ((N-q-n)/s+1) i)):q+s*t6 (D P ρ i)+n<=N:=by
 obtain⟨h0,h1⟩:=h;unfold t6;have h2:(intOf (D P ρ i)).toNat<=(N-q-n)/s:=aA;have h3:s*(intOf (D P ρ i)).toNat<=s*((N-q-n)/s):=Nat.mul_le_mul_left _ h2;have h4:s*((N-q-n)/s)<=N-q-n:=Nat.mul_div_le _ _;omega
def uf (m:Mt P w0 ρ β st a W) {o:Oper} {T:TypeId} {x:Operand} (ho:o.op= .load T x):Snd P ρ β st a W o (Kv P st T x):=by
 have sS:r4 P o=1:=by simp[r4,ho]
 unfold Kv;split
 ·rename_i b q s i hp;split
  ·rename_i B hB;have sH:∀r∈(Rq.cells B.n B.c::st.kn),r.holds P ρ:=fun r hr=>by
    rcases bG.1 hr with rfl|hr
    ·exact(m.bl b B hB).2
    ·exact m.kn r hr
   unfold rj;split
   ·exact s6 o
   ·rename_i hT;have hT:r9 P T=true:=by simpa using hT
    have uT:=m.ptr hp;have run:∀(w:World),Rd P β st W o w->q+s*t6 (D P ρ i)+P.cellsOf T<=B.n->(r8 P T=false->q+s*t6 (D P ρ i)<B.n)->
      (execOp a.eval o).run P w= .ok (.value (if r8 P T then .agg ((D P ρ B.c).cells.extract (q+s*t6 (D P ρ i)) (q+s*t6 (D P ρ i)+P.cellsOf T))else(D P ρ B.c).cells.getD (q+s*t6 (D P ρ i)) undef)) w:=fun w hw h1 h2=>by
     obtain⟨qU,qZ,wN⟩:=m.bl b B hB;simp only[execOp,ho,uT,eK];have a0q:w.heap[β b]? =some (.cells (D P ρ B.c).cells B.T (0,0)):=by
      rcases hw with h|h|⟨T',x',b',q',s',i',h,hx,hh⟩|h
      ·omega
      ·exact h.block qU
      ·rw[ho]at h;cases h;rw[hp]at hx;cases hx;rw[hh];exact qU
      ·simp[Jf,ho]at h
     rw[Yr hT a0q (by rw[qZ];exact h1) (by rw[qZ];exact h2)];rfl
    split
    ·rename_i hs0;subst hs0;simp only[bV,cJ]at run;split
     ·rename_i tM;split
      ·rename_i pY;intro _;refine⟨(by rintro b q t i h;cases h),aA,_,rfl,fun w hw=> ?_⟩;rw[run w hw pY (by simp[tM]),if_pos tM];congr 2;split
       ·rename_i h;obtain⟨rfl,h⟩:=h;rw[fw,bJ,h,<-(m.bl b B hB).2.1];simp
       ·rw[td sH]
      ·exact s6 o
     ·rename_i tM;split
      ·rename_i pY;intro _;refine⟨(by rintro b q t i h;cases h),aA,_,rfl,fun w hw=> ?_⟩;rw[run w hw pY.1 (fun _=>pY.2),if_neg tM,tn sH]
      ·exact s6 o
    ·rename_i hs0;split
     ·rename_i pY;intro hq;have hb:=HF pY.1 (hq (.lt ((B.n-q-P.cellsOf T)/s+1) i) aD);refine⟨(by rintro b q t i h;cases h),aA,_,rfl,fun w hw=> ?_⟩;rw[run w hw hb (fun _=>aA)];split<;>rfl
     ·exact s6 o
  ·exact s6 o
 ·rename_i x' hx;intro _;refine⟨sS,Gf (by simp[ho]) ?_⟩;simp[ho,Op.operands,show a.eval x=D P ρ x' from m.get hx]
 ·exact s6 o
def ZP (m:Mt P w0 ρ β st a W) {o:Oper} {T:TypeId} {x y:Operand} (ho:o.op= .store T x y):Snd P ρ β st a W o (Qz P st T x y):=by
 have sS:r4 P o=4:=by simp[r4,ho]
 unfold Qz;split
 ·rename_i b q s i v hp hv;split
  ·rename_i B hB;have sH:∀r∈(Rq.cells B.n B.c::st.kn),r.holds P ρ:=fun r hr=>by
    rcases bG.1 hr with rfl|hr
    ·exact(m.bl b B hB).2
    ·exact m.kn r hr
   obtain⟨_,qZ,wN⟩:=m.bl b B hB;unfold rk;split
   ·exact s6 o
   ·rename_i hT;have hT:r9 P T=true:=by simpa using hT
    have uT:=m.ptr hp;split
    ·rename_i pY;have fin:∀(c:SV),(D P ρ v).cells.size=P.cellsOf T->j0 (D P ρ v).cells->q+s*t6 (D P ρ i)+P.cellsOf T<=B.n->(D P ρ c).cells=spl (D P ρ B.c).cells (q+s*t6 (D P ρ i)) (D P ρ v).cells.toList->ue P ρ β st a W o (.sto b c):=fun c h1 h2 h3 h4=>by
      refine⟨sS,B,hB,?_,?_,fun w hw=> ?_⟩
      ·rw[h4,Yp,qZ]
      ·rw[h4];exact GX wN h2
      ·simp only[execOp,ho,uT,m.val hv,eK];rw[ub hT hw (by rw[qZ];exact h3) h1 h2,h4];rfl
     split
     ·rename_i hs0;subst hs0;intro hq;have h1:(D P ρ v).cells.size=P.cellsOf T/\j0 (D P ρ v).cells:=hq (.cells (P.cellsOf T) v) aD;refine fin _ h1.1 h1.2 (by simpa using pY) ?_;rw[GZ sH _ _ _ h1.1 _ _ _ qZ pY];simp
     ·intro hq;have h1:(D P ρ v).cells.size=P.cellsOf T/\j0 (D P ρ v).cells:=hq (.cells (P.cellsOf T) v) aD;exact fin _ h1.1 h1.2 (HF pY (hq (.lt ((B.n-q-P.cellsOf T)/s+1) i) aD)) rfl
    ·exact s6 o
  ·exact s6 o
 ·rename_i x' y' hx hy;intro _;refine⟨.inr sS,Gf (by simp[ho]) ?_⟩;simp[ho,Op.operands,show a.eval x=D P ρ x' from m.get hx,m.val hy]
 ·exact s6 o
def ZQ (m:Mt P w0 ρ β st a W) {o:Oper} {S f:Nat} {x:Operand} (ho:o.op= .fieldAddr S x f):Snd P ρ β st a W o (fi P st S x f):=by
 have sS:r4 P o=1:=by simp[r4,ho]
 unfold fi;split
 ·rename_i b q s i hp;split
  ·rename_i fs hS;split
   ·rename_i fd hf;split
    ·exact s6 o
    ·rename_i hn;intro _;have xF:P.cellsOf fd.type≠0:=fun h=>hn (.inl h);have hT:r9 P fd.type=true:=by
      cases h:r9 P fd.type with
      |true=>rfl
      |false=>exact absurd (.inr h) hn
     refine⟨?_,aA,_,rfl,fun w _=> ?_⟩
     ·rintro b' q' t' i' h;cases h;exact m.ptrB hp
     ·simp only[execOp,ho,m.ptr hp,eK];rw[HC hS hf hT xF];simp only[eJ,eL,Nat.add_right_comm]
   ·exact s6 o
  ·exact s6 o
 ·rename_i x' hx;intro _;refine⟨sS,Gf (by simp[ho]) ?_⟩;simp[ho,Op.operands,show a.eval x=D P ρ x' from m.get hx]
 ·exact s6 o
def ZR (m:Mt P w0 ρ β st a W) {o:Oper} {T:Nat} {x ix:Operand} (ho:o.op= .indexAddr T x ix):Snd P ρ β st a W o (fj P st T x ix):=by
 have sS:r4 P o=1:=by simp[r4,ho]
 unfold fj;split
 ·rename_i b q s i j hp hj;split
  ·rename_i len e hT;split
   ·exact s6 o
   ·rename_i hn;have hs:s=0:=by
     rcases kR s with h|h
     ·exact h
     ·exact absurd (.inl aA) hn
    have he:r9 P e=true:=by
     cases h:r9 P e with
     |true=>rfl
     |false=>exact absurd (.inr h) hn
    subst hs;have uT:=m.ptr hp;simp only[bV,cJ]at uT;split
    ·rename_i k mm;split
     ·rename_i hb;intro _;refine⟨?_,aA,_,rfl,fun w _=> ?_⟩
      ·rintro b' q' t' i' h;cases h;exact m.ptrB hp
      ·simp only[execOp,ho,uT,m.val hj,D,eK];rw[ud hT he _ _ _ _ hb.1 hb.2];simp
     ·exact s6 o
    ·split
     ·exact s6 o
     ·intro hq;obtain⟨k,n,hk⟩:∃k n,D P ρ j= .int k n:=hq (.num j) aD;obtain⟨h0,h1⟩:0<=intOf (D P ρ j)/\intOf (D P ρ j)<len:=hq (.lt len j) aD;refine⟨?_,aA,_,rfl,fun w _=> ?_⟩
      ·rintro b' q' t' i' h;cases h;exact m.ptrB hp
      ·rw[hk]at h0 h1;simp only[intOf]at h0 h1;simp only[execOp,ho,uT,m.val hj,hk,eK];rw[ud hT he _ _ _ _ h0 h1];simp only[eJ,eL,t6,intOf,eF]
  ·exact s6 o
 ·rename_i x' j' hx hj;intro _;refine⟨sS,Gf (by simp[ho]) ?_⟩;simp[ho,Op.operands,show a.eval x=D P ρ x' from m.get hx,m.val hj]
 ·exact s6 o
def ZS (m:Mt P w0 ρ β st a W) {o:Oper} {S f:Nat} {x:Operand} (ho:o.op= .field S x f):Snd P ρ β st a W o (rl P st S x f):=by
 have sS:r4 P o=0:=by simp[r4,ho]
 unfold rl;split
 ·rename_i x' hx;split
  ·rename_i fs hS;split
   ·rename_i fd hf;split
    ·rename_i pY;intro hq;obtain⟨cs,qR,hn⟩:∃cs,D P ρ x'= .agg cs/\cs.size=P.cellsOf S:=hq (.agg (P.cellsOf S) x') aD;refine⟨(by rintro b q t i h;cases h),aA,_,rfl,fun w _=> ?_⟩;simp only[execOp,ho,m.val hx,qR,eK];rw[ZF hS hf pY.2.2 (by rw[hn];exact pY.1) pY.2.1];simp only[eJ,eL];congr 2;split
     ·rw[td m.kn,qR];rfl
     ·rw[tn m.kn,qR];rfl
    ·exact s6 o
   ·exact s6 o
  ·exact s6 o
 ·exact s6 o
def ZT (m:Mt P w0 ρ β st a W) {o:Oper} {T:Nat} {x ix:Operand} (ho:o.op= .index T x ix):Snd P ρ β st a W o (rn P st T x ix):=by
 unfold rn;split
 ·rename_i x' j hx hj;split
  ·rename_i len e hT;have sS:r4 P o=0:=by simp[r4,ho,hT]
   split
   ·rename_i pY;split
    ·rename_i k mm;split
     ·rename_i hb;intro hq;obtain⟨cs,qR,hn⟩:∃cs,D P ρ x'= .agg cs/\cs.size=P.cellsOf T:=hq (.agg (P.cellsOf T) x') aD;refine⟨(by rintro b q t i h;cases h),aA,_,rfl,fun w _=> ?_⟩;simp only[execOp,ho,m.val hx,m.val hj,qR,D,eK];rw[HD hT pY.2.2 _ _ hb.1 hb.2 (by rw[hn];exact pY.1) pY.2.1];simp only[eJ,eL];congr 2;split
      ·rw[td m.kn,qR];rfl
      ·rw[tn m.kn,qR];rfl
     ·exact s6 o
    ·intro hq;obtain⟨cs,qR,hn⟩:∃cs,D P ρ x'= .agg cs/\cs.size=P.cellsOf T:=hq (.agg (P.cellsOf T) x') aD;obtain⟨k,n,hk⟩:∃k n,D P ρ j= .int k n:=hq (.num j) aD;obtain⟨h0,h1⟩:0<=intOf (D P ρ j)/\intOf (D P ρ j)<len:=hq (.lt len j) aD;refine⟨(by rintro b q t i h;cases h),aA,_,rfl,fun w _=> ?_⟩;rw[hk]at h0 h1;simp only[intOf]at h0 h1;simp only[execOp,ho,m.val hx,m.val hj,qR,hk,eK];rw[HD hT pY.2.2 _ _ h0 h1 (by rw[hn];exact pY.1) pY.2.1];simp only[eJ,eL];congr 2;split<;>simp[D,qR,hk,t6,intOf,Value.cells,eF]
   ·exact s6 o
  ·rename_i hT;intro _;refine⟨by simp[r4,ho,hT],Gf (by simp[ho]) ?_⟩;simp[ho,Op.operands,m.val hx,m.val hj]
  ·exact s6 o
 ·exact s6 o
def ZU (m:Mt P w0 ρ β st a W) {o:Oper} {i:Nat} {x:Operand} (ho:o.op= .extract x i):Snd P ρ β st a W o (ry st x i):=by
 have sS:r4 P o=0:=by simp[r4,ho]
 unfold ry;split
 ·rename_i x' hx;intro hq;obtain⟨vs,hvs,hn⟩:∃vs,D P ρ x'= .tuple vs/\i<vs.size:=hq (.tup i x') aD;refine⟨(by rintro b q t i h;cases h),aA,_,rfl,fun w _=> ?_⟩;simp only[execOp,ho,m.val hx,hvs,Instr.extract,D,Ks];simp[hn]
 ·exact s6 o
def HG {T:TypeId} {k:IntKind} (h:Kt P T=some k):P.underlying T=some (.int k):=by
 unfold Kt at h;split at h
 ·rename_i k' hk;simp only[cN]at h;subst h;exact hk
 ·cases h
def ZV {T:TypeId} (h:fg P T=true):P.underlying T=some .bool:=by
 unfold fg at h;split at h
 ·assumption
 ·cases h
def ZW (m:Mt P w0 ρ β st a W) {o:Oper} {op:BinOp} {T T':TypeId} {x y:Operand} (ho:o.op= .binOp op T x y T'):Snd P ρ β st a W o (si P st op T x y):=by
 unfold si;split
 ·rename_i x' y' hx hy;split
  ·rename_i k hk;have sS:r4 P o=0:=by simp[r4,ho,hk]
   split
   ·rename_i hsh;intro hq;obtain⟨n,hn⟩:∃n,D P ρ x'= .int k n:=hq (.int k x') aD;obtain⟨l,r,hr⟩:∃l r,D P ρ y'= .int l r:=hq (.num y') aD;have h0:0<=intOf (D P ρ y'):=hq (.nn y') aD;refine⟨(by rintro b q t i h;cases h),aA,_,rfl,fun w _=> ?_⟩;rw[hr]at h0;simp only[intOf]at h0;simp only[execOp,ho,m.val hx,m.val hy,hn,hr,D];rw[eK,ZH (by simpa[sd]using hsh) h0];rfl
   ·rename_i hsh;intro hq;obtain⟨n,hn⟩:∃n,D P ρ x'= .int k n:=hq (.int k x') aD;obtain⟨r,hr⟩:∃r,D P ρ y'= .int k r:=hq (.int k y') aD;refine⟨(by rintro b q t i h;cases h),aA,_,rfl,fun w _=> ?_⟩;simp only[execOp,ho,m.val hx,m.val hy,hn,hr,D];rw[eK,ZG (by simpa[sd]using hsh) (fun hd=> ?_)]
    ·rfl
    ·have qS:sh op=true:=by simpa[sh]using hd
     have:=hq (.nz y') (by simp[qS]);simpa[Rq.holds,hr,intOf]using this
  ·rename_i hk;split
   ·rename_i hb;rw[aQ]at hb;have sS:r4 P o=0:=by
     have h2:=hb.2;unfold fk at h2;simp[r4,ho,hk,hb.1,h2]
    intro hq;obtain⟨n,hn⟩:∃n,D P ρ x'= .bool n:=hq (.bool x') aD;obtain⟨r,hr⟩:∃r,D P ρ y'= .bool r:=hq (.bool y') aD;refine⟨(by rintro b q t i h;cases h),aA,_,rfl,fun w _=> ?_⟩;simp only[execOp,ho,m.val hx,m.val hy,hn,hr,D,Ep];rw[eK,ZI (ZV hb.1) (by simpa[fk]using hb.2)];rfl
   ·rename_i hb;intro _;have sS:r4 P o=1:=by
     simp only[r4,ho,hk];rw[if_neg];simpa[fk]using hb
    refine⟨sS,Gf (by simp[ho]) ?_⟩;simp[ho,Op.operands,m.val hx,m.val hy]
 ·exact s6 o
def ZX (m:Mt P w0 ρ β st a W) {o:Oper} {op:UnOp} {T:TypeId} {x:Operand} (ho:o.op= .unOp op T x):Snd P ρ β st a W o (sUn P st op T x):=by
 have sS:r4 P o=0:=by simp[r4,ho]
 unfold sUn;split
 ·rename_i x' hx;cases op with
  |not=>
   intro hq;obtain⟨b,hb⟩:∃b,D P ρ x'= .bool b:=hq (.bool x') aD;refine⟨(by rintro b q t i h;cases h),aA,_,rfl,fun w _=> ?_⟩;have e:D P ρ (sj x')= .bool (!b):=by
    unfold sj;split
    ·simp only[D]at hb⊢;cases hb;rfl
    ·simp[D,hb,Ep]
   simp only[execOp,ho,m.val hx,hb,Op.unary,e];rfl
  |plus=>exact s6 o
  |neg=>
   simp only;split
   ·rename_i k hk;intro hq;obtain⟨n,hn⟩:∃n,D P ρ x'= .int k n:=hq (.int k x') aD;refine⟨(by rintro b q t i h;cases h),aA,_,rfl,fun w _=> ?_⟩;simp only[execOp,ho,m.val hx,hn,Op.unary,D,unV,intOf,Op.intArith];rfl
   ·exact s6 o
  |xor=>
   simp only;split
   ·rename_i k hk;intro hq;obtain⟨n,hn⟩:∃n,D P ρ x'= .int k n:=hq (.int k x') aD;refine⟨(by rintro b q t i h;cases h),aA,_,rfl,fun w _=> ?_⟩;simp only[execOp,ho,m.val hx,hn,Op.unary,D,unV,intOf,Op.intBits];rfl
   ·exact s6 o
 ·exact s6 o
def ZY (m:Mt P w0 ρ β st a W) {o:Oper} {s d:TypeId} {x:Operand} (ho:o.op= .convert s d x):Snd P ρ β st a W o (sk P st s d x):=by
 unfold sk;split
 ·rename_i x' hx;split
  ·rename_i k l hk hl;have sS:r4 P o=0:=by simp[r4,ho,hk,hl]
   intro hq;obtain⟨n,hn⟩:∃n,D P ρ x'= .int k n:=hq (.int k x') aD;refine⟨(by rintro b q t i h;cases h),aA,_,rfl,fun w _=> ?_⟩;simp only[execOp,ho,m.val hx,hn,convert,eK,run_underlying (HG hk),run_underlying (HG hl),eJ,D,intOf,Conv.intToInt,eL]
  ·rename_i vA;intro _;have sS:r4 P o=1:=by
    simp only[r4,ho];rw[if_neg];intro h;rw[aQ,fQ,fQ]at h;obtain⟨⟨k,hk⟩,⟨l,hl⟩⟩:=h;exact vA k l hk hl
   refine⟨sS,Gf (by simp[ho]) ?_⟩;simp[ho,Op.operands,m.val hx]
 ·exact s6 o
def ZZ (m:Mt P w0 ρ β st a W) {o:Oper} {c:Call} (ho:o.op= .call c):Snd P ρ β st a W o (sr P st c):=by
 unfold sr;have qK:∀cs b,o.op≠ .select cs b:=by simp[ho]
 split
 ·rename_i f hc;have sS:r4 P o=2:=by
   obtain⟨callee,args,ats⟩:=c;simp only at hc;subst hc;simp[r4,ho]
  split
  ·rename_i l hl;split
   ·rename_i body hb;split
    ·exact s6 o
    ·rename_i hnm;intro _;refine⟨sS,fun w=> ?_⟩;rw[jH]at hb;obtain⟨fn,hf,hb⟩:=hb;have hn:¬fn.name= "runtime.NumGoroutine" :=fun h=>by
      simp only[hf,cR,h]at hnm;simp at hnm
     have qW:(l.map (D P ρ)).toArray=c.args.map a.eval:=by
      rw[m.vals hl];apply bS.1;simp
     rw[qW];simp[execOp,ho,resolve,hc,Act.eval,Deferred.ofValue,invoke,callFunc,hf,hn,hb]
   ·intro _;refine⟨sS,fun w=> ?_⟩;have qW:(l.map (D P ρ)).toArray=c.args.map a.eval:=by
     rw[m.vals hl];apply bS.1;simp
    rw[qW];simp[execOp,ho,resolve,hc,Act.eval,Deferred.ofValue,invoke]
  ·exact s6 o
 ·rename_i b hc;split
  ·rename_i l hl;split
   ·rename_i hq;intro _;refine⟨?_,Gf qK ?_⟩
    ·obtain⟨callee,args,ats⟩:=c;simp only at hc;subst hc;cases b<;>simp[so]at hq<;>simp[r4,ho]
    ·simp[ho,Op.operands,Call.operands,hc,m.vals hl]
   ·rename_i hq;intro _;refine⟨?_,Gf qK ?_⟩
    ·obtain⟨callee,args,ats⟩:=c;simp only at hc;subst hc;cases b<;>simp[so]at hq<;>simp[r4,ho]
    ·simp[ho,Op.operands,Call.operands,hc,m.vals hl]
  ·exact s6 o
 ·rename_i f hc vA;split
  ·rename_i l hl;intro _;refine⟨?_,Gf qK ?_⟩
   ·obtain⟨callee,args,ats⟩:=c;simp only at vA;subst vA;simp[r4,ho]
   ·simp[ho,Op.operands,Call.operands,vA,m.vals hl]
  ·exact s6 o
 ·exact s6 o
def A0 (m:Mt P w0 ρ β st a W) {o:Oper} {op:Op} (ho:o.op=op):Snd P ρ β st a W o (Yi st op):=by
 unfold Yi;split
 ·rename_i l hl;split
  ·rename_i hp;intro _;refine⟨?_,Gf ?_ ?_⟩
   ·cases op<;>simp[fl]at hp<;>simp[r4,ho]
   ·rw[ho];cases op<;>simp[fl]at hp<;>simp
   ·rw[ho];exact m.vals hl
  ·split
   ·rename_i hp;intro _;refine⟨?_,Gf ?_ ?_⟩
    ·cases op<;>simp[fm]at hp<;>simp[r4,ho]
    ·rw[ho];cases op<;>simp[fm]at hp<;>simp
    ·rw[ho];exact m.vals hl
   ·exact s6 o
 ·exact s6 o
def A1 (m:Mt P w0 ρ β st a W):∀{parts:List (Nat×Operand)} {ps:List (Nat×SV)},Yg st parts=some ps->parts.map (fun p=>(p.1,a.eval p.2))=ps.map fun p=>(p.1,D P ρ p.2):=by
 intro parts;induction parts with
 |nil=>intro ps h;simp only[Yg,cN]at h;subst h;rfl
 |cons p r ih=>
  intro ps h;obtain⟨i,x⟩:=p;simp only[Yg]at h;split at h
  ·rename_i s l hs hl;simp only[cN]at h;subst h;simp only[bI,ih hl,m.val hs]
  ·cases h
def A2 {pl:Nat->Option (Nat×Nat)}:∀{ps:List (Nat×SV)} {l:List (Nat×Nat×SV)},Yh pl ps=some l->(∀p∈ps,∃q n,pl p.1=some (q,n)/\(q,n,p.2)∈l)/\
  (∀cs:Array Value,(ps.map fun p=>(p.1,D P ρ p.2)).foldl (fun acc p=>spl acc ((pl p.1).getD (0,0)).1 p.2.cells.toList) cs=l.foldl (fun acc p=>spl acc p.1 (D P ρ p.2.2).cells.toList) cs):=by
 intro ps;induction ps with
 |nil=>intro l h;simp only[Yh,cN]at h;subst h;exact⟨aD,fun _=>rfl⟩
 |cons p r ih=>
  intro l h;obtain⟨i,x⟩:=p;simp only[Yh]at h;split at h
  ·rename_i q n l' hq hl;simp only[cN]at h;subst h;obtain⟨h1,h2⟩:=ih hl;refine⟨fun p hp=> ?_,fun cs=> ?_⟩
   ·rcases bG.1 hp with rfl|hp
    ·exact⟨q,n,hq,aD⟩
    ·obtain⟨q',n',yS,hm⟩:=h1 p hp;exact⟨q',n',yS,by simp[hm]⟩
   ·simp only[bI,gQ,hq,nD];exact h2 _
  ·cases h
def A3 (hk:∀r∈st.kn,r.holds P ρ) (sf:Bool) (N:Nat):∀(l:List (Nat×Nat×SV)) (acc:SV),(D P ρ acc).cells.size=N->(∀p∈l,(D P ρ p.2.2).cells.size=p.2.1/\p.1+p.2.1<=N)->
  (D P ρ (l.foldl (fun acc p=>Qx P st.kn sf N p.1 p.2.1 p.2.2 acc) acc)).cells=l.foldl (fun acc p=>spl acc p.1 (D P ρ p.2.2).cells.toList) (D P ρ acc).cells:=by
 intro l;induction l with
 |nil=>intro acc _ _;rfl
 |cons p r ih=>
  intro acc hN hl;obtain⟨h1,h2⟩:=hl p aD;have e:=GZ hk sf p.2.1 p.2.2 h1 acc N p.1 hN h2;simp only[gQ];rw[ih _ (by rw[e,Yp];exact hN) (fun q hq=>hl q (by simp[hq])),e]
def A4 (m:Mt P w0 ρ β st a W) {o:Oper} {T:TypeId} {parts:Array (Nat×Operand)} (ho:o.op= .build T parts):Snd P ρ β st a W o (rx P st T parts.toList):=by
 have sS:r4 P o=0:=by simp[r4,ho]
 unfold rx;split
 ·rename_i ps pl uH tQ;split
  ·rename_i l hl;split
   ·rename_i hc;simp only[aQ,cH,decide_eq_true_eq]at hc;obtain⟨⟨rX,rR⟩,uU⟩:=hc;intro hq;have hz0:(D P ρ (.z T)).cells.size=P.cellsOf T/\j0 (D P ρ (.z T)).cells:=hq (.cells (P.cellsOf T) (.z T)) aD;rw[Option.any_eq_true]at uU;obtain⟨it,hit,hz⟩:=uU;rw[fQ]at hz;obtain⟨z,hz⟩:=hz;have hzD:j3 P T=z:=by simp[j3,hit,hz]
    have hzs:z.cells.size=P.cellsOf T:=by rw[<-hzD];exact hz0.1
    obtain⟨tZ,rP⟩:=A2 (P:=P) (ρ:=ρ) hl;have rN:∀p∈l,(D P ρ p.2.2).cells.size=p.2.1:=fun p hp=>(hq (.cells p.2.1 p.2.2) (List.mem_cons_of_mem _ (aZ.2 ⟨p,hp,rfl⟩))).1;refine⟨(by rintro b q t i h;cases h),aA,_,rfl,fun w _=> ?_⟩;have uT:(parts.map fun(i,x)=>(i,a.eval x)).toList=ps.map fun p=>(p.1,D P ρ p.2):=by
     rw[<-A1 m uH];simp
    simp only[execOp,ho,eK];rw[ZK tQ rR hit hz]
    ·rw[uT,rP,fw,A3 m.kn _ _ l (exZ P T) (by rw[HA,hzD];exact hzs) (fun p hp=>⟨rN p hp,rX p hp⟩),HA,hzD];rfl
    ·rw[uT];intro p hp;rw[aZ]at hp;obtain⟨p',hp',rfl⟩:=hp;obtain⟨q,n,yS,hm⟩:=tZ p' hp';exact⟨q,n,yS,rN _ hm,by rw[hzs];exact rX _ hm⟩
   ·exact s6 o
  ·exact s6 o
 ·exact s6 o
def A5 (m:Mt P w0 ρ β st a W) {o:Oper} {op:Op} (ho:o.op=op) (hm:mkB st o=true):Snd P ρ β st a W o (sMk st op):=by
 unfold sMk;split
 ·rename_i l hl;intro _;refine⟨hm,Gf ?_ ?_⟩
  ·rw[ho];unfold mkB at hm;rw[ho]at hm;intro cs b e;subst e;simp at hm
  ·rw[ho];exact m.vals hl
 ·exact s6 o
def A6 (m:Mt P w0 ρ β st a W) {o:Oper} {op:Op} (ho:o.op=op):Snd P ρ β st a W o (if mkB st o then sMk st op else Yi st op):=by
 split
 ·rename_i h;exact A5 m ho h
 ·exact A0 m ho
def A7 (m:Mt P w0 ρ β st a W) (o:Oper):Snd P ρ β st a W o (Av P st o):=by
 cases ho:o.op<;>simp only[Av,ho]
 case move x=>exact HE m (.inl ho)
 case assign x=>exact HE m (.inr ho)
 case pick c x y=>exact ZM m ho
 case alloc T=>exact ZN ho
 case box T x=>exact ZO m ho
 case load T x=>exact uf m ho
 case store T x y=>exact ZP m ho
 case fieldAddr S x f=>exact ZQ m ho
 case indexAddr T x ix=>exact ZR m ho
 case field S x f=>exact ZS m ho
 case index T x ix=>exact ZT m ho
 case build T parts=>exact A4 m ho
 case extract x i=>exact ZU m ho
 case binOp op T x y T'=>exact ZW m ho
 case unOp op T x=>exact ZX m ho
 case convert s d x=>exact ZY m ho
 case call c=>exact ZZ m ho
 all_goals exact A6 m ho
end
def Ab:List Value->Value
 |[x]=>x
 |l=> .tuple l.toArray
def PH.put (H:PH) (b:Nat) (o:Obj):PH:=fun k=>if k=b then some o else H k
def PH.or (X K:PH):PH:=fun b=>match X b with|some o=>some o|none=>K b
def Disj (X K:PH):Prop:=∀b,X b≠none->K b=none
def n8 (P:Program) (f:FuncId):Bool:=match P.funcs[f]? with|some fn=>fn.body.isSome&& !(fn.name== "runtime.NumGoroutine")|none=>false
def La {P:Program} {f:FuncId} (h:n8 P f=true) (args:Array Value) (w:World):(callFunc f args).run P w= .ok (.enter f args) w:=by
 unfold n8 at h;split at h
 ·rename_i fn hf;rw[aQ]at h;obtain⟨h1,h2⟩:=h;unfold callFunc;have h2:(fn.name== "runtime.NumGoroutine")=false:=by simpa using h2
  have h1:fn.body.isNone=false:=by cases hb:fn.body<;>simp_all
  simp[hf];rw[if_neg (by simpa using h2),if_neg (fun e=>by simp[e]at h1)]
 ·cases h
def ug (P:Program) (l:Nat) (xs:List Value) (X K:PH) (V:Value->PH->Prop):Prop:=
 ∀w,(X.or K).In w->∃fn tmps asg body,(Instr.yield l xs.toArray).run P w= .ok (.round l fn tmps asg body) w/\
  RoundIn Fence.wide 0 P l fn tmps asg body w fun e w'=>∃v X',e= .returned v/\Step (X.or K) w (X'.or K) w'/\Disj X' K/\V v X'
def ItC (P:Program) (f:FuncId) (caps:List Value) (Ro K:PH) (E:List (List Value)->List Value->Prop) (S Sp:List (List Value)->PH->Prop):Prop:=
 ∀(l:Nat) (J Jx:List (List Value)->PH->Prop),
  (∀pre X,J pre X->Pl Ro X)->
  (∀pre xs X K',E pre xs->J pre X->Disj X K'->ug P l xs X K' fun v X'=>(v= .bool true/\J (pre++[xs]) X')\/(v= .bool false/\Jx (pre++[xs]) X'))->
  ∀X,J [] X->Disj X K->∀w,(X.or K).In w->Calls P f ((.func (.yield l) #[] #[]::caps).toArray) w fun e w'=>∃v H',e= .returned v/\Step (X.or K) w H' w'/\
   ∃X' K',Pl (X'.or K') H'/\Disj X' K'/\((∃xs,S xs K'/\J xs X')\/(∃pre,Sp pre K'/\Jx pre X'))
def PnX (X:Value->PH->Prop) (pf:Bool) (H:PH) (w:World) (x:Value) (w':World):Prop:=pf=false/\∃H',Step H w H' w'/\X x H'
def noP:Value->PH->Prop:=fun _ _=>False
def den (P:Program) (G:Value->PH->Prop):(Value->PH->Prop)->Tree->List (List Value->PH->Prop)->List Value->PH->Prop
 |X,.ret l,_,ρ,H=>G (Ab (l.map (D P ρ))) H
 |X,.rq r t,nx,ρ,H=>r.holds P ρ/\den P G X t nx ρ H
 |X,.br c t e,nx,ρ,H=>(D P ρ c= .bool true->den P G X t nx ρ H)/\(D P ρ c= .bool false->den P G X e nx ρ H)
 |X,.call pf f args t,nx,ρ,H=>∀w,H.In w->Calls P f (args.map (D P ρ)).toArray w fun e w'=>(∃v H',e= .returned v/\Step H w H' w'/\(pf=true->Pl H H')/\den P G X t nx (ρ++[v]) H')\/(∃x,e=pnE x/\PnX X pf H w x w')
 |X,.prim _ _ o args t,nx,ρ,H=>∃v,(∀w,H.In w->(execOp (e8 o.op.operands.toList (args.map (D P ρ))) o).run P w= .ok (.value v) w)/\den P G X t nx (ρ++[v]) H
 |X,.eff pf _ _ o args t,nx,ρ,H=>∀w,H.In w->StpX P (PnX X pf H w) o (e8 o.op.operands.toList (args.map (D P ρ))) w fun v w'=>∃H',Step H w H' w'/\(pf=true->Pl H H')/\den P G X t nx (ρ++[v]) H'
 |X,.ext f args t,nx,ρ,H=>∃v,(∀w,H.In w->(callFunc f (args.map (D P ρ)).toArray).run P w= .ok (.value v) w)/\den P G X t nx (ρ++[v]) H
 |X,.mk _ _ o args t,nx,ρ,H=>∃(mk:Nat->Value) (ob:Obj),(∀w,(execOp (e8 o.op.operands.toList (args.map (D P ρ))) o).run P w= .ok (.value (mk w.heap.size)) (w.alloc ob))/\∀b,H b=none->den P G X t nx (ρ++[mk b]) (H.put b ob)
 |X,.pub T c t,nx,ρ,H=>∀b,H b=none->den P G X t nx (ρ++[.pointer (some ⟨b,0,none⟩)]) (H.put b (.cells (D P ρ c).cells T (0,0)))
 |X,.dead _,_,_,_=>False
 |X,.both t u,nx,ρ,H=>den P G X t nx ρ H/\den P G X u nx ρ H
 |X,.loop ini t,nx,ρ,H=>∃(I:List Value->PH->Prop) (μ:List Value->PH->Nat),I (ini.map (D P ρ)) H/\
   ∀vals H',vals.length=ini.length->I vals H'->den P G X t (nx++[fun l h=>I l h/\μ l h<μ vals H']) (ρ++vals) H'
 |X,.next d l,nx,ρ,H=>(nx.getD d fun _ _=>False) (l.map (D P ρ)) H
 |X,.join n t u,nx,ρ,H=>∃J:List Value->PH->Prop,den P G X t (nx++[J]) ρ H/\∀vals H',vals.length=n->J vals H'->den P G X u nx (ρ++vals) H'
 |XX,.rf g np ini tb ta te,nx,ρ,H=>∃(f:FuncId) (caps:List Value) (X K Ro:PH) (E:List (List Value)->List Value->Prop) (S Sp:List (List Value)->PH->Prop) (I Ix:List (List Value)->List Value->PH->Prop),
   D P ρ g= .func (.func f) #[] caps.toArray/\n8 P f=true/\H=X.or K/\Disj X K/\ItC P f caps Ro K E S Sp/\(∀pre vals X',I pre vals X'->Pl Ro X')/\I [] (ini.map (D P ρ)) X/\
   (∀pre xs vals X',E pre xs->vals.length=ini.length->I pre vals X'->xs.length=np/\den P G noP tb (nx++[fun v h=>I (pre++[xs]) v h,fun v h=>Ix (pre++[xs]) v h]) (ρ++(xs++vals)) X')/\
   (∀xs vals X' K',S xs K'->Disj X' K'->vals.length=ini.length->I xs vals X'->den P G XX ta nx (ρ++vals) (X'.or K'))/\
   (∀pre vals X' K',Sp pre K'->Disj X' K'->vals.length=ini.length->Ix pre vals X'->den P G XX te nx (ρ++vals) (X'.or K'))
section
variable {P:Program} {G X:Value->PH->Prop} {w0:Cx}
variable {ρ:List Value} {β:Nat->Nat} {st:St} {a:Act} {W:World} {H:PH}
def Mt.set (m:Mt P w0 ρ β st a W) {s:SL} {v:Value} (hv:ML P ρ β s v) (hp:∀b q t i,s= .p b q t i->b<st.bl.length) (d:Option Tmp):Mt P w0 ρ β (st.set d s) (a.put d v) W:=by
 cases d with
 |none=>exact m
 |some t=>
  have hb:(st.set (some t) s).bl=st.bl:=rfl;refine{sz:= ?_,sl:= ?_,pb:= ?_,df:=m.df,n:=m.n,bl:=m.bl,inj:=m.inj,own:=m.own,sep:=m.sep,fr:=m.fr,kp:=m.kp,rd:=m.rd,kle:=m.kle,ag:=m.ag,ln:=m.ln,kpH:=m.kpH,kpB:=m.kpB,kn:=m.kn,kb:=m.kb}
  ·simpa[Act.put,St.set]using m.sz
  ·intro u s' rD;simp only[St.set,dF]at rD;simp only[Act.put];split at rD
   ·rename_i e;subst e;split at rD
    ·rename_i qB;simp only[cN]at rD;subst rD;exact⟨v,by rw[dJ (by rw[m.sz];exact qB)],hv⟩
    ·cases rD
   ·rename_i qJ;obtain⟨x,hx,hm⟩:=m.sl u s' rD;exact⟨x,by rw[cZ qJ];exact hx,hm⟩
  ·intro u b o' s' i rD;simp only[St.set,dF]at rD;split at rD
   ·split at rD
    ·simp only[cN]at rD;exact hp b o' s' i rD
    ·cases rD
   ·exact m.pb u b o' s' i rD
def A8 {β β':Nat->Nat} {n:Nat} (h:∀i,i<n->β' i=β i) {s:SL} {v:Value} (hp:∀b q t i,s= .p b q t i->b<n) (hm:ML P ρ β s v):ML P ρ β' s v:=by
 cases s with
 |x s=>exact hm
 |p b o s i=>simp only[ML]at hm⊢;rw[h b (hp b o s i rfl)];exact hm
 |u=>trivial
def Mt.newB (m:Mt P w0 ρ β st a W) {W':World} (hx:Ext W W') {c:SV} {T n b:Nat} (hb:W'.heap[b]? =some (.cells (D P ρ c).cells T (0,0))) (hn:(D P ρ c).cells.size=n) (h1:j0 (D P ρ c).cells)
  (qJ:∀i,i<st.bl.length->β i≠b) (hw:w0.w.heap.size<=b) (hH:w0.H b=none) (hK:w0.K b=none) (d:Option Tmp):
  Mt P w0 ρ (fun i=>if i=st.bl.length then b else β i) (St.set {st with bl:=st.bl++[Blk.mk c T n]} d (.p st.bl.length 0 0 noI)) (a.put d (.pointer (some ⟨b,0,none⟩))) W':=by
 have m':=m.ext hx;have hβ:∀i,i<st.bl.length->(fun i=>if i=st.bl.length then b else β i) i=β i:=fun i hi=>by simp only;rw[if_neg aA]
 have base:Mt P w0 ρ (fun i=>if i=st.bl.length then b else β i) {st with bl:=st.bl++[Blk.mk c T n]} a W':=by
  refine{sz:=m'.sz,sl:= ?_,pb:= ?_,df:=m'.df,n:=m'.n,bl:= ?_,inj:= ?_,own:= ?_,sep:= ?_,fr:=m'.fr,kp:=m'.kp,rd:=m'.rd,kle:=m'.kle,ag:=fun i hi=> ?_,ln:=by simp;have:=m'.ln;omega,kpH:=m'.kpH,kpB:= ?_,kn:=m'.kn,kb:=m'.kb}
  ·intro t s hs;obtain⟨v,hv,hm⟩:=m'.sl t s hs;exact⟨v,hv,A8 hβ (fun b q t' i e=>m'.pb t b q t' i (by rw[<-e];exact hs)) hm⟩
  ·intro t b' o' s' i hs;have:=m'.pb t b' o' s' i hs;simp;omega
  ·intro b' B hB;by_cases rO:b'<st.bl.length
   ·rw[aM rO]at hB;simp only[hβ b' rO];exact m'.bl b' B hB
   ·rw[aN aA]at hB;have h0:b'-st.bl.length=0:=by
     rcases kR (b'-st.bl.length)with h|h
     ·exact h
     ·rw[aO (by simp;omega)]at hB;cases hB
    rw[h0]at hB;simp at hB;subst hB;rw[if_pos aA];exact⟨hb,hn,h1⟩
  ·intro i j hi hj uS;simp only[aL,aP,bX]at hi hj;split at uS<;>split at uS
   ·omega
   ·rename_i h1 h2;exact absurd uS.symm (qJ j aA)
   ·rename_i h1 h2;exact absurd uS (qJ i aA)
   ·exact m'.inj i j aA aA uS
  ·intro i hi;simp only[aL,aP,bX]at hi;split
   ·exact .inl hw
   ·exact m'.own i aA
  ·intro i hi;simp only[aL,aP,bX]at hi;split
   ·exact hH
   ·exact m'.sep i aA
  ·have:=m'.ln;rw[if_neg aA];exact m'.ag i hi
  ·intro i hi;simp only[aL,aP,bX]at hi;split
   ·exact hK
   ·exact m'.kpB i aA
 refine base.set ?_ ?_ d
 ·simp[ML]
 ·rintro b' q t i h;cases h;simp
def Mt.bind (m:Mt P w0 ρ β st a W) (qT:Bh st=true) (v:Value) (d:Option Tmp):Mt P w0 (ρ++[v]) β (Eb st d) (a.put d v) W:=by
 unfold Bh at qT;simp only[aQ,cH]at qT;obtain⟨⟨⟨h1,h2⟩,h3⟩,h4⟩:=qT;have hn:=m.n;have base:Mt P w0 (ρ++[v]) β {st with n:=st.n+1} a W:=by
  refine{sz:=m.sz,sl:= ?_,pb:=m.pb,df:=m.df,n:=by simp[hn],bl:= ?_,inj:=m.inj,own:=m.own,sep:=m.sep,fr:=m.fr,kp:=m.kp,rd:=m.rd,kle:=m.kle,ag:=m.ag,ln:=m.ln,kpH:=m.kpH,kpB:=m.kpB,kn:= ?_,kb:= ?_}
  ·intro t s hs;obtain⟨x,hx,hm⟩:=m.sl t s hs;refine⟨x,hx,?_⟩;have hl:=h1 s (aK hs);rw[<-hn]at hl;cases s with
   |x s=>simp only[ML,SL.lt]at hm hl⊢;rw[Fg P ρ [v] s hl];exact hm
   |p b o s i=>simp only[ML,SL.lt]at hm hl⊢;rw[Fg P ρ [v] i hl];exact hm
   |u=>trivial
  ·intro b B hB;have hl:=h2 B (aK hB);rw[<-hn]at hl;rw[Fg P ρ [v] B.c hl];exact m.bl b B hB
  ·intro r hr;have hl:=h3 r hr;rw[<-hn]at hl;exact(GM P ρ [v] r hl).2 (m.kn r hr)
  ·intro p hp;have hl:=h4 p hp;rw[<-hn]at hl;rw[Fg P ρ [v] p.1 hl];exact m.kb p hp
 refine base.set ?_ ?_ d
 ·show v=(ρ++[v]).getD st.n undef;rw[<-hn];simp
 ·rintro b q t i h;cases h
def Mt.sto (m:Mt P w0 ρ β st a W) {b:Nat} {B:Blk} (hB:st.bl[b]? =some B) {c:SV} (hn:(D P ρ c).cells.size=B.n) (h1:j0 (D P ρ c).cells) (d:Option Tmp):
  Mt P w0 ρ β (St.set {st with bl:=st.bl.set b {B with c:=c}} d (.x (.k undef))) (a.put d undef) (W.setRow (β b) (D P ρ c).cells):=by
 have qB:b<st.bl.length:=(aH.1 hB).1;have hb:=(m.bl b B hB).1;have base:Mt P w0 ρ β {st with bl:=st.bl.set b {B with c:=c}} a (W.setRow (β b) (D P ρ c).cells):=by
  refine{sz:=m.sz,sl:=m.sl,pb:= ?_,df:=m.df,n:=m.n,bl:= ?_,inj:= ?_,own:= ?_,sep:= ?_,fr:= ?_,kp:=fun k ob hk=> ?_,rd:=m.rd,kle:=m.kle,ag:=m.ag,ln:=by simpa using m.ln,kpH:=m.kpH,kpB:=fun i hi=>m.kpB i (by simpa using hi),kn:=m.kn,kb:=m.kb}
  ·intro t b' o' s' i hs;have:=m.pb t b' o' s' i hs;simpa using this
  ·intro b' B' uF;simp only[dF]at uF;split at uF
   ·rename_i e;subst e;simp only[cN]at uF;subst uF;exact⟨setRow_heap W (β b) _ _ B.T (0,0) hb,hn,h1⟩
   ·rename_i qJ;obtain⟨g1,g2⟩:=m.bl b' B' uF;refine⟨?_,g2⟩;rw[setRow_other]
    ·exact g1
    ·intro e;exact qJ (m.inj b b' qB (aH.1 uF).1 e.symm)
  ·intro i j hi hj;simp only[cX]at hi hj;exact m.inj i j hi hj
  ·intro i hi;simp only[cX]at hi;exact m.own i hi
  ·intro i hi;simp only[cX]at hi;exact m.sep i hi
  ·refine⟨m.fr.os,m.fr.tape,m.fr.output,by simpa using m.fr.size,fun k hk hn=> ?_,fun k ob hk=> ?_,m.fr.dom,m.fr.dr⟩
   ·rw[setRow_other _ _ _ _ (fun e=>by
     rcases m.own b qB with h|h
     ·omega
     ·rw[e]at hn;exact h hn)];exact m.fr.block k hk hn
   ·rw[setRow_other _ _ _ _ (fun e=>by have:=m.sep b qB;rw[e,this]at hk;cases hk)];exact m.fr.holds k ob hk
  ·rw[setRow_other _ _ _ _ (fun e=>by have:=m.kpB b qB;rw[e,this]at hk;cases hk)];exact m.kp k ob hk
 exact base.set (s:= .x (.k undef)) (v:=undef) rfl (by rintro b q t i h;cases h) d
def Mt.lt (m:Mt P w0 ρ β st a W) {i:Nat} (hi:i<st.bl.length):β i<W.heap.size:=by
 obtain⟨B,hB⟩:∃B,st.bl[i]? =some B:=⟨_,aG hi⟩;exact y9 (m.bl i B hB).1
def Mt.step (m:Mt P w0 ρ β st a W) {H':PH} {W':World} (hs:Step w0.H W H' W'):Mt P {w0 with H:=H'} ρ β st a W':=
 {m with
  bl:=fun b B hB=>by
   have qB:b<st.bl.length:=(aH.1 hB).1;obtain⟨h1,h2⟩:=m.bl b B hB;exact⟨by rw[hs.block _ (m.lt qB) (m.sep b qB)];exact h1,h2⟩
  sep:=fun b hb=>by
   cases e:H' (β b)with
   |none=>exact e
   |some o=>
    rcases hs.dom (β b) (by simp[e])with h|h
    ·exact absurd (m.sep b hb) h
    ·have:=m.lt hb;omega
  fr:=m.fr.trans hs
  kp:=fun k ob hk=>by
   rw[hs.block k (y9 (m.kp k ob hk)) (m.kpH k (by rw[show w0.K k=some ob from hk];simp))];exact m.kp k ob hk
  kpH:=fun k hk=>by
   cases e:H' k with
   |none=>exact e
   |some o=>
    rcases hs.dom k (by simp[e])with h|h
    ·exact absurd (m.kpH k hk) h
    ·cases e2:w0.K k with
     |none=>exact absurd e2 hk
     |some o2=>have:=y9 (m.kp k o2 e2);omega}
def Mt.grow (m:Mt P w0 ρ β st a W) {H':PH} (qL:H'.In W) (a3o:∀b,b<st.bl.length->H' (β b)=none) (sL:∀b,H' b≠none->w0.H b≠none\/w0.w.heap.size<=b) (hK:∀k,w0.K k≠none->H' k=none):Mt P {w0 with H:=H'} ρ β st a W:=
 {m with
  sep:=a3o
  kpH:=hK
  fr:=⟨m.fr.os,m.fr.tape,m.fr.output,m.fr.size,m.fr.block,qL,fun b hb=>(sL b hb).elim (m.fr.dom b) .inr,m.fr.dr⟩}
def PH.put_in {H:PH} {w:World} {b:Nat} {o:Obj} (h:H.In w) (hb:w.heap[b]? =some o):(H.put b o).In w:=fun k ob hk=>by
 unfold PH.put at hk;split at hk
 ·rename_i e;subst e;cases hk;exact hb
 ·exact h k ob hk
def Mt.grown {W':World} (m:Mt P w0 ρ β st a W) {b:Nat} {ob:Obj} (hx:Ext W W') (sE:W'.heap[b]? =some ob) (hb:W.heap.size<=b):Mt P {w0 with H:=w0.H.put b ob} ρ β st a W':=by
 refine(m.ext hx).grow (H':=w0.H.put b ob) (PH.put_in (m.fr.holds.ext hx) sE) (fun b' rO=> ?_) (fun b' rO=> ?_) (fun k hk=> ?_)
 ·unfold PH.put;rw[if_neg (by have:=m.lt rO;omega)];exact m.sep b' rO
 ·unfold PH.put at rO;split at rO
  ·rename_i e;subst e;exact .inr (cK m.fr.size hb)
  ·exact .inl rO
 ·unfold PH.put;rw[if_neg (fun e=>by
   cases e2:w0.K k with
   |none=>exact hk e2
   |some o2=>have:=y9 (m.kp k o2 e2);omega)]
  exact m.kpH k hk
def Mt.know (m:Mt P w0 ρ β st a W) {c:SV} {b:Bool} (h:D P ρ c= .bool b):Mt P w0 ρ β (st.know P c b) a W:=by
 refine{m with kb:= ?_};intro p hp;simp only[St.know,aV]at hp;rcases hp with hp|hp
 ·split at hp
  ·rename_i x;split at hp
   ·rename_i uT;obtain⟨b',rO⟩:∃b',D P ρ x= .bool b':=GY m.kn uT;simp only[bG,cF,or_false]at hp;rcases hp with rfl|rfl
    ·exact h
    ·simp only[D,rO,Ep,Value.bool.injEq]at h;rw[<-h];simp[rO]
   ·simp only[bG,cF,or_false]at hp;subst hp;exact h
  ·simp only[bG,cF,or_false]at hp;subst hp;exact h
 ·exact m.kb p hp
structure More (st st':St):Prop where
 es:st'.es=st.es
 js:st'.js=st.js
 rd:st'.rd=st.rd
 sl:st'.sl=st.sl
 bl:st'.bl=st.bl
 kb:st'.kb=st.kb
 n:st'.n=st.n
 d:st'.d=st.d
def More.refl (st:St):More st st:=⟨rfl,rfl,rfl,rfl,rfl,rfl,rfl,rfl⟩
def Mt.more (m:Mt P w0 ρ β st a W) {st':St} (h:More st st') (hk:∀r∈st'.kn,r.holds P ρ):Mt P w0 ρ β st' a W:=
 {sz:=by rw[h.sl];exact m.sz,sl:=by rw[h.sl];exact m.sl,pb:=by rw[h.sl,h.bl];exact m.pb,df:=m.df,n:=by rw[h.n];exact m.n,bl:=by rw[h.bl];exact m.bl,inj:=by rw[h.bl];exact m.inj,own:=by rw[h.bl];exact m.own,sep:=by rw[h.bl];exact m.sep,fr:=m.fr,kp:=m.kp,rd:=by rw[h.rd];exact m.rd,kle:=m.kle,ag:=m.ag,ln:=by rw[h.bl];exact m.ln,kpH:=m.kpH,kpB:=by rw[h.bl];exact m.kpB,kn:=hk,kb:=by rw[h.kb];exact m.kb}
def Uy {nx:List (List Value->PH->Prop)} {k:St->Option Tree}:∀{rs:List Rq} {st:St} {t:Tree},Ge P rs st k=some t->(∀r∈st.kn,r.holds P ρ)->den P G X t nx ρ H->
  ∃st' t',More st st'/\(∀r∈st'.kn,r.holds P ρ)/\(∀r∈rs,r.holds P ρ)/\k st'=some t'/\den P G X t' nx ρ H:=by
 intro rs;induction rs with
 |nil=>intro st t h hk hd;exact⟨st,t,More.refl st,hk,aD,h,hd⟩
 |cons r rs ih=>
  intro st t h hk hd;simp only[Ge]at h;split at h
  ·rename_i he;obtain⟨st',t',h1,h2,h3,h4,h5⟩:=ih h hk hd;refine⟨st',t',h1,h2,fun q hq=> ?_,h4,h5⟩;rcases bG.1 hq with rfl|hq
   ·exact GY hk he
   ·exact h3 q hq
  ·rw[eZ]at h;obtain⟨t1,h,rfl⟩:=h;obtain⟨hr,hd⟩:=hd;obtain⟨st',t',h1,h2,h3,h4,h5⟩:=ih h (fun q hq=>by
    rcases bG.1 hq with rfl|hq
    ·exact hr
    ·exact hk q hq) hd
   refine⟨st',t',⟨h1.es,h1.js,h1.rd,h1.sl,h1.bl,h1.kb,h1.n,h1.d⟩,h2,fun q hq=> ?_,h4,h5⟩;rcases bG.1 hq with rfl|hq
   ·exact hr
   ·exact h3 q hq
def HH (P:Program) (G X:Value->PH->Prop) (nx:List (List Value->PH->Prop)) (ρ:List Value) (β:Nat->Nat) (st:St) (a:Act) (W:World) (H:PH) (pf:Bool) (o:Oper) (k:St->Option Tree):Prop:=
 ∃st',More st st'/\(∀r∈st'.kn,r.holds P ρ)/\ue P ρ β st a W o (Av P st o).2/\
  match(Av P st o).2 with
  | .val s=>∃t,k (st'.set o.dst s)=some t/\den P G X t nx ρ H
  | .new c T n=>(∃t,Yj st o.dst=true/\Bh st'=true/\k (Eb st' o.dst)=some t/\∀b,H b=none->den P G X t nx (ρ++[.pointer (some ⟨b,0,none⟩)]) (H.put b (.cells (D P ρ c).cells T (0,0))))\/
    (∃t,k (St.set {st' with bl:=st'.bl++[Blk.mk c T n]} o.dst (.p st'.bl.length 0 0 noI))=some t/\den P G X t nx ρ H)
  | .sto b c=>∃B t,st.bl[b]? =some B/\k (St.set {st' with bl:=st'.bl.set b {B with c:=c}} o.dst (.x (.k undef)))=some t/\den P G X t nx ρ H
  | .call f args=>∃t,Bh st'=true/\k (Eb st' o.dst)=some t/\∀w,H.In w->Calls P f (args.map (D P ρ)).toArray w fun e w'=>(∃v H',e= .returned v/\Step H w H' w'/\(pf=true->Pl H H')/\den P G X t nx (ρ++[v]) H')\/(∃x,e=pnE x/\PnX X pf H w x w')
  | .prim args=>∃t v,Bh st'=true/\k (Eb st' o.dst)=some t/\(∀w,H.In w->(execOp (e8 o.op.operands.toList (args.map (D P ρ))) o).run P w= .ok (.value v) w)/\den P G X t nx (ρ++[v]) H
  | .eff args=>∃t,Bh st'=true/\k (Eb st' o.dst)=some t/\∀w,H.In w->StpX P (PnX X pf H w) o (e8 o.op.operands.toList (args.map (D P ρ))) w fun v w'=>∃H',Step H w H' w'/\(pf=true->Pl H H')/\den P G X t nx (ρ++[v]) H'
  | .ext f args=>∃t v,Bh st'=true/\k (Eb st' o.dst)=some t/\(∀w,H.In w->(callFunc f (args.map (D P ρ)).toArray).run P w= .ok (.value v) w)/\den P G X t nx (ρ++[v]) H
  | .mk args=>∃t,Bh st'=true/\k (Eb st' o.dst)=some t/\∃(mk:Nat->Value) (ob:Obj),(∀w,(execOp (e8 o.op.operands.toList (args.map (D P ρ))) o).run P w= .ok (.value (mk w.heap.size)) (w.alloc ob))/\∀b,H b=none->den P G X t nx (ρ++[mk b]) (H.put b ob)
  | .bad=>False
def HI {nx:List (List Value->PH->Prop)} {k:St->Option Tree} {pf:Bool} {id i:Nat} {o:Oper} {t:Tree} (m:Mt P w0 ρ β st a W) (h:fq P pf id i o st k=some t) (hd:den P G X t nx ρ H):HH P G X nx ρ β st a W H pf o k:=by
 unfold fq at h;have hs:=A7 m o;unfold Snd at hs;unfold HH;generalize Av P st o=p at h hs⊢;obtain⟨rs,r⟩:=p;simp only at h hs⊢;obtain⟨st',t',h1,h2,h3,h4,h5⟩:=Uy h m.kn hd;have hs:=hs h3;refine⟨st',h1,h2,hs,?_⟩;cases r with
 |val s=>exact⟨t',h4,h5⟩
 |new c T n=>
  simp only at h4⊢;split at h4
  ·rename_i he;have he':Yj st o.dst=true:=by unfold Yj at he⊢;rw[h1.es]at he;exact he
   split at h4
   ·rename_i qT;rw[aQ]at qT;rw[eZ]at h4;obtain⟨t1,h4,rfl⟩:=h4;exact .inl ⟨t1,he',qT.1,h4,h5⟩
   ·cases h4
  ·exact .inr ⟨t',h4,h5⟩
 |sto b c=>
  simp only[h1.bl]at h4;have rD:=hs;obtain⟨_,B,hB,_⟩:=rD;simp only[hB]at h4;refine⟨B,t',hB,?_,h5⟩;rw[h1.bl];exact h4
 |call f args=>
  simp only at h4;split at h4
  ·rename_i qT;rw[aQ]at qT;rw[eZ]at h4;obtain⟨t1,h4,rfl⟩:=h4;exact⟨t1,qT.1,h4,h5⟩
  ·cases h4
 |prim args=>
  simp only at h4;split at h4
  ·rename_i qT;rw[aQ]at qT;rw[eZ]at h4;obtain⟨t1,h4,rfl⟩:=h4;obtain⟨v,hv,hd⟩:=h5;exact⟨t1,v,qT.1,h4,hv,hd⟩
  ·cases h4
 |eff args=>
  simp only at h4;split at h4
  ·rename_i qT;rw[aQ]at qT;rw[eZ]at h4;obtain⟨t1,h4,rfl⟩:=h4;exact⟨t1,qT.1,h4,h5⟩
  ·cases h4
 |ext f args=>
  simp only at h4;split at h4
  ·rename_i qT;rw[aQ]at qT;rw[eZ]at h4;obtain⟨t1,h4,rfl⟩:=h4;obtain⟨v,hv,hd⟩:=h5;exact⟨t1,v,qT.1,h4,hv,hd⟩
  ·cases h4
 |mk args=>
  simp only at h4;split at h4
  ·rename_i qT;rw[aQ]at qT;rw[eZ]at h4;obtain⟨t1,h4,rfl⟩:=h4;exact⟨t1,qT.1,h4,h5⟩
  ·cases h4
 |bad=>
  simp only[cN]at h4;subst h4;exact h5
def HJ {nx:List (List Value->PH->Prop)} {k:St->Option Tree} {pf:Bool} {ck:Nat->Oper->St->Bool} {id i:Nat} {o:Oper} {t:Tree} (h:Re P pf ck id i o st k=some t) (hd:den P G X t nx ρ H):ck i o st=true/\fq P pf id i o st k=some t:=by
 unfold Re at h;split at h
 ·rename_i hc;exact⟨hc,h⟩
 ·simp only[cN]at h;subst h;exact hd.elim
def A9 (m:Mt P w0 ρ β st a W) {ops:Array Oper} {j:Nat} {c:SV} (h:((ops[j]?).bind (·.dst)).bind (fun d:Nat=>st.sl[d]?)=some (.x c)):
  yielded ops a.tmps j=match D P ρ c with| .bool b=>some b|_=>none:=by
 rw[jH]at h;obtain⟨d,hd,hs⟩:=h;obtain⟨v,hv,hm⟩:=m.sl d _ hs;unfold yielded;rw[hd];simp only[Option.bind_some,hv];rw[show v=D P ρ c from hm];cases D P ρ c<;>rfl
def HK {nx:List (List Value->PH->Prop)} {k:St->Option Tree} {ops:Array Oper} {pf:Bool} {ck:Nat->Oper->St->Bool} {id i:Nat} {o:Oper} {L:List Nat} {t:Tree} (m:Mt P w0 ρ β st a W) (ho:ops[i]? =some o) (h:Bf P pf ck ops id k (i::L) st=some t) (hd:den P G X t nx ρ H):
  (Region.wanted o (yielded ops a.tmps)=true/\∃st' t',Mt P w0 ρ β st' a W/\st'.bl=st.bl/\st'.d=st.d/\st'.sl=st.sl/\Re P pf ck id i o st' (Bf P pf ck ops id k L)=some t'/\den P G X t' nx ρ H)\/
  (Region.wanted o (yielded ops a.tmps)=false/\∃st' t',Mt P w0 ρ β st' a W/\st'.bl=st.bl/\st'.d=st.d/\st'.sl=st.sl/\Bf P pf ck ops id k L (st'.set o.dst (.x (.k undef)))=some t'/\den P G X t' nx ρ H):=by
 simp only[Bf,ho]at h;split at h
 ·rename_i hg;exact .inl ⟨by simp[Region.wanted,hg],st,t,m,rfl,rfl,rfl,h,hd⟩
 ·rename_i j want hg;split at h
  ·rename_i c hc;have hy:=A9 m hc;have hD:=tu (P:=P) (ρ:=ρ) m.kb c;have hw:Region.wanted o (yielded ops a.tmps)=(yielded ops a.tmps j==some want):=by simp[Region.wanted,hg]
   rw[hw,hy];split at h
   ·rename_i b hl;rw[hl]at hD;simp only[D]at hD;rw[<-hD];split at h
    ·rename_i hb;rw[beq_iff_eq]at hb;subst hb;exact .inl ⟨aD,st,t,m,rfl,rfl,rfl,h,hd⟩
    ·rename_i hb;exact .inr ⟨by simpa using hb,st,t,m,rfl,rfl,rfl,h,hd⟩
   ·rename_i vs hl;rw[hl]at hD;simp only[D]at hD;rw[<-hD];exact .inr ⟨aD,st,t,m,rfl,rfl,rfl,h,hd⟩
   ·generalize Nv st.kb c=c' at h hD;split at h
    ·rename_i b _;obtain⟨st',t',h1,h2,h3,h4,h5⟩:=Uy h m.kn hd;have hb:D P ρ c'= .bool b:=h3 (.isb b c') aD;have m':=m.more h1 h2;rw[<-hD,hb];split at h4
     ·rename_i zZ;rw[beq_iff_eq]at zZ;subst zZ;exact .inl ⟨aD,_,t',m'.know hb,by simp[St.know,h1.bl],by simp[St.know,h1.d],by simp[St.know,h1.sl],h4,h5⟩
     ·rename_i zZ;exact .inr ⟨by simpa using zZ,_,t',m'.know hb,by simp[St.know,h1.bl],by simp[St.know,h1.d],by simp[St.know,h1.sl],h4,h5⟩
    obtain⟨st',t',h1,h2,h3,h4,h5⟩:=Uy h m.kn hd;obtain⟨b,hb⟩:∃b,D P ρ c'= .bool b:=h3 (.bool c') aD;have m':=m.more h1 h2;rw[<-hD,hb];split at h4
    ·rename_i t1 t2 e1 e2;simp only[cN]at h4;by_cases zZ:b=want
     ·subst zZ;refine .inl ⟨aD,_,t1,m'.know hb,by simp[St.know,h1.bl],by simp[St.know,h1.d],by simp[St.know,h1.sl],e1,?_⟩;cases b with
      |true=>simp only[if_true]at h4;subst h4;exact h5.1 hb
      |false=>simp only[aY,if_false]at h4;subst h4;exact h5.2 hb
     ·have hbn:b= !want:=by cases b<;>cases want<;>simp_all
      refine .inr ⟨by simpa using zZ,_,t2,m'.know (b:= !want) (by rw[hb,hbn]),by simp[St.know,h1.bl],by simp[St.know,h1.d],by simp[St.know,h1.sl],e2,?_⟩;cases want with
      |true=>simp only[if_true]at h4;subst h4;exact h5.2 (by rw[hb,hbn];rfl)
      |false=>simp only[aY,if_false]at h4;subst h4;exact h5.1 (by rw[hb,hbn];rfl)
    ·cases h4
  ·cases h
structure Rg (st0:St) (β0:Nat->Nat) (st:St) (β:Nat->Nat):Prop where
 bt:∀b,b<st0.bl.length->β b=β0 b
 ln:st0.bl.length<=st.bl.length
def Rg.congr {st0 st st':St} {β0 β:Nat->Nat} (h:Rg st0 β0 st β) (hb:st'.bl=st.bl):Rg st0 β0 st' β:=⟨h.bt,by rw[hb];exact h.ln⟩
def Rg.set {st0 st:St} {β0 β:Nat->Nat} (h:Rg st0 β0 st β) (d:Option Tmp) (s:SL):Rg st0 β0 (st.set d s) β:=by
 cases d<;>exact⟨h.bt,h.ln⟩
def Rg.bind {st0 st:St} {β0 β:Nat->Nat} (h:Rg st0 β0 st β) (d:Option Tmp):Rg st0 β0 (Eb st d) β:=(h.congr (st':={st with n:=st.n+1}) rfl).set d _
def HL {T:TypeId} {x:Operand} {b q s:Nat} {i:SV} (h:st.get x=some (.p b q s i)):(Kv P st T x).2= .bad\/∃s',(Kv P st T x).2= .val s':=by
 unfold Kv;rw[h];simp only;split
 ·unfold rj bad
  repeat' split
  all_goals first|exact .inl rfl|exact .inr ⟨_,rfl⟩
 ·exact .inl rfl
def B3 {T:TypeId} {x y:Operand} {b q s:Nat} {i:SV} (h:st.get x=some (.p b q s i)):(Qz P st T x y).2= .bad\/∃c,(Qz P st T x y).2= .sto b c:=by
 unfold Qz;rw[h];split
 ·rename_i b' q' s' i' v e _;cases e;split
  ·unfold rk bad
   repeat' split
   all_goals first|exact .inl rfl|exact .inr ⟨_,rfl⟩
  ·exact .inl rfl
 ·rename_i e _;cases e
 ·exact .inl rfl
def gj {x:Operand} {b:Nat} (h:Uu st x=some b):∃q s i,st.get x=some (.p b q s i):=by
 unfold Uu at h;split at h
 ·rename_i b' q s i hg;simp only[cN]at h;subst h;exact⟨q,s,i,hg⟩
 ·cases h
def Rm {o:Oper} (h:Jf st o=true):r4 P o=1/\((Av P st o).2= .bad\/∃s,(Av P st o).2= .val s):=by
 unfold Jf at h;split at h
 ·rename_i S x f ho;obtain⟨b,hb⟩:=fQ.1 h;obtain⟨q,s,i,hg⟩:=gj hb;refine⟨by simp[r4,ho],?_⟩;simp only[Av,ho];unfold fi bad;rw[hg];simp only
  repeat' split
  all_goals first|exact .inl rfl|exact .inr ⟨_,rfl⟩
 ·rename_i T x ix ho;obtain⟨b,hb⟩:=fQ.1 h;obtain⟨q,s,i,hg⟩:=gj hb;refine⟨by simp[r4,ho],?_⟩;simp only[Av,ho];unfold fj bad;rw[hg];split
  ·repeat' split
   all_goals first|exact .inl rfl|exact .inr ⟨_,rfl⟩
  ·rename_i e _;cases e
  ·exact .inl rfl
 ·cases h
def Ys {o:Oper} (h:mkB st o=true):r4 P o=2/\Jf st o=false:=by
 unfold mkB at h;split at h
 ·rename_i ho;simp[r4,Jf,ho]
 ·rename_i ho;simp[r4,Jf,ho]
 ·rename_i ho;simp[r4,Jf,ho]
 ·cases h
def ok0 {o:Oper} {tg:Nat} (h:Bo P st o 0 tg=true):r4 P o=0\/Jf st o=true:=by
 simpa[Bo]using h
def ok1 {o:Oper} {tg:Nat} (h:Bo P st o 1 tg=true):r4 P o<=1:=by simpa[Bo]using h
def ok2 {o:Oper} {tg:Nat} (h:Bo P st o 2 tg=true):r4 P o=2/\mkB st o=false:=by simpa[Bo]using h
def ok3 {o:Oper} {tg:Nat} (h:Bo P st o 3 tg=true):r4 P o=3\/mkB st o=true:=by simpa[Bo]using h
def ok5 {o:Oper} {tg:Nat} (h:Bo P st o 5 tg=true):∃T x q s i,o.op= .load T x/\st.get x=some (.p tg q s i):=by
 simp only[Bo]at h;split at h
 ·rename_i T x ho;obtain⟨q,s,i,hg⟩:=gj (by simpa using h);exact⟨T,x,q,s,i,ho,hg⟩
 ·cases h
def ok6 {o:Oper} {tg:Nat} (h:Bo P st o 6 tg=true):∃T x y q s i,o.op= .store T x y/\st.get x=some (.p tg q s i):=by
 simp only[Bo]at h;split at h
 ·rename_i T x y ho;obtain⟨q,s,i,hg⟩:=gj (by simpa using h);exact⟨T,x,y,q,s,i,ho,hg⟩
 ·cases h
def ok7 {o:Oper} {tg:Nat} (h:Bo P st o 7 tg=true):∃l,(Av P st o).2= .prim l:=by
 simp only[Bo]at h;unfold fu at h;split at h
 ·rename_i l hl;exact⟨l,hl⟩
 ·cases h
def ok9 {o:Oper} {tg:Nat} (h:Bo P st o 9 tg=true):(∃l,(Av P st o).2= .prim l)/\ek o.op=true:=by
 simp only[Bo,aQ]at h;refine⟨?_,h.2⟩;have h:=h.1;unfold fu at h;split at h
 ·exact⟨_,by assumption⟩
 ·cases h
def B4 {o:Oper} {tg:Nat} (h:Bo P st o 10 tg=true):eo P o.op=true:=by simpa[Bo]using h
def ok8 {o:Oper} {tg:Nat} (h:Bo P st o 8 tg=true):frS tg (Av P st o).2=true:=by simpa[Bo]using h
def B5 {tg n0:Nat} {r:Res} (h:frS tg r=true) (hn:tg=0\/n0<=tg):∀b c,r= .sto b c->n0<=b:=fun b c e=>by
 subst e;simp only[frS,aQ,bne_iff_ne,decide_eq_true_eq]at h;omega
variable {c1:Bs} {K:PH}
def XT (P:Program) (c1:Bs) (K:PH) (X:Value->PH->Prop) (df:List Deferred) (x:Value) (w':World):Prop:=∃ρ' β' st' a' H',Mt P ⟨c1,H',K⟩ ρ' β' st' a' w'/\a'.defers=df/\X x H'
def HN {df:List Deferred} {nx:List (List Value->PH->Prop)} {k:St->Option Tree} {ops:Array Oper} {pf:Bool} {ck:Nat->Oper->St->Bool} {kd tg:Nat->Nat} {id dn:Nat} {st0:St} {β0:Nat->Nat} {R:Act->World->Prop}
  (hck:∀(i:Nat) (o:Oper) (st:St),ck i o st=true->Bo P st o (kd i) (tg i)=true) (xG:∀i,(kd i=5\/kd i=6)->tg i<st0.bl.length) (sU:∀i,kd i=8->tg i=0\/st0.bl.length<=tg i)
  (hk:∀st t ρ' β a W H,k st=some t->Mt P ⟨c1,H,K⟩ ρ' β st a W->ρ<+:ρ'->st.d=dn->den P G X t nx ρ' H->R a W):∀(L:List Nat) (st:St) (t:Tree) (ρ':List Value) (β:Nat->Nat) (a:Act) (W:World) (H:PH),a.defers=df->
  Bf P pf ck ops id k L st=some t->Mt P ⟨c1,H,K⟩ ρ' β st a W->ρ<+:ρ'->st.d=dn->Rg st0 β0 st β->den P G X t nx ρ' H->wpT P (XT P c1 K X df) ops kd (fun i=>β0 (tg i)) R L a W:=by
 intro L;induction L with
 |nil=>intro st t ρ' β a W H rH h m hp xH _ hd;exact hk st t ρ' β a W H h m hp xH hd
 |cons i L ih=>
  intro st t ρ' β a W H rH h m hp xH xU hd;cases ho:ops[i]? with
  |none=>simp[Bf,ho]at h
  |some o=>
   refine⟨o,ho,?_⟩;rcases HK m ho h hd with⟨hw,st1,t1,m1,qU,wO,tA,h1,qA⟩|⟨hw,st1,t1,m1,qU,wO,tA,h1,qA⟩
   ·refine .inr ⟨hw,?_⟩;obtain⟨qQ,h1⟩:=HJ h1 qA;have qQ:=hck i o st1 qQ;obtain⟨st',hm,sH,hR,hc⟩:=HI m1 h1 qA;have m':=m1.more hm sH;have qS:st'.d=dn:=by rw[hm.d,wO];exact xH
    have xI:=xU.congr qU;have qY:=xI.congr hm.bl;have hpv:∀b,b<st0.bl.length->β b=β0 b/\β b<W.heap.size/\H (β b)=none:=fun b hb=>by
     have qB:b<st'.bl.length:=aU hb qY.ln;exact⟨qY.bt b hb,m'.lt qB,m'.sep b qB⟩
    have hS:StpX P (XT P c1 K X df) o a.eval W fun v w'=>((∀b c,(Av P st1 o).2= .sto b c->st0.bl.length<=b)->∀b,b<st0.bl.length->w'.heap[β0 b]? =W.heap[β0 b]?)/\wpT P (XT P c1 K X df) ops kd (fun i=>β0 (tg i)) R L (a.put o.dst v) w':=by
     cases qO:(Av P st1 o).2 with
     |val s=>
      rw[qO]at hR hc;obtain⟨uI,pY,v,hv,pZ⟩:=hR;obtain⟨t2,h2,qH⟩:=hc;have mm:=m'.set hv (by rw[hm.bl];exact uI) o.dst;unfold StpX;rw[pZ W (.inr (.inl (Ext.refl _)))];exact⟨fun _ _ _=>rfl,ih _ _ _ _ _ _ _ (by rw[Ax];exact rH) h2 mm hp (by cases o.dst<;>exact qS) (qY.set o.dst s) qH⟩
     |new c T n=>
      rw[qO]at hR hc;obtain⟨h3,rN,uJ,pZ⟩:=hR;unfold StpX;rw[pZ W];refine⟨fun _ b hb=> ?_,?_⟩
      ·obtain⟨e,qB,_⟩:=hpv b hb;rw[<-e];exact(Ext.alloc W _).block' qB
      have sE:(W.alloc (.cells (D P ρ' c).cells T)).heap[W.heap.size]? =some (.cells (D P ρ' c).cells T (0,0)):=by show(W.heap.push _)[W.heap.size]? =_;simp
      have hH:H W.heap.size=none:=by
       cases e:H W.heap.size with
       |none=>rfl
       |some ob=>have:=y9 (m'.fr.holds _ _ e);omega
      have hKs:K W.heap.size=none:=by
       cases e:K W.heap.size with
       |none=>rfl
       |some ob=>have:=y9 (m'.kp _ _ e);omega
      rcases hc with⟨t2,_,qT,h2,qH⟩|⟨t2,h2,qH⟩
      ·have mm:=(m'.grown (ob:= .cells (D P ρ' c).cells T (0,0)) (Ext.alloc W (.cells (D P ρ' c).cells T)) sE (aS _)).bind qT (.pointer (some ⟨W.heap.size,0,none⟩)) o.dst;exact ih _ _ _ _ _ _ _ (by rw[Ax];exact rH) h2 mm (hp.trans (eT _ _)) (by cases o.dst<;>exact qS) (qY.bind o.dst) (qH _ hH)
      ·have mm:=m'.newB (T:=T) (Ext.alloc W (.cells (D P ρ' c).cells T)) (b:=W.heap.size) sE rN uJ (fun i hi e=>by have:=m'.lt hi;omega) (m'.fr.size) hH hKs o.dst;refine ih _ _ _ _ _ _ _ (by rw[Ax];exact rH) h2 mm hp (by cases o.dst<;>exact qS) ?_ qH;refine Rg.set (st:={st' with bl:=st'.bl++[Blk.mk c T n]}) ⟨fun b hb=> ?_,by simp;have:=qY.ln;omega⟩ o.dst _;rw[if_neg (by have:=qY.ln;omega)];exact qY.bt b hb
     |sto b c=>
      rw[qO]at hR hc;obtain⟨h4,B',uF,rN,uJ,pZ⟩:=hR;obtain⟨B,t2,hB,h2,qH⟩:=hc;obtain rfl:B'=B:=eX.inj (uF.symm.trans hB);have hBs:st'.bl[b]? =some B':=by rw[hm.bl];exact hB
      unfold StpX;have yT:=(m'.bl b B' hBs).1;rw[pZ W yT];have mm:=m'.sto hBs rN uJ o.dst;exact⟨fun h b' rO=>by
        have vB:=h b c rfl;obtain⟨e,_,_⟩:=hpv b' rO;rw[<-e];exact setRow_other _ _ _ _ fun e2=>absurd (m'.inj _ _ (aU rO qY.ln) (aH.1 hBs).1 e2) aA,ih _ _ _ _ _ _ _ (by rw[Ax];exact rH) h2 mm hp (by cases o.dst<;>exact qS) (Rg.set (st:={st' with bl:=st'.bl.set b {B' with c:=c}}) ⟨qY.bt,by simpa using qY.ln⟩ o.dst _) qH⟩
     |call f args=>
      rw[qO]at hR hc;obtain⟨h4,pZ⟩:=hR;obtain⟨t2,qT,h2,tB⟩:=hc;unfold StpX;rw[pZ W];refine(tB W m'.fr.holds).mono fun e w' hh=> ?_;rcases hh with⟨v,H',he,rB,_,qH⟩|⟨x,he,_,H',rB,hx⟩
      rotate_left
      ·exact .inr ⟨x,he,ρ',β,st',a,H',m'.step rB,rH,hx⟩
      refine .inl ⟨v,he,fun _ b hb=> ?_,?_⟩
      ·obtain⟨e,qB,hn⟩:=hpv b hb;rw[<-e];exact rB.block _ qB hn
      ·exact ih _ _ _ _ _ _ _ (by rw[Ax];exact rH) h2 ((m'.step rB).bind qT v o.dst) (hp.trans (eT _ _)) (by cases o.dst<;>exact qS) (qY.bind o.dst) qH
     |prim args=>
      rw[qO]at hR hc;obtain⟨h4,pZ⟩:=hR;obtain⟨t2,v,qT,h2,hv,qH⟩:=hc;unfold StpX;rw[pZ,hv W m'.fr.holds];exact⟨fun _ _ _=>rfl,ih _ _ _ _ _ _ _ (by rw[Ax];exact rH) h2 (m'.bind qT v o.dst) (hp.trans (eT _ _)) (by cases o.dst<;>exact qS) (qY.bind o.dst) qH⟩
     |eff args=>
      rw[qO]at hR hc;obtain⟨h4,pZ⟩:=hR;obtain⟨t2,qT,h2,tB⟩:=hc;refine StpX.cg pZ<|StpX.mono2 (tB W m'.fr.holds) (fun v w' ⟨H',rB,_,qH⟩=>⟨fun _ b hb=> ?_,?_⟩) fun x w' ⟨_,H',rB,hx⟩=>⟨ρ',β,st',a,H',m'.step rB,rH,hx⟩
      ·obtain⟨e,qB,hn⟩:=hpv b hb;rw[<-e];exact rB.block _ qB hn
      ·exact ih _ _ _ _ _ _ _ (by rw[Ax];exact rH) h2 ((m'.step rB).bind qT v o.dst) (hp.trans (eT _ _)) (by cases o.dst<;>exact qS) (qY.bind o.dst) qH
     |ext f args=>
      rw[qO]at hR hc;obtain⟨h4,pZ⟩:=hR;obtain⟨t2,v,qT,h2,hv,qH⟩:=hc;unfold StpX;rw[pZ,hv W m'.fr.holds];exact⟨fun _ _ _=>rfl,ih _ _ _ _ _ _ _ (by rw[Ax];exact rH) h2 (m'.bind qT v o.dst) (hp.trans (eT _ _)) (by cases o.dst<;>exact qS) (qY.bind o.dst) qH⟩
     |mk args=>
      rw[qO]at hR hc;obtain⟨_,pZ⟩:=hR;obtain⟨t2,qT,h2,mk,ob,hr,qH⟩:=hc;unfold StpX;rw[pZ,hr W];refine⟨fun _ b hb=> ?_,?_⟩
      ·obtain⟨e,qB,_⟩:=hpv b hb;rw[<-e];exact(Ext.alloc W _).block' qB
      have sE:(W.alloc ob).heap[W.heap.size]? =some ob:=by show(W.heap.push _)[W.heap.size]? =_;simp
      have hH:H W.heap.size=none:=by
       cases e:H W.heap.size with
       |none=>rfl
       |some ob=>have:=y9 (m'.fr.holds _ _ e);omega
      have mm:=(m'.grown (Ext.alloc W ob) sE (aS _)).bind qT (mk W.heap.size) o.dst;exact ih _ _ _ _ _ _ _ (by rw[Ax];exact rH) h2 mm (hp.trans (eT _ _)) (by cases o.dst<;>exact qS) (qY.bind o.dst) (qH _ hH)
     |bad=>rw[qO]at hc;exact hc.elim
    by_cases k0:kd i=0
    ·rw[k0]at qQ;have qQ:=ok0 qQ;cases qO:(Av P st1 o).2 with
     |val s=>
      rw[qO]at hR hc;obtain⟨uI,pY,v,hv,pZ⟩:=hR;obtain⟨t2,h2,qH⟩:=hc;have mm:=m'.set hv (by rw[hm.bl];exact uI) o.dst;exact .inl ⟨k0,v,fun w=>pZ w (qQ.imp (fun h=>h) (fun h=> .inr (.inr h))),ih _ _ _ _ _ _ _ (by rw[Ax];exact rH) h2 mm hp (by cases o.dst<;>exact qS) (qY.set o.dst s) qH⟩
     |_=>
      exfalso;rcases qQ with h0|h0
      ·rw[qO]at hR hc
       first
        |(have:=hR.1;omega)
        |(have:=(Ys (P:=P) hR.1).1;omega)
        |exact hc.elim
      ·rcases(Rm (P:=P) h0).2 with h|⟨s,h⟩
       ·rw[h]at hc;exact hc.elim
       ·rw[h]at qO;cases qO
    by_cases k5:kd i=5
    ·rw[k5]at qQ;obtain⟨T,x,q,s,ix,vR,uK⟩:=ok5 qQ;have xJ:=m1.ptrB uK;have sZ:β0 (tg i)=β (tg i):=(xI.bt _ (xG i (.inl k5))).symm;have e:(Av P st1 o)=Kv P st1 T x:=by simp[Av,vR]
     rcases HL (P:=P) (T:=T) uK with hb|⟨s',hb⟩
     ·rw[e,hb]at hc;exact hc.elim
     ·rw[e,hb]at hc hR;obtain⟨uI,pY,v,hv,pZ⟩:=hR;obtain⟨t2,h2,qH⟩:=hc;have mm:=m'.set hv (by rw[hm.bl];exact uI) o.dst;have nxt:=ih _ _ _ _ _ _ _ (by rw[Ax];exact rH) h2 mm hp (by cases o.dst<;>exact qS) (qY.set o.dst s') qH;obtain⟨Bk,hBk⟩:∃B,st1.bl[tg i]? =some B:=⟨_,aG xJ⟩;refine .inr (.inl ⟨k5,v,_,by show W.heap[β0 (tg i)]? =_;rw[sZ];exact(m1.bl _ Bk hBk).1,fun w hw=>pZ w (.inr (.inr (.inl ⟨T,x,tg i,q,s,ix,vR,uK,?_⟩))),nxt⟩);change w.heap[β0 (tg i)]? =_ at hw;rw[sZ]at hw;rw[hw,(m1.bl _ Bk hBk).1]
    by_cases k6:kd i=6
    ·rw[k6]at qQ;obtain⟨T,x,y,q,s,ix,vR,uK⟩:=ok6 qQ;have sZ:β0 (tg i)=β (tg i):=(xI.bt _ (xG i (.inr k6))).symm;have e:(Av P st1 o)=Qz P st1 T x y:=by simp[Av,vR]
     rcases B3 (P:=P) (T:=T) (y:=y) uK with hb|⟨c,hb⟩
     ·rw[e,hb]at hc;exact hc.elim
     ·rw[e,hb]at hc hR;obtain⟨h4,B',uF,rN,uJ,pZ⟩:=hR;obtain⟨B,t2,hB,h2,qH⟩:=hc;obtain rfl:B'=B:=eX.inj (uF.symm.trans hB);have hBs:st'.bl[tg i]? =some B':=by rw[hm.bl];exact hB
      have yT:=(m'.bl _ B' hBs).1;have mm:=m'.sto hBs rN uJ o.dst;refine .inr (.inr (.inl ⟨k6,_,(D P ρ' c).cells,by show W.heap[β0 (tg i)]? =_;rw[sZ];exact yT,fun w hw=> ?_,?_⟩))
      ·change w.heap[β0 (tg i)]? =_ at hw;show _=Result.ok Next.skip (w.setRow (β0 (tg i)) _);rw[sZ]at hw⊢;exact pZ w hw
      ·show wpT P (XT P c1 K X df) ops kd _ R L _ (W.setRow (β0 (tg i)) _);rw[sZ];exact ih _ _ _ _ _ _ _ (by rw[Ax];exact rH) h2 mm hp (by cases o.dst<;>exact qS) (Rg.set (st:={st' with bl:=st'.bl.set (tg i) {B' with c:=c}}) ⟨qY.bt,by simpa using qY.ln⟩ o.dst _) qH
    by_cases k7:kd i=7
    ·rw[k7]at qQ;obtain⟨args,qO⟩:=ok7 qQ;rw[qO]at hR hc;obtain⟨h4,pZ⟩:=hR;obtain⟨t2,v,qT,h2,hv,qH⟩:=hc;refine .inr (.inr (.inr (.inl ⟨k7,v,fun w=>H.In w,fun w hw=>by rw[pZ];exact hv w hw,m'.fr.holds,fun mm c w hmm=> ?_,ih _ _ _ _ _ _ _ (by rw[Ax];exact rH) h2 (m'.bind qT v o.dst) (hp.trans (eT _ _)) (by cases o.dst<;>exact qS) (qY.bind o.dst) qH⟩)));obtain⟨e,_,hn⟩:=hpv (tg mm) (xG mm (.inr hmm));have qJ:∀b ob,H b=some ob->b≠β0 (tg mm):=fun b ob hb e2=>by rw[e2,<-e,hn]at hb;cases hb
     constructor
     ·intro qL b ob hb;have:=qL b ob hb
      rwa[setRow_other _ _ _ _ (qJ b ob hb)]at this
     ·intro qL b ob hb;rw[setRow_other _ _ _ _ (qJ b ob hb)];exact qL b ob hb
    by_cases k8:kd i=8
    ·rw[k8]at qQ;exact .inr (.inr (.inr (.inr (.inl ⟨k8,hS.mono fun v w' ⟨g1,g2⟩=>⟨fun mm hmm=>g1 (B5 (ok8 qQ) (sU i k8)) _ (xG mm (.inl hmm)),g2⟩⟩))))
    by_cases k9:kd i=9
    ·rw[k9]at qQ;obtain⟨⟨args,qO⟩,hbo⟩:=ok9 qQ;rw[qO]at hR hc;obtain⟨h4,pZ⟩:=hR;obtain⟨t2,v,qT,h2,hv,qH⟩:=hc;refine .inr (.inr (.inr (.inr (.inr (.inl ⟨k9,v,fun w=>∃w0,H.In w0/\KeepM w0 w,fun w ⟨w0,hw0,hkm⟩=> ?_,⟨W,m'.fr.holds,KeepM.refl _⟩,fun w1 w2 hkm ⟨w0,hw0,xW⟩=>⟨w0,hw0,xW.trans hkm⟩,ih _ _ _ _ _ _ _ (by rw[Ax];exact rH) h2 (m'.bind qT v o.dst) (hp.trans (eT _ _)) (by cases o.dst<;>exact qS) (qY.bind o.dst) qH⟩)))));exact(YQ hbo w0 w _ _ hkm (by rw[pZ];exact hv w0 hw0)).2
    by_cases k10:kd i=10
    ·rw[k10]at qQ;refine .inr (.inr (.inr (.inr (.inr (.inr (.inl ⟨k10,?_⟩))))));have xX:=B4 qQ;unfold StpX at hS⊢;cases e:(execOp a.eval o).run P W with
     |halt h w2=>rw[e]at hS;cases h<;>exact hS
     |ok u w2=>
      rw[e]at hS;obtain⟨hkm,⟨x,rfl⟩|rfl⟩:=YS xX e
      ·exact⟨hkm,hS.2⟩
      ·exact⟨hkm,hS.2⟩
    ·exact .inr (.inr (.inr (.inr (.inr (.inr (.inr ⟨k0,k5,k6,k7,k8,k9,k10,hS.mono fun v w' ⟨_,g2⟩=>g2⟩))))))
   ·refine .inl ⟨hw,?_⟩;exact ih _ _ _ _ _ _ _ (by rw[Ax];exact rH) h1 (m1.set (s:= .x (.k undef)) (v:=undef) rfl (by rintro b q t i h;cases h) o.dst) hp (by cases o.dst<;>exact wO.trans xH) ((xU.congr qU).set o.dst _) qA
def B6 {df:List Deferred} {nx:List (List Value->PH->Prop)} {k:St->Option Tree} {ops:Array Oper} {ck:Nat->Oper->St->Bool} {kd tg:Nat->Nat} {id dn B:Nat} {st0:St} {β0:Nat->Nat} {R:Act->World->Prop} (hB0:c1.w.heap.size<=B) (hKB:∀k,K k≠none->k<B)
  (hck:∀(i:Nat) (o:Oper) (st:St),ck i o st=true->Bo P st o (kd i) (tg i)=true) (xG:∀i,(kd i=5\/kd i=6)->tg i<st0.bl.length)
  (hk:∀st t ρ' β a W H,a.defers=df->k st=some t->Mt P ⟨c1,H,K⟩ ρ' β st a W->ρ<+:ρ'->st.d=dn->Rg st0 β0 st β->den P G X t nx ρ' H->R a W):∀(L bs:List Nat) (st:St) (t:Tree) (ρ':List Value) (β:Nat->Nat) (a:Act) (W:World) (H:PH),a.defers=df->
  (∀i∈L,frK (kd i)=true)->Bf P true ck ops id k L st=some t->Mt P ⟨c1,H,K⟩ ρ' β st a W->ρ<+:ρ'->st.d=dn->Rg st0 β0 st β->(∀i,i<st.bl.length->β i<B\/β i∈bs)->(∀b,H b≠none->b<B\/b∈bs)->den P G X t nx ρ' H->
  wpF P ops kd (fun i=>β0 (tg i)) B R L bs a W:=by
 intro L;induction L with
 |nil=>intro bs st t ρ' β a W H rH _ h m hp xH xU _ _ hd w hw;exact hk st t ρ' β a w H rH h (m.ext hw) hp xH xU hd
 |cons i L ih=>
  intro bs st t ρ' β a W H rH hkL h m hp xH xU rF vK hd;have xK:∀i∈L,frK (kd i)=true:=fun j hj=>hkL j (by simp[hj]);cases ho:ops[i]? with
  |none=>simp[Bf,ho]at h
  |some o=>
   refine⟨o,ho,?_⟩;have a3p:=hkL i aD;simp only[frK,cO,decide_eq_true_eq,beq_iff_eq]at a3p;rcases HK m ho h hd with⟨hw,st1,t1,m1,qU,wO,tA,h1,qA⟩|⟨hw,st1,t1,m1,qU,wO,tA,h1,qA⟩
   ·refine .inr ⟨hw,?_⟩;obtain⟨qQ,h1⟩:=HJ h1 qA;have qQ:=hck i o st1 qQ;obtain⟨st',hm,sH,hR,hc⟩:=HI m1 h1 qA;have m':=m1.more hm sH;have qS:st'.d=dn:=by rw[hm.d,wO];exact xH
    have xJ:st'.bl=st.bl:=hm.bl.trans qU;have sY:∀i,i<st'.bl.length->β i<B\/β i∈bs:=by rw[xJ];exact rF
    have xI:=xU.congr qU;have qY:=xI.congr hm.bl;have after:∀(t2:Tree) (v:Value) (H':PH) (cs:List Nat) (W':World),Bh st'=true->Bf P true ck ops id k L (Eb st' o.dst)=some t2->Ext W W'->H'.In W'->(∀b,H' b≠none->H b≠none\/b∈cs)->(∀c∈cs,B<=c/\c∉bs)->den P G X t2 nx (ρ'++[v]) H'->
      wpF P ops kd (fun i=>β0 (tg i)) B R L (cs++bs) (a.put o.dst v) W':=fun t2 v H' cs W' qT h2 hx qL sL qR qH=>by
     have mm:=((m'.ext hx).grow (H':=H') qL (fun b hb=>by
      cases e:H' (β b)with
      |none=>rfl
      |some ob=>
       rcases sL (β b) (by simp[e])with h|h
       ·exact absurd (m'.sep b hb) h
       ·have:=qR _ h;rcases sY b hb with h'|h'
        ·omega
        ·exact absurd h' this.2) (fun b hb=>(sL b hb).imp (fun h=>h) (fun h=>cK hB0 (qR b h).1)) (fun k hk=>by
      cases e:H' k with
      |none=>rfl
      |some ob=>
       rcases sL k (by simp[e])with h|h
       ·exact absurd (m'.kpH k hk) h
       ·have:=(qR _ h).1;have:=hKB k hk;omega)).bind qT v o.dst
     refine ih (cs++bs) _ _ _ _ _ _ _ (by rw[Ax];exact rH) xK h2 mm (hp.trans (eT _ _)) (by cases o.dst<;>exact qS) (qY.bind o.dst) ?_ ?_ qH
     ·have:∀i,i<st'.bl.length->β i<B\/β i∈cs++bs:=fun i hi=>(sY i hi).imp (fun h=>h) (fun h=>by simp[h]);cases o.dst<;>exact this
     ·intro b hb;rcases sL b hb with h|h
      ·exact(vK b h).imp (fun h=>h) (fun h=>by simp[h])
      ·exact .inr (by simp[h])
    have fresh:∀(w w':World) (H':PH),Step H w H' w'->∃cs:List Nat,(∀c∈cs,w.heap.size<=c/\c<w'.heap.size)/\∀b,H' b≠none->H b≠none\/b∈cs:=fun w w' H' rB=>by
     refine⟨(List.range w'.heap.size).filter fun b=>decide (w.heap.size<=b),fun c hc=> ?_,fun b hb=> ?_⟩
     ·simp only[bZ,aW,decide_eq_true_eq]at hc;exact⟨hc.2,hc.1⟩
     ·rcases rB.dom b hb with h|h
      ·exact .inl h
      ·right;cases e:H' b with
       |none=>exact absurd e hb
       |some ob=>
        have:=y9 (rB.holds b ob e);simp only[bZ,aW,decide_eq_true_eq];exact⟨this,h⟩
    have fH:∀b,b∉bs->B<=b->H b=none:=fun b rQ hBb=>by
     cases e:H b with
     |none=>rfl
     |some ob=>
      rcases vK b (by simp[e])with h|h
      ·omega
      ·exact absurd h rQ
    have putDom:∀(b:Nat) (ob:Obj) (b':Nat),(H.put b ob) b'≠none->H b'≠none\/b'∈[b]:=fun b ob b' rO=>by
     unfold PH.put at rO;split at rO
     ·rename_i e;exact .inr (by simp[e])
     ·exact .inl rO
    by_cases k5:kd i=5
    ·rw[k5]at qQ;obtain⟨T,x,q,s,ix,vR,uK⟩:=ok5 qQ;have a3q:=m1.ptrB uK;have sZ:β0 (tg i)=β (tg i):=(xI.bt _ (xG i (.inl k5))).symm;have e:(Av P st1 o)=Kv P st1 T x:=by simp[Av,vR]
     rcases HL (P:=P) (T:=T) uK with hb|⟨s',hb⟩
     ·rw[e,hb]at hc;exact hc.elim
     ·rw[e,hb]at hc hR;obtain⟨uI,pY,v,hv,pZ⟩:=hR;obtain⟨t2,h2,qH⟩:=hc;have mm:=m'.set hv (by rw[hm.bl];exact uI) o.dst;have nxt:=ih bs _ _ _ _ _ _ _ (by rw[Ax];exact rH) xK h2 mm hp (by cases o.dst<;>exact qS) (qY.set o.dst s') (by cases o.dst<;>exact sY) vK qH;obtain⟨Bk,hBk⟩:∃B,st1.bl[tg i]? =some B:=⟨_,aG a3q⟩;refine .inr (.inr (.inr (.inr ⟨k5,v,_,by show W.heap[β0 (tg i)]? =_;rw[sZ];exact(m1.bl _ Bk hBk).1,fun w hw=>pZ w (.inr (.inr (.inl ⟨T,x,tg i,q,s,ix,vR,uK,?_⟩))),nxt⟩)));change w.heap[β0 (tg i)]? =_ at hw;rw[sZ]at hw;rw[hw,(m1.bl _ Bk hBk).1]
    have hk4:kd i=0\/kd i=1\/kd i=2\/kd i=3:=aA;cases qO:(Av P st1 o).2 with
    |val s=>
     rw[qO]at hR hc;obtain⟨uI,pY,v,hv,pZ⟩:=hR;obtain⟨t2,h2,qH⟩:=hc;have mm:=m'.set hv (by rw[hm.bl];exact uI) o.dst;have nxt:=ih bs _ _ _ _ _ _ _ (by rw[Ax];exact rH) xK h2 mm hp (by cases o.dst<;>exact qS) (qY.set o.dst s) (by cases o.dst<;>exact sY) vK qH;rcases hk4 with k0|k1|k2|k3
     ·rw[k0]at qQ;exact .inl ⟨k0,v,fun w=>pZ w ((ok0 qQ).imp (fun h=>h) (fun h=> .inr (.inr h))),nxt⟩
     ·exact .inr (.inl ⟨k1,v,fun w hw=>pZ w (.inr (.inl hw)),nxt⟩)
     ·rw[k2]at qQ;have:=(ok2 qQ).1;omega
     ·rw[k3]at qQ;rcases ok3 qQ with h|h
      ·omega
      ·have:=(Ys (P:=P) h).1;omega
    |new c T n=>
     rw[qO]at hR hc;obtain⟨h3,rN,uJ,pZ⟩:=hR;have k3:kd i=3:=by
      rcases hk4 with k0|k1|k2|k3
      ·rw[k0]at qQ;rcases ok0 qQ with h|h
       ·omega
       ·have:=(Rm (P:=P) h).1;omega
      ·rw[k1]at qQ;have:=ok1 qQ;omega
      ·rw[k2]at qQ;have:=(ok2 qQ).1;omega
      ·exact k3
     refine .inr (.inr (.inr (.inl ⟨k3,fun b=> .pointer (some ⟨b,0,none⟩),_,pZ,fun b W' hx sE rQ hBb=> ?_⟩)));have hH:=fH b rQ hBb;rcases hc with⟨t2,_,qT,h2,qH⟩|⟨t2,h2,qH⟩
     ·exact after t2 (.pointer (some ⟨b,0,none⟩)) (H.put b (.cells (D P ρ' c).cells T (0,0))) [b] W' qT h2 hx (PH.put_in (m'.fr.holds.ext hx) sE) (putDom _ _) (fun c hc=>by simp only[bG,cF,or_false]at hc;subst hc;exact⟨hBb,rQ⟩) (qH b hH)
     ·have mm:=m'.newB hx (b:=b) sE rN uJ (fun i hi e=>by
       rcases sY i hi with h|h
       ·omega
       ·rw[e]at h;exact rQ h) (cK hB0 hBb) hH (by
       cases e:K b with
       |none=>exact e
       |some ob=>have:=hKB b (by simp[e]);omega) o.dst
      refine ih (b::bs) _ _ _ _ _ _ _ (by rw[Ax];exact rH) xK h2 mm hp (by cases o.dst<;>exact qS) ?_ ?_ (fun b' rO=>(vK b' rO).imp (fun h=>h) (fun h=>by simp[h])) qH
      ·refine Rg.set (st:={st' with bl:=st'.bl++[Blk.mk c T n]}) ⟨fun b hb=> ?_,by simp;have:=qY.ln;omega⟩ o.dst _;rw[if_neg (by have:=qY.ln;omega)];exact qY.bt b hb
      ·have:∀i,i<(st'.bl++[Blk.mk c T n]).length->(if i=st'.bl.length then b else β i)<B\/(if i=st'.bl.length then b else β i)∈b::bs:=fun i hi=>by
        split
        ·exact .inr aD
        ·rename_i qJ;simp only[aL,aP,bX]at hi;exact(sY i aA).imp (fun h=>h) (fun h=>by simp[h])
       cases o.dst<;>exact this
    |sto b c=>
     rw[qO]at hR;obtain⟨h4,_⟩:=hR;exfalso;rcases hk4 with k0|k1|k2|k3
     ·rw[k0]at qQ;rcases ok0 qQ with h|h
      ·omega
      ·have:=(Rm (P:=P) h).1;omega
     ·rw[k1]at qQ;have:=ok1 qQ;omega
     ·rw[k2]at qQ;have:=(ok2 qQ).1;omega
     ·rw[k3]at qQ;rcases ok3 qQ with h|h
      ·omega
      ·have:=(Ys (P:=P) h).1;omega
    |call f args=>
     rw[qO]at hR hc;obtain⟨h4,pZ⟩:=hR;obtain⟨t2,qT,h2,tB⟩:=hc;have k2:kd i=2:=by
      rcases hk4 with k0|k1|k2|k3
      ·rw[k0]at qQ;rcases ok0 qQ with h|h
       ·omega
       ·have:=(Rm (P:=P) h).1;omega
      ·rw[k1]at qQ;have:=ok1 qQ;omega
      ·exact k2
      ·rw[k3]at qQ;rcases ok3 qQ with h|h
       ·omega
       ·exfalso;unfold mkB at h;split at h<;>first|cases h|(rename_i vR;simp[Av,vR,mkB,sMk,Yi,fl,fm,bad]at qO;split at qO<;>(split at qO<;>simp at qO))
     refine .inr (.inr (.inl ⟨k2,fun v cs W'=>∃H',H'.In W'/\(∀b,H' b≠none->H b≠none\/b∈cs)/\den P G X t2 nx (ρ'++[v]) H',fun w hw=> ?_,fun v cs W' hx ⟨H',qL,sL,qH⟩ qR=>after t2 v H' cs W' qT h2 hx qL sL qR qH⟩));unfold Stp;rw[pZ w];refine(tB w (m'.fr.holds.ext hw)).mono fun e w' hh=> ?_;rcases hh with⟨v,H',he,rB,pY,qH⟩|⟨_,_,vC,_⟩
     rotate_left
     ·cases vC
     refine⟨v,he,rB.toExt (m'.fr.holds.ext hw) (pY rfl),?_⟩;obtain⟨cs,qR,sL⟩:=fresh w w' H' rB;exact⟨cs,qR,H',rB.holds,sL,qH⟩
    |prim args=>
     rw[qO]at hR hc;obtain⟨h4,pZ⟩:=hR;obtain⟨t2,v,qT,h2,hv,qH⟩:=hc;have k1:kd i=1:=by
      rcases hk4 with k0|k1|k2|k3
      ·rw[k0]at qQ;rcases ok0 qQ with h|h
       ·omega
       ·rcases(Rm (P:=P) h).2 with h|⟨s,h⟩<;>rw[h]at qO<;>cases qO
      ·exact k1
      ·rw[k2]at qQ;have:=(ok2 qQ).1;omega
      ·rw[k3]at qQ;rcases ok3 qQ with h|h
       ·omega
       ·have:=(Ys (P:=P) h).1;omega
     exact .inr (.inl ⟨k1,v,fun w hw=>by rw[pZ];exact hv w (m'.fr.holds.ext hw),ih bs _ _ _ _ _ _ _ (by rw[Ax];exact rH) xK h2 (m'.bind qT v o.dst) (hp.trans (eT _ _)) (by cases o.dst<;>exact qS) (qY.bind o.dst) (by cases o.dst<;>exact sY) vK qH⟩)
    |eff args=>
     rw[qO]at hR hc;obtain⟨h4,pZ⟩:=hR;obtain⟨t2,qT,h2,tB⟩:=hc;have k2:kd i=2:=by
      rcases hk4 with k0|k1|k2|k3
      ·rw[k0]at qQ;rcases ok0 qQ with h|h
       ·omega
       ·have:=(Rm (P:=P) h).1;omega
      ·rw[k1]at qQ;have:=ok1 qQ;omega
      ·exact k2
      ·rw[k3]at qQ;rcases ok3 qQ with h|h
       ·omega
       ·exfalso;unfold mkB at h;split at h<;>first|cases h|(rename_i vR;simp[Av,vR,mkB,h,sMk,bad]at qO;split at qO<;>simp at qO)
     refine .inr (.inr (.inl ⟨k2,fun v cs W'=>∃H',H'.In W'/\(∀b,H' b≠none->H b≠none\/b∈cs)/\den P G X t2 nx (ρ'++[v]) H',fun w hw=> ?_,fun v cs W' hx ⟨H',qL,sL,qH⟩ qR=>after t2 v H' cs W' qT h2 hx qL sL qR qH⟩));refine Stp.cg pZ<|Stp.mono ((tB w (m'.fr.holds.ext hw)).toStp fun _ _ hx=>by cases hx.1) fun v w' ⟨H',rB,pY,qH⟩=>⟨rB.toExt (m'.fr.holds.ext hw) (pY rfl),?_⟩;obtain⟨cs,qR,sL⟩:=fresh w w' H' rB;exact⟨cs,qR,H',rB.holds,sL,qH⟩
    |ext f args=>
     rw[qO]at hR hc;obtain⟨h4,pZ⟩:=hR;obtain⟨t2,v,qT,h2,hv,qH⟩:=hc;have k2:kd i=2:=by
      rcases hk4 with k0|k1|k2|k3
      ·rw[k0]at qQ;rcases ok0 qQ with h|h
       ·omega
       ·have:=(Rm (P:=P) h).1;omega
      ·rw[k1]at qQ;have:=ok1 qQ;omega
      ·exact k2
      ·rw[k3]at qQ;rcases ok3 qQ with h|h
       ·omega
       ·exfalso;unfold mkB at h;split at h<;>first|cases h|(rename_i vR;simp[Av,vR,mkB,h,sMk,bad]at qO;split at qO<;>simp at qO)
     refine .inr (.inr (.inl ⟨k2,fun u cs W'=>u=v/\cs=[],fun w hw=> ?_,fun u cs W' hx hV qR=> ?_⟩))
     ·unfold Stp;rw[pZ,hv w (m'.fr.holds.ext hw)];exact⟨Ext.refl _,[],aD,rfl,rfl⟩
     ·obtain⟨rfl,rfl⟩:=hV;exact after t2 u H [] W' qT h2 hx (m'.fr.holds.ext hx) (fun b hb=> .inl hb) qR qH
    |mk args=>
     rw[qO]at hR hc;obtain⟨hmk,pZ⟩:=hR;obtain⟨t2,qT,h2,mk,ob,hr,qH⟩:=hc;have k3:kd i=3:=by
      have sS:=Ys (P:=P) hmk;rcases hk4 with k0|k1|k2|k3
      ·rw[k0]at qQ;rcases ok0 qQ with h|h
       ·omega
       ·rw[sS.2]at h;cases h
      ·rw[k1]at qQ;have:=ok1 qQ;omega
      ·rw[k2]at qQ;rw[(ok2 qQ).2]at hmk;cases hmk
      ·exact k3
     refine .inr (.inr (.inr (.inl ⟨k3,mk,ob,fun w=>by rw[pZ];exact hr w,fun b W' hx sE rQ hBb=> ?_⟩)));exact after t2 (mk b) (H.put b ob) [b] W' qT h2 hx (PH.put_in (m'.fr.holds.ext hx) sE) (putDom _ _) (fun c hc=>by simp only[bG,cF,or_false]at hc;subst hc;exact⟨hBb,rQ⟩) (qH b (fH b rQ hBb))
    |bad=>rw[qO]at hc;exact hc.elim
   ·refine .inl ⟨hw,?_⟩;exact ih bs _ _ _ _ _ _ _ (by rw[Ax];exact rH) xK h1 (m1.set (s:= .x (.k undef)) (v:=undef) rfl (by rintro b q t i h;cases h) o.dst) hp (by cases o.dst<;>exact wO.trans xH) ((xU.congr qU).set o.dst _) (by cases o.dst<;>(simp only[St.set];rw[qU];exact rF)) vK qA
end
end Go.RX

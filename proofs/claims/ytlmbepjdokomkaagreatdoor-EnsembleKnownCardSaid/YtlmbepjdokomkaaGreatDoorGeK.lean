/- Lemmas of the proof. -/
import Derived.Test.YtlmbepjdokomkaaGreatDoorGeT
import Derived.DeepKeys3
import Derived.Test.YtlmbepjdokomkaaGreatDoorSrG
import Derived.StringKeys
open Array renaming all_eq_true_iff_forall_mem->jW,toList->nQ
open Bool renaming and_true->jJ,true_and->nP
open Go.Result renaming andThen_ok->eL
open Go.Sem renaming run_bind->eM,run_pure->eO
open Go.Value.int renaming injEq->kG
open List renaming foldr_cons->nB,getElem?_inj->gU,map_map->fM,map_toArray->gA,mem_or_eq_of_mem_set->kV,nodup_iff_pairwise_ne->kP,nodup_nil->fQ,range'->gR,range'_succ->mU,range->eT,range_eq_range'->jP,sum_cons->eY
open List.Pairwise renaming nil->mC
open Nat renaming and_assoc->jU,and_le_left->iS,and_le_right->jD,and_self->iE,beq->gP,blt->lN,blt_eq->oM,eq_of_testBit_eq->fE,lt_pow_two_of_testBit->lC,or_comm->oJ,pow_succ->kJ,succ->oN,testBit->oI,testBit_and->iR,testBit_div_two_pow->lI,testBit_lt_two_pow->jO,testBit_or->eV,testBit_two_pow->eU,testBit_two_pow_mul->jE,testBit_xor->nJ,two_pow_pos->iT
open Prod.mk renaming injEq->jK
set_option linter.all false
set_option maxRecDepth 100000
namespace Go.GS
def KD {a b:Nat} (h:∀y,bit b y=true->bit a y=true):b<=a:=by
 have:b&&&a=b:=Gu fun y=>by
  rw[Ia];cases hb:bit b y with
  |false=>rfl
  |true=>rw[h y hb];rfl
 rw[<-this];exact jD
def d2K {part rest x k:Nat} (hk:bit part k=true) (hl:∀j,j<k->bit part j=false) (hp:part&&&rest=part) (hx:x&&&rest=x) (oV:x<part):x<=(part-1)&&&rest:=by
 have hs:=JI hk hl;have vA:∀y,bit part y=true->bit rest y=true:=fun y hy=>by
  have:bit (part&&&rest) y=true:=by rw[hp];exact hy
  rw[Ia,aT]at this;exact this.2
 have hxr:∀y,bit x y=true->bit rest y=true:=fun y hy=>by
  have:bit (x&&&rest) y=true:=by rw[hx];exact hy
  rw[Ia,aT]at this;exact this.2
 have hq:∀y,bit (2^(k+1)*(part/2^(k+1))) y=(decide (k+1<=y)&&bit part y):=fun y=>by
  unfold bit;rw[jE,lI];by_cases h:k+1<=y
  ·rw[oDd h];simp only[nP];congr 1;omega
  ·rw[decide_eq_false h];simp
 have oW:2^(k+1)*(part/2^(k+1))<=(part-1)&&&rest:=KD fun y hy=>by
  rw[hq,aT,oDi]at hy;rw[Ia,Yf hk hl,if_neg aA,if_neg aA,hy.2,vA y hy.2];rfl
 generalize hQ:part/2^(k+1)=q at hs hq oW;have rM:2^(k+1)=2^k*2:=kJ ..;have qF:=iT k;have h1:x/2^k<2*q+1:=by
  rw[eF qF];have:(2*q+1)*2^k=2^(k+1)*q+2^k:=by rw[rM];grind
  omega
 by_cases e:x/2^k=2*q
 ·refine KD fun y hy=> ?_;rw[Ia,Yf hk hl,hxr y hy,jJ];by_cases h2:y<k
  ·rw[if_pos h2]
  ·have h3:bit (2^(k+1)*q) y=true:=by
    have e2:2^(k+1)*q=2^k*(x/2^k):=by rw[e,rM];grind
    rw[e2];unfold bit;rw[jE,lI,oDd (show y≥k by omega),nP];have:y-k+k=y:=aA;rw[this];exact hy
   rw[hq,aT,oDi]at h3;rw[if_neg h2,if_neg aA];exact h3.2
 ·have h2:x/2^k+1<=2*q:=aA;have h3:=Nat.lt_mul_div_succ x qF;have h4:2^k*(x/2^k+1)<=2^k*(2*q):=Nat.mul_le_mul_left _ h2;have e2:2^(k+1)*q=2^k*(2*q):=by rw[rM];grind
  omega
def c6R {s:Nat} (h0:s≠0):∃k,bit s k=true/\∀j,j<k->bit s j=false:=by
 obtain⟨x,hx⟩:∃x,bit s x=true:=bW fun hh=>h0 (Gu fun y=>by rw[Ej];cases hb:bit s y with|false=>rfl|true=>exact absurd ⟨y,hb⟩ hh);have:∀m,(∃k,k<m/\bit s k=true)->∃k,bit s k=true/\∀j,j<k->bit s j=false:=by
  intro m;induction m with
  |zero=>rintro⟨k,h,_⟩;omega
  |succ m ih=>
   rintro⟨k,h1,h2⟩;by_cases h:∃k,k<m/\bit s k=true
   ·exact ih h
   ·refine⟨k,h2,fun j hj=> ?_⟩;cases hb:bit s j with
    |false=>rfl
    |true=>exact absurd ⟨j,aA,hb⟩ h
 exact this (x+1) ⟨x,aA,hx⟩
def Jh (S:Nat):Nat->Nat->List Nat
 |0,_=>[]
 |f+1,s=>s::if s=0 then[]else Jh S f ((s-1)&&&S)
def sbs (S:Nat):List Nat:=Jh S (S+1) S
def KE {S:Nat}:∀{f s:Nat},s&&&S=s->∀x∈Jh S f s,x&&&S=x/\x<=s:=by
 intro f;induction f with
 |zero=>intro s _ x h;cases h
 |succ f ih=>
  intro s hs x hx;unfold Jh at hx;rcases aX.1 hx with rfl|hx
  ·exact⟨hs,aS _⟩
  ·split at hx
   ·cases hx
   ·obtain⟨h1,h2⟩:=ih (by rw[jU,iE]) x hx;have:(s-1)&&&S<=s-1:=iS;exact⟨h1,aA⟩
def c6S {S:Nat}:∀{f s x:Nat},s<f->s&&&S=s->x&&&S=x->x<=s->x∈Jh S f s:=by
 intro f;induction f with
 |zero=>intro s x h;omega
 |succ f ih=>
  intro s x hf hs hx oW;unfold Jh;rw[aX];by_cases e:x=s
  ·exact .inl e
  ·have h0:s≠0:=aA;obtain⟨k,hk,hl⟩:=c6R h0;have yW:=d2K hk hl hs hx aA;have:(s-1)&&&S<=s-1:=iS;rw[if_neg h0];exact .inr (ih aA (by rw[jU,iE]) hx yW)
def d2L {S:Nat}:∀{f s:Nat},s&&&S=s->(Jh S f s).Nodup:=by
 intro f;induction f with
 |zero=>intro s _;exact fQ
 |succ f ih=>
  intro s hs;unfold Jh;refine eD.2 ⟨fun h=> ?_,?_⟩
  ·split at h
   ·cases h
   ·have h1:=(KE (by rw[jU,iE]) s h).2;have:(s-1)&&&S<=s-1:=iS;omega
  ·split
   ·exact fQ
   ·exact ih (by rw[jU,iE])
def sbs_mem {S s:Nat}:s∈sbs S↔s&&&S=s:=by
 refine⟨fun h=>(KE (iE S) s h).1,fun h=>c6S (cY S) (iE S) h ?_⟩;rw[<-h];exact jD
def wj (S:Nat):(sbs S).Nodup:=d2L (iE S)
def sbT (S:Nat) (F:Nat->Nat):Nat:=((sbs S).map F).sum
def sub_bit_iff {s S:Nat}:s&&&S=s↔∀i,s.testBit i=true->S.testBit i=true:=by
 constructor
 ·intro h i hi;rw[<-h,iR,aT]at hi;exact hi.2
 ·intro h;apply fE;intro i;rw[iR];cases hs:s.testBit i with
  |false=>rfl
  |true=>rw[h i hs];rfl
def KF {v R:Nat} (hv:R.testBit v=false) (F:Nat->Nat):sbT (R|||2^v) F=sbT R F+sbT R fun s=>F (s|||2^v):=by
 have tb:∀i,(2^v).testBit i=decide (v=i):=fun i=>by rw[eU]
 have hp:(sbs (R|||2^v)).Perm (sbs R++(sbs R).map fun s=>s|||2^v):=by
  refine(List.perm_ext_iff_of_nodup (wj _) ?_).2 fun s=> ?_
  ·rw[eI];refine⟨wj R,?_,?_⟩
   ·rw[kP,List.pairwise_map];refine(kP.1 (wj R)).imp_of_mem ?_;intro a b ha hb pI e;apply pI;apply fE;intro i;have e1:=congrArg (fun x=>oI x i) e;simp only[eV,tb]at e1;by_cases hi:v=i
    ·subst hi;have h1:a.testBit v=false:=by
      cases h:a.testBit v with
      |false=>rfl
      |true=>rw[sub_bit_iff.1 (sbs_mem.1 ha) v h]at hv;cases hv
     have h2:b.testBit v=false:=by
      cases h:b.testBit v with
      |false=>rfl
      |true=>rw[sub_bit_iff.1 (sbs_mem.1 hb) v h]at hv;cases hv
     rw[h1,h2]
    ·simpa[hi]using e1
   ·intro a ha b hb e;obtain⟨c,hc,rfl⟩:=bK.1 hb;have:a.testBit v=true:=by rw[e,eV,tb];simp
    rw[sub_bit_iff.1 (sbs_mem.1 ha) v this]at hv;cases hv
  ·rw[bC,bK,sbs_mem,sbs_mem,sub_bit_iff,sub_bit_iff];constructor
   ·intro h;cases hs:s.testBit v with
    |false=>
     refine .inl fun i hi=> ?_;have:=h i hi;rw[eV,tb]at this;by_cases e:v=i
     ·subst e;rw[hs]at hi;cases hi
     ·simpa[e]using this
    |true=>
     refine .inr ⟨s^^^2^v,?_,?_⟩
     ·rw[sbs_mem,sub_bit_iff];intro i hi;rw[nJ,tb]at hi;by_cases e:v=i
      ·subst e;rw[hs]at hi;simp at hi
      ·have h1:s.testBit i=true:=by simpa[e]using hi
       have:=h i h1;rw[eV,tb]at this;simpa[e]using this
     ·apply fE;intro i;rw[eV,nJ,tb];by_cases e:v=i
      ·subst e;rw[hs];simp
      ·simp[e]
   ·rintro(h|⟨c,hc,rfl⟩) i hi
    ·rw[eV,h i hi];rfl
    ·rw[sbs_mem,sub_bit_iff]at hc;rw[eV]at hi⊢;rw[cV]at hi;rcases hi with hi|hi
     ·rw[hc i hi];rfl
     ·rw[hi];simp
 unfold sbT;rw[(hp.map F).sum_nat,bI,List.sum_append_nat,fM];rfl
def Kx {S:Nat} {F G:Nat->Nat} (h:∀s∈sbs S,F s=G s):sbT S F=sbT S G:=by
 unfold sbT;rw[dA h]
def d2M (S:Nat) (F G:Nat->Nat):sbT S (fun s=>F s+G s)=sbT S F+sbT S G:=by
 unfold sbT;induction sbs S with
 |nil=>rfl
 |cons a l ih=>simp only[aU,eY,ih];omega
def KG (S:Nat):sbT S (fun _=>0)=0:=by
 unfold sbT;induction sbs S with
 |nil=>rfl
 |cons a l ih=>simp only[aU,eY,ih]
def c6T (S:Nat) {α:Type} (L:List α) (F:α->Nat->Nat):sbT S (fun s=>(L.map fun a=>F a s).sum)=(L.map fun a=>sbT S (F a)).sum:=by
 induction L with
 |nil=>exact KG S
 |cons a l ih=>simp only[aU,eY,d2M,ih]
def c6U:sbs 0=[0]:=aC
def KH (F:Nat->Nat):sbT 0 F=F 0:=by unfold sbT;rw[c6U];simp
def d2N (a b:Nat):sdf a b&&&a=sdf a b:=by
 apply fE;intro i;rw[iR,Kv];cases a.testBit i<;>simp
def Yp {s S:Nat} (h:s&&&S=s):s<=S:=by rw[<-h];exact jD
def wk (a b:Nat):sdf a b<=a:=Yp (d2N a b)
def Uo {a b n:Nat} (h:a<2^n):sdf a b<2^n:=aR (wk a b) h
def Ih (S:Nat):Nat:=(eT S).foldr (fun i r=>if S.testBit i then i else r) 0
def z7 (ft:Nat->Bool):Nat->Nat->Nat
 |0,S=>if S=0 then 1 else 0
 |k+1,S=>if S=0 then 0 else sbT (sdf S (2^Ih S)) fun s=>if ft (s|||2^Ih S)then z7 ft k (sdf (sdf S s) (2^Ih S))else 0
def y4 (ft:Nat->Bool):List Nat->Nat->Nat->Nat
 |[],R,k=>z7 ft k R
 |_::_,_,0=>0
 |c::cs,R,k+1=>sbT R fun s=>if ft (c|||s)then y4 ft cs (sdf R s) k else 0
def wn (ft:Nat->Bool) (c:Nat) (cs:List Nat) (R k:Nat):y4 ft (c::cs) R (k+1)=sbT R fun s=>if ft (c|||s)then y4 ft cs (sdf R s) k else 0:=rfl
def KI {ft:Nat->Bool}:∀(cs:List Nat) (R k:Nat),k<cs.length->y4 ft cs R k=0:=by
 intro cs;induction cs with
 |nil=>intro R k h;cases h
 |cons c cs ih=>
  intro R k h;cases k with
  |zero=>rfl
  |succ k=>
   unfold y4;rw[Kx (G:=fun _=>0) fun s _=>by split;(exact ih _ _ (by simpa using h));rfl];exact KG _
def KJ {S:Nat} {F G:Nat->Nat} (h:∀s,F s<=G s):sbT S F<=sbT S G:=by
 unfold sbT;induction sbs S with
 |nil=>exact aS _
 |cons a l ih=>simp only[aU,eY];have:=h a;omega
def d2O (S c:Nat) (F:Nat->Nat):(sbT S fun s=>F s*c)=sbT S F*c:=by
 unfold sbT;induction sbs S with
 |nil=>simp
 |cons a l ih=>simp only[aU,eY,ih,cM]
def cdN (n S:Nat):Nat:=(eT n).countP S.testBit
def Qp (n S:Nat):cdN (n+1) S=cdN n S+if S.testBit n then 1 else 0:=by
 unfold cdN;rw[List.range_succ,List.countP_append];simp[List.countP_cons]
def KL (n S:Nat):cdN n S<=n:=by
 have:=List.countP_le_length (p:=S.testBit) (l:=eT n);rw[List.length_range]at this;exact this
def wq {n a b:Nat} (h:∀i,i<n->a.testBit i=true->b.testBit i=true):cdN n a<=cdN n b:=by
 induction n with
 |zero=>exact aS _
 |succ n ih=>
  have h1:=ih fun i hi=>h i aA;have h2:=h n aA;rw[Qp,Qp];split
  ·rename_i e;rw[if_pos (h2 e)];omega
  ·split<;>omega
def ww {n a b:Nat} (h:∀i,i<n->a.testBit i=b.testBit i):cdN n a=cdN n b:=
 Nat.le_antisymm (wq fun i hi e=>by rw[<-h i hi];exact e) (wq fun i hi e=>by rw[h i hi];exact e)
def Gx (a b i:Nat):(sdf a b).testBit i=(a.testBit i&& !b.testBit i):=Jf a b i
def KN (c:Nat):∀(n R:Nat),R<2^n->sbT R (fun s=>c^cdN n (sdf R s))=(c+1)^cdN n R:=by
 intro n;induction n with
 | zero => intro R hR; have : R = 0 := by simpa using hR
           subst this;rw[KH];rfl
 |succ n ih=>
  intro R hR;by_cases hb:R.testBit n=true
  ·have hv:(sdf R (2^n)).testBit n=false:=by rw[Gx,eU];simp
   have oV:sdf R (2^n)<2^n:=lC _ fun i hi=>by
    rw[Gx,eU];by_cases e:n=i
    ·simp[e]
    ·rw[jO (aM hR (bB aC aA))];rfl
   have hR':R=sdf R (2^n)|||2^n:=fE fun i=>by
    rw[eV,Gx,eU];by_cases e:n=i
    ·subst e;simp[hb]
    ·simp[e]
   generalize sdf R (2^n)=Q at hv oV hR';subst hR';have hs:∀s∈sbs Q,s.testBit n=false:=fun s h=>by
    cases e:s.testBit n with
    |false=>rfl
    |true=>exact absurd (sub_bit_iff.1 (sbs_mem.1 h) n e) (by rw[hv];simp)
   have e1:sbT Q (fun s=>c^cdN (n+1) (sdf (Q|||2^n) s))=sbT Q (fun s=>c^cdN n (sdf Q s))*c:=by
    rw[<-d2O];refine Kx fun s h=> ?_;rw[Qp,Gx,hb,hs s h,<-kJ];congr 1;show _+1=_+1;congr 1;exact ww fun i hi=>by rw[Gx,Gx,eV,eU];simp[show n≠i by omega]
   have e2:sbT Q (fun s=>c^cdN (n+1) (sdf (Q|||2^n) (s|||2^n)))=sbT Q (fun s=>c^cdN n (sdf Q s)):=by
    refine Kx fun s h=> ?_;rw[Qp,Gx,eV (x:=s),eU];simp only[decide_true,Bool.or_true,Bool.not_true,Bool.and_false,aZ,if_false,cP];congr 1;exact ww fun i hi=>by rw[Gx,Gx,eV,eV,eU];simp[show n≠i by omega]
   have e:cdN n (Q|||2^n)=cdN n Q:=ww fun i hi=>by rw[eV,eU];simp[show n≠i by omega]
   rw[KF hv,e1,e2,ih Q oV,Qp,hb,if_pos rfl,kJ,e];grind
  ·have qJ:R.testBit n=false:=by simpa using hb
   have oV:R<2^n:=lC _ fun i hi=>by
    by_cases e:i=n
    ·rw[e];exact qJ
    ·exact jO (aM hR (bB aC aA))
   have e3:cdN (n+1) R=cdN n R:=by rw[Qp,qJ];simp
   rw[e3,<-ih R oV];refine Kx fun s _=> ?_;rw[Qp,Gx,qJ];simp
def KO {ft:Nat->Bool} {n:Nat}:∀(k S:Nat),S<2^n->z7 ft k S<=k^cdN n S:=by
 intro k;induction k with
 |zero=>
  intro S hS;unfold z7;split
  ·rename_i h;subst h;rw[show cdN n 0=0 by unfold cdN;simp];exact aS _
  ·exact bJ _
 |succ k ih=>
  intro S hS;unfold z7;split
  ·exact bJ _
  ·have hR:=Uo (b:=2^Ih S) hS;refine bM (KJ (G:=fun s=>k^cdN n (sdf (sdf S (2^Ih S)) s)) fun s=> ?_) ?_
   ·split
    ·rw[show sdf (sdf S s) (2^Ih S)=sdf (sdf S (2^Ih S)) s from fE fun i=>by simp only[Gx];cases S.testBit i<;>simp[Bool.and_comm]];exact ih _ (Uo hR)
    ·exact bJ _
   ·rw[KN k n _ hR];exact bB aA (wq fun i _ h=>by rw[Gx]at h;simp at h;exact h.1)
def d2P {ft:Nat->Bool} {n:Nat}:∀(cs:List Nat) (R k:Nat),R<2^n->y4 ft cs R k<=k^cdN n R:=by
 intro cs;induction cs with
 |nil=>intro R k h;exact KO k R h
 |cons c cs ih=>
  intro R k hR;cases k with
  |zero=>exact bJ _
  |succ k=>
   unfold y4;refine bM (KJ (G:=fun s=>k^cdN n (sdf R s)) fun s=> ?_) (Nat.le_of_eq (KN k n R hR));split
   ·exact ih _ _ (Uo hR)
   ·exact bJ _
def KP {k n m:Nat} (hk:k<=8) (hm:m<=n):k^m<=8^n:=bM (Nat.pow_le_pow_left hk m) (bB aC hm)
def d2Q {ft:Nat->Bool} {n k S:Nat} (hk:k<=8) (h:S<2^n):z7 ft k S<=8^n:=bM (KO k S h) (KP hk (KL n S))
def wz {ft:Nat->Bool} {n k R:Nat} {cs:List Nat} (hk:k<=8) (h:R<2^n):y4 ft cs R k<=8^n:=bM (d2P cs R k h) (KP hk (KL n R))
def z8 (cs:List Nat) (v l:Nat):List Nat:=if l<cs.length then cs.modify l (· |||2^v)else cs++[2^v]
def KQ {R v:Nat} (h:∀i,i<=v->R.testBit i=false):Ih (R|||2^v)=v:=by
 have hv:(R|||2^v).testBit v=true:=by rw[eV,eU];simp
 have hl:∀i,i<v->(R|||2^v).testBit i=false:=fun i hi=>by
  rw[eV,eU,h i aA];simp;omega
 have oV:v<R|||2^v:=aM (Nat.lt_two_pow_self) Nat.right_le_or;unfold Ih;have:eT (R|||2^v)=eT v++v::(gR (v+1) ((R|||2^v)-(v+1))):=by
  rw[jP,jP,<-mU];have:=List.range'_append (s:=0) (m:=v) (n:=(R|||2^v)-(v+1)+1) (step:=1);rw[bP,cL]at this;rw[this];congr 1;omega
 rw[this,List.foldr_append,nB,if_pos hv];have:∀l:List Nat,(∀i∈l,i<v)->l.foldr (fun i r=>if(R|||2^v).testBit i then i else r) v=v:=by
  intro l;induction l with
  |nil=>intro _;rfl
  |cons a l ih=>intro h;rw[nB,if_neg (by rw[hl a (h a (.head _))];simp)];exact ih fun i hi=>h i (.tail _ hi)
 exact this _ fun i hi=>bH.1 hi
def KR {R v:Nat} (h:R.testBit v=false):sdf (R|||2^v) (2^v)=R:=by
 apply fE;intro i;rw[Kv,eV,eU];by_cases e:v=i
 ·subst e;rw[h];simp
 ·simp[e]
def KT {R s v:Nat} (h:R.testBit v=false) (hs:s&&&R=s):sdf (R|||2^v) s=sdf R s|||2^v:=by
 apply fE;intro i;have hb:=sub_bit_iff.1 hs v;rw[Kv,eV,eV,Kv,eU];by_cases e:v=i
 ·subst e;cases hsv:s.testBit v with
  |false=>simp
  |true=>rw[hb hsv]at h;cases h
 ·simp[e]
def d2R {R s v:Nat} (h:R.testBit v=false):sdf (R|||2^v) (s|||2^v)=sdf R s:=by
 apply fE;intro i;rw[Kv,eV,eV,Kv,eU];by_cases e:v=i
 ·subst e;rw[h];simp
 ·simp[e]
def KU {R s v:Nat} (h:∀i,i<=v->R.testBit i=false):∀i,i<=v->(sdf R s).testBit i=false:=fun i hi=>by rw[Kv,h i hi];rfl
def KV {ft:Nat->Bool} {v:Nat}:∀(cs:List Nat) (R k:Nat),(∀i,i<=v->R.testBit i=false)->
  y4 ft cs (R|||2^v) k=((eT (cs.length+1)).map fun l=>y4 ft (z8 cs v l) R k).sum:=by
 intro cs;induction cs with
 |nil=>
  intro R k hR;have pI:R|||2^v≠0:=fun e=>by
   have:=congrArg (fun x=>oI x v) e;simp at this
  show z7 ft k (R|||2^v)=(y4 ft [2^v] R k+0);cases k with
  |zero=>unfold z7;rw[if_neg pI];rfl
  |succ k=>
   unfold z7;rw[if_neg pI,KQ hR,KR (hR v (aS _))];show _=sbT R _+0;rw[cP];refine Kx fun s hs=> ?_;rw[oJ,KT (hR v (aS _)) (sbs_mem.1 hs),KR (KU hR v (aS _))];rfl
 |cons c cs ih=>
  intro R k hR;cases k with
  |zero=>
   show 0=_
   symm
   have:∀l,y4 ft (z8 (c::cs) v l) R 0=0:=fun l=>by
    unfold z8;split
    ·exact KI _ _ _ aD
    ·rfl
   simp only[this];induction eT ((c::cs).length+1)with
   |nil=>rfl
   |cons a l ih=>rw[aU,eY,ih]
  |succ k=>
   have hv:=hR v (aS _);have e1:y4 ft (c::cs) (R|||2^v) (k+1)=sbT R (fun s=>if ft (c|||s)then((eT (cs.length+1)).map fun l=>y4 ft (z8 cs v l) (sdf R s) k).sum else 0)+sbT R (fun s=>if ft (c|||(s|||2^v))then y4 ft cs (sdf R s) k else 0):=by
    rw[wn,KF hv];congr 1
    ·refine Kx fun s hs=> ?_;rw[KT hv (sbs_mem.1 hs),ih (sdf R s) k (KU hR)]
    ·refine Kx fun s hs=> ?_;rw[d2R hv]
   rw[e1,aO,List.range_succ_eq_map (n:=cs.length+1),aU (f:=fun l=>y4 ft (z8 (c::cs) v l) R (k+1)),eY,Nat.add_comm];congr 1
   ·show _=y4 ft ((c|||2^v)::cs) R (k+1);rw[wn];refine Kx fun s _=> ?_;rw[oJ s,<-Nat.or_assoc]
   ·rw[fM];have e2:∀l,y4 ft (z8 (c::cs) v (l+1)) R (k+1)=sbT R fun s=>if ft (c|||s)then y4 ft (z8 cs v l) (sdf R s) k else 0:=fun l=>by
     unfold z8;by_cases hl:l<cs.length
     ·rw[if_pos (by simpa using hl),if_pos hl];rfl
     ·rw[if_neg (by simpa using hl),if_neg hl];rfl
    rw[show(fun l=>y4 ft (z8 (c::cs) v l) R (k+1)) ∘ oN=fun l=>sbT R fun s=>if ft (c|||s)then y4 ft (z8 cs v l) (sdf R s) k else 0 from funext e2,<-c6T];refine Kx fun s _=> ?_;split
    ·rfl
    ·induction eT (cs.length+1)with
     |nil=>rfl
     |cons a l ih=>rw[aU,eY,<-ih]
def Az (n v:Nat):Nat:=2^n-2^v
def c6V {n v:Nat} (h:v<=n):Az n v=2^v*(2^(n-v)-1):=by
 unfold Az;rw[Nat.mul_sub,<-Nat.pow_add,Nat.mul_one,Nat.add_sub_cancel' h]
def xa {n v:Nat} (h:v<=n) (i:Nat):(Az n v).testBit i=(decide (v<=i)&&decide (i<n)):=by
 rw[c6V h,jE,Nat.testBit_two_pow_sub_one];by_cases hv:v<=i
 ·simp[hv];omega
 ·simp[hv]
def KW {n v:Nat} (h:v<n):Az n v=Az n (v+1)|||2^v:=by
 apply fE;intro i;rw[xa (Nat.le_of_lt h),eV,xa h,eU];by_cases e:v=i
 ·subst e;simp[h]
 ·have:decide (v<=i)=decide (v+1<=i):=by rw[decide_eq_decide];omega
  simp[e,this]
def KX {n v:Nat} (h:v<n):∀i,i<=v->(Az n (v+1)).testBit i=false:=fun i hi=>by
 rw[xa h];simp;omega
def Yq (n v:Nat):Az n v<2^n:=by
 have:=iT v;have:=iT n;unfold Az;omega
def c1l (n:Nat):Az n n=0:=eA _
def Dq (c:Nat->Nat):Nat->Nat->Nat->Nat×Nat
 |0,l,i=>(l,i)
 |f+1,l,i=>if i<c l then(l,i)else Dq c f (l+1) (i-c l)
def b8f (c:Nat->Nat) (f l i:Nat):Dq c (f+1) l i=if i<c l then(l,i)else Dq c f (l+1) (i-c l):=rfl
def c6W {c:Nat->Nat}:∀(m l i:Nat),i<((gR l m).map c).sum->(Dq c m l i).1<l+m/\(Dq c m l i).2<c (Dq c m l i).1:=by
 intro m;induction m with
 |zero=>intro l i h;simp at h
 |succ m ih=>
  intro l i h;rw[mU,aU,eY]at h;unfold Dq;split
  ·rename_i hi;exact⟨aA,hi⟩
  ·rename_i hi;have:=ih (l+1) (i-c l) aA;exact⟨aA,this.2⟩
def stN (ft:Nat->Bool) (n k i:Nat):Nat->List Nat×List Nat×Nat
 |0=>([],[],i)
 |v+1=>((stN ft n k i v).1++[(Dq (fun l=>y4 ft (z8 (stN ft n k i v).2.1 v l) (Az n (v+1)) k) ((stN ft n k i v).2.1.length+1) 0 (stN ft n k i v).2.2).1],
   z8 (stN ft n k i v).2.1 v (Dq (fun l=>y4 ft (z8 (stN ft n k i v).2.1 v l) (Az n (v+1)) k) ((stN ft n k i v).2.1.length+1) 0 (stN ft n k i v).2.2).1,
   (Dq (fun l=>y4 ft (z8 (stN ft n k i v).2.1 v l) (Az n (v+1)) k) ((stN ft n k i v).2.1.length+1) 0 (stN ft n k i v).2.2).2)
def Yr (ft:Nat->Bool) (n k i:Nat):List Nat:=(stN ft n k i n).1
def ij (cs:List Nat) (v l:Nat):(z8 cs v l).length=if l<cs.length then cs.length else cs.length+1:=by
 unfold z8;split<;>simp
structure StI (ft:Nat->Bool) (n k v:Nat) (s:List Nat×List Nat×Nat):Prop where
 len:s.1.length=v
 lt:∀l∈s.1,l<s.2.1.length
 all:∀l,l<s.2.1.length->l∈s.1
 cnt:s.2.2<y4 ft s.2.1 (Az n v) k
def KY {ft:Nat->Bool} {n k i:Nat} (hi:i<y4 ft [] (Az n 0) k):∀v,v<=n->StI ft n k v (stN ft n k i v):=by
 intro v;induction v with
 |zero=>intro _;exact⟨rfl,(fun l h=>nomatch h),(fun l h=>nomatch h),hi⟩
 |succ v ih=>
  intro hv;have h:=ih aA;have h0:=h.cnt;rw[KW aA,KV _ _ _ (KX aA),jP]at h0;have hp:=c6W (c:=fun l=>y4 ft (z8 (stN ft n k i v).2.1 v l) (Az n (v+1)) k) _ _ _ h0;show StI ft n k (v+1) (_,_,_);generalize hq:Dq (fun l=>y4 ft (z8 (stN ft n k i v).2.1 v l) (Az n (v+1)) k) ((stN ft n k i v).2.1.length+1) 0 (stN ft n k i v).2.2=q at hp⊢;obtain⟨sL,qG⟩:=hp;refine⟨by simp[h.len],fun l hl=> ?_,fun l hl=> ?_,qG⟩
  ·show l<(z8 _ _ _).length;rw[ij];rcases bC.1 hl with hl|hl
   ·have:=h.lt l hl;split<;>omega
   ·rw[bA]at hl;subst hl;split
    ·assumption
    ·omega
  ·replace hl:l<(z8 _ _ _).length:=hl;rw[ij]at hl;show l∈_++[_];rw[bC,bA];split at hl
   ·exact .inl (h.all l hl)
   ·by_cases e:l=q.1
    ·exact .inr e
    ·exact .inl (h.all l aA)
def c6X {ft:Nat->Bool}:∀(cs:List Nat) (k:Nat),y4 ft cs 0 k=if k=cs.length/\∀c∈cs,ft c=true then 1 else 0:=by
 intro cs;induction cs with
 |nil=>
  intro k;show z7 ft k 0=_;cases k with
  |zero=>simp[z7]
  |succ k=>simp[z7]
 |cons c cs ih=>
  intro k;cases k with
  |zero=>rw[if_neg aD];rfl
  |succ k=>
   rw[wn,KH,Nat.or_zero,show sdf 0 0=0 from rfl,ih];simp only[aO,Nat.add_right_cancel_iff,List.forall_mem_cons];by_cases h1:ft c=true<;>by_cases h2:k=cs.length/\∀c∈cs,ft c=true
   ·rw[if_pos h1,if_pos h2,if_pos ⟨h2.1,h1,h2.2⟩]
   ·rw[if_pos h1,if_neg h2,if_neg (fun h=>h2 ⟨h.1,h.2.2⟩)]
   ·rw[if_neg h1,if_neg (fun h=>h1 h.2.1)]
   ·rw[if_neg h1,if_neg (fun h=>h1 h.2.1)]
def c6Y {ft:Nat->Bool} {n k i:Nat} (hi:i<y4 ft [] (Az n 0) k):(Yr ft n k i).length=n/\(∀l∈Yr ft n k i,l<k)/\∀l,l<k->l∈Yr ft n k i:=by
 have h:=KY hi n (aS _);have hc:=h.cnt;rw[c1l,c6X]at hc;split at hc
 ·rename_i hk;unfold Yr;refine⟨h.len,fun l hl=> ?_,fun l hl=>h.all l aA⟩;have:=h.lt l hl;omega
 ·omega
end Go.GS
namespace Go.Z
open Proofs.Tryz RowKit RX GS
section
variable {H:PH} {u v w:Value}
def KZ:q8 prog 215=true:=aB
def LA {s:Nat}:Con prog 144 [uv s] H fun u H'=>∃b,H b=none/\H'=H.or (Ax b s)/\u= .func (.func 215) #[] #[.pointer (some ⟨b,0,none⟩)]:=by
 refine g9 mixed d2F ?_;refine b4 (el_u64.vcells s) ?_;refine o0 (cs:= #[uv s]) rfl fun b hb=> ?_;simp only[cA,nA];refine x5 (Ai (vs:=[.pointer (some ⟨b,0,none⟩)]) rfl rfl) rfl ?_;simp only[cA,nA];exact c9 rfl ⟨b,hb,PH.put_or hb,rfl⟩
def LC {b S:Nat} {Ro:PH} (hS:S<M64):ItC prog 215 [.pointer (some ⟨b,0,none⟩)] Ro (Ax b S) (fun pre xs=>∃s,(sbs S)[pre.length]? =some s/\xs=[uv s]) (fun xs _=>xs.length=(sbs S).length) (fun _ _=>True):=by
 intro l J Jx uH hr X hX hd w hw;refine(t8 (H:=X.or (Ax b S)) (V:=fun _ H'=>∃X' K',Pl (X'.or K') H'/\Disj X' K'/\((∃xs,xs.length=(sbs S).length/\J xs X')\/(∃pre,True/\Jx pre X'))) mixed c6P aB rfl ?_ w hw).mono fun e w' ⟨v,H',he,pU,hV⟩=>⟨v,H',he,pU,hV⟩;have hb:=PH.or_right hd (Yk b S);refine i7 Ig rfl rfl hb rfl rfl ?_;simp only[cA,nA];refine t6 (α:=Nat×Nat×List Nat×PH) (fun⟨s,f,pre,X'⟩=>[uv s]) (fun⟨s,f,pre,X'⟩=>fun H'=>s<=S/\s<f/\H'=X'.or (Ax b S)/\Disj X' (Ax b S)/\pre++Jh S f s=sbs S/\J (pre.map fun y:Nat=>[uv y]) X') (fun⟨s,f,pre,X'⟩=>f) ((S,S+1,[],X)) rfl (⟨aS _,cY _,rfl,hd,rfl,hX⟩) fun⟨s,f,pre,X'⟩ H' hQ=> ?_;simp only[cA,nA];obtain⟨h1,h2,rfl,pL,pA,hJ⟩:=hQ;obtain⟨f,rfl⟩:∃m,f=m+1:=⟨f-1,aA⟩;have hs:s<M64:=aR h1 hS;unfold Jh at pA;refine Uf (hr _ [uv s] X' (Ax b S) ⟨_,by rw[<-pA,aW,aN (aS _),eA];rfl,rfl⟩ hJ pL) rfl rfl rfl rfl rfl fun v X2 pE hV=> ?_;simp only[cA,nA];obtain⟨bb,rfl,pV,pS⟩:∃bb,v= .bool bb/\(bb=true->J ((pre.map fun y:Nat=>[uv y])++[[uv s]]) X2)/\(bb=false->Jx ((pre.map fun y:Nat=>[uv y])++[[uv s]]) X2):=by
  rcases hV with⟨rfl,h⟩|⟨rfl,h⟩
  ·exact⟨true,rfl,fun _=>h,(fun h=>nomatch h)⟩
  ·exact⟨false,rfl,(fun h=>nomatch h),fun _=>h⟩
 refine b9 ?_;refine g8 (b:= !bb) rfl (fun qC=> ?_) (fun qC=> ?_)
 ·skip
  exact c9 rfl ⟨X2,Ax b S,Pl.refl _,pE,.inr ⟨_,trivial,pS (by simpa using qC)⟩⟩
 ·skip
  refine b9 ?_;refine y7 (p:=(s=0)) (bE0 s) (fun h=> ?_) fun h=> ?_
  ·rw[if_pos h]at pA;exact c9 rfl ⟨X2,Ax b S,Pl.refl _,pE,.inl ⟨pre.map (fun y:Nat=>[uv y])++[[uv s]],by rw[<-pA];simp,pV (by simpa using qC)⟩⟩
  ·rw[if_neg h]at pA;have pS:=PH.or_right pE (Yk b S);refine i7 Ig rfl rfl pS rfl rfl ?_;simp only[cA,nA];have oW:(s-1)&&&S<=s-1:=iS;refine b9 ?_;exact⟨((s-1)&&&S,f,pre++[s],X2),cY f,(j7 (Ic (Ui (B:=1) rfl rfl hs aA) rfl aA hS)),⟨jD,(by show(s-1)&&&S<f;omega),rfl,pE,by rw[<-pA,bL];rfl,by rw[bI];exact pV (by simpa using qC)⟩⟩
def c6Z {l:List Nat} (hu:SU H u l) (hl:l.length<=1000000):Con prog 216 [u] H fun r H'=>Pl H H'/\SO H H' 42 1 (fun s:Nat=>[uv s]) r l:=by
 refine g9 mixed d2E ?_;obtain⟨q1,a,c,rfl,q2,q3,q4⟩:=id hu;refine j6 ((JX (p:=a) (n:=l.length) (c:=c) rfl rfl rfl el_u64.und).rds _) rfl ?_;simp only[cA,nA];refine b9 ?_;refine g8 (b:=a.isNone) rfl (fun h=> ?_) (fun h=> ?_)
 ·skip
  have h0:l.length=0:=by
   rcases q4 with h|⟨_,_,_,_,_,h,_⟩
   ·exact h
   ·subst h;cases h
  have a0r:l=[]:=aV h0;subst a0r;exact c9 rfl ⟨Pl.refl _,SO.nil _ _ _ _ _⟩
 ·skip
  refine JF el_u64 rfl rfl fun v2 H1 l1 o1 _=> ?_;simp only[cA,nA];refine vh el_u64 rfl rfl rfl l1 o1 (hu.mono l1) (by simp only[bR];omega) rfl rfl fun v3 H2 l2 o2 _=> ?_;simp only[cA,nA];exact c9 rfl ⟨l2,by rw[cU]at o2;exact o2⟩
def c7a {cs:List Nat} {n l:Nat} (hu:SU H u cs) (hc:∀c∈cs,c<M64) (hn:n<64) (hl:l<=cs.length) (hl8:cs.length<=1000):Con prog 146 [u,ii (n:Nat),ii (l:Nat)] H fun r H'=>Pl H H'/\SO H H' 42 1 (fun s:Nat=>[uv s]) r (z8 cs n l):=by
 refine g9 mixed d2H ?_;have hp:=Df hn;refine g5 (c6Z hu aA) rfl ?_;rintro v3 H1 ⟨l1,o1⟩;refine nmI ?_;simp only[cA,nA];refine Gt el_u64 rfl rfl o1.se rfl ?_;refine b9 (b9 ?_);refine y7 (p:=(((l:Nat):Int)=(cs.length:Nat))) (bE _ _) (fun h=> ?_) fun h=> ?_
 ·refine Hy el_u64 rfl rfl rfl aF aF l1 o1 aA rfl aF rfl fun p v6 H2 l2 o2=> ?_;simp only[cA,nA];have hlc:l=cs.length:=aA;have qK:(cs++[0])[l]? =some 0:=by rw[hlc,aN (aS _),eA];rfl
  refine By el_u64 rfl rfl rfl rfl aF o2.se qK rfl aF fun _=> ?_;simp only[cA,nA];refine b4 ⟨_,_,rfl⟩ ?_;refine b4 (show(0:Int)<=((n:Nat):Int) by omega) ?_;refine b9 ?_;refine Dl el_u64 (a:=0|||2^n) rfl rfl rfl rfl aF aF l2 o2 (by rw[aL];simp;omega) rfl (fun _=>j0 rfl (Fq rfl (Gv rfl hn) aC hp)) rfl fun p2 u2 H3 l3 o3 _=> ?_;simp only[cA,nA];have e:(cs++[0]).set l (0|||2^n)=cs++[2^n]:=by rw[hlc,List.set_append_right _ _ (aS _),eA,Nat.zero_or];rfl
  rw[e]at o3;exact c9 rfl ⟨l3,by unfold z8;rw[if_neg aA];exact o3⟩
 ·have hlc:l<cs.length:=aA;obtain⟨c,qK,_⟩:=u6 hlc;have rZ:=hc c (aJ qK);refine By el_u64 rfl rfl rfl rfl aF o1.se qK rfl aF fun _=> ?_;simp only[cA,nA];refine b4 ⟨_,_,rfl⟩ ?_;refine b4 (show(0:Int)<=((n:Nat):Int) by omega) ?_;refine b9 ?_;refine Dl el_u64 (a:=c|||2^n) rfl rfl rfl rfl aF aF l1 o1 hlc rfl (fun _=>j0 rfl (Fq rfl (Gv rfl hn) rZ hp)) rfl fun p2 u2 H3 l3 o3 _=> ?_;simp only[cA,nA];have e:cs.set l (c|||2^n)=cs.modify l (· |||2^n):=by rw[List.modify_eq_set,qK];rfl
  rw[e]at o3;exact c9 rfl ⟨l3,by unfold z8;rw[if_pos hlc];exact o3⟩
end
def c7b:g6 prog [] [] [] [] 102=some (.call false 164 [V0]
(.ret [V1])):=aB
end Go.Z
namespace Go.RZ
open RowKit RX
noncomputable section
inductive AV where
 |int (k:IntKind) (n:Int)
 |bool (b:Bool)
 |ptr (k q:Nat)
 |nptr
 |sl (k q n c:Nat)
 |sg (k q n d:Nat)
 |nsl
 |mp (k:Nat)
 |nmp
 |fn (f:FuncId) (b c:List AV)
 |nfn
 |agg (l:List AV)
 |tup (l:List AV)
 deriving Inhabited
def len {α:Type} (l:List α):Nat:=List.rec (motive:=fun _=>Nat) 0 (fun _ _ n=>oN n) l
def okI:IntKind->Int->Bool
 | .i64,.ofNat m=>lN m 9223372036854775808
 | .u64,.ofNat m=>lN m 18446744073709551616
 | .i64,.negSucc m=>lN m 9223372036854775808
 |_,_=>false
def isK (k l:IntKind):Bool:=k==l
def Ce (P:Program):Nat->TypeId->List AV->Bool
 |0,_,_=>false
 |d+1,t,l=>match P.underlying t with
  |some .bool=>match l with
   |[.bool _]=>true
   |_=>false
  |some (.int q)=>match l with
   |[.int k n]=>isK k q&&(okI k n||(Lit.int k n).wf)
   |_=>false
  |some (.array n e)=>gP (len l) (P.cellsOf t)&&(eT n).all fun i=>Ce P d e ((l.drop (Nat.mul i (P.cellsOf e))).take (P.cellsOf e))
  |some (.struct fs)=>gP (len l) (P.cellsOf t)&&fs.toList.all fun f=>Ce P d f.type ((l.drop f.offset).take (P.cellsOf f.type))
  |_=>false
def Dt (P:Program) (kty:TypeId->Bool) (kt:TypeId) (v:AV):Bool:=match v with
 | .agg l=>kty kt&&Ce P 6 kt l
 | .int k _=>match P.underlying kt with
  |some (.int q)=>isK k q
  |_=>false
 |_=>false
def xc {α:Type}:∀l:List α,len l=l.length
 |[]=>rfl
 |x::r=>by rw[aO,<-xc r];rfl
end
open Go.GS
abbrev Rl:=Nat->Nat×Nat
mutual
def rz (σ:Rl):AV->Value
 | .int k n=> .int k n
 | .bool b=> .bool b
 | .ptr k q=> .pointer (some ⟨(σ k).1,q,none⟩)
 | .nptr=> .pointer none
 | .sl k q n c=> .slice (some ⟨(σ k).1,q,none⟩) n c
 | .sg k q n d=> .slice (some ⟨(σ k).1,q,none⟩) n ((σ k).2-d)
 | .nsl=> .slice none 0 0
 | .mp k=> .map (some (σ k).1)
 | .nmp=> .map none
 | .fn f b c=> .func (.func f) (rzs σ b).toArray (rzs σ c).toArray
 | .nfn=> .nilFunc
 | .agg l=> .agg (rzs σ l).toArray
 | .tup l=> .tuple (rzs σ l).toArray
def rzs (σ:Rl):List AV->List Value
 |[]=>[]
 |x::r=>rz σ x::rzs σ r
end
def ik (σ:Rl):∀l,rzs σ l=l.map (rz σ)
 |[]=>by simp[rzs]
 |x::r=>by simp[rzs,ik σ r]
def xd (σ:Rl) (l:List AV):(rzs σ l).length=l.length:=by rw[ik,aW]
def LD (σ:Rl) (l:List AV) (j:Nat):rzs σ (l.take j)=(rzs σ l).take j:=by simp[ik,List.map_take]
def LE (σ:Rl) (l:List AV) (j:Nat):rzs σ (l.drop j)=(rzs σ l).drop j:=by simp[ik,List.map_drop]
def xe {a b:Nat} (h:lN a b=true):a<b:=by simpa[oM]using h
def Qq {a b:Nat} (h:gP a b=true):a=b:=Nat.eq_of_beq_eq_true h
open Go.WideMaps
structure Du (P:Program) (t:TypeId):Prop where
 at6:P.keyTypeAt 6 t=true
 tiled:P.tiled 6 t=true
 wide:(match P.underlying t with|some (.array _ _)|some (.struct _)=>true|_=>false)=true
 noguard:P.eqGuardType P.depth t=false
 key:P.keyType t=true
 big:6<=P.types.size+1
def xf {α β:Type} {f:α->Option β}:∀{l:List α},(∀x∈l,∃y,f x=some y)->∃ys,l.mapM f=some ys
 |[],_=>⟨[],rfl⟩
 |x::r,h=>by
  obtain⟨y,hy⟩:=h x aD;obtain⟨ys,hys⟩:=xf (l:=r) (f:=f) fun z hz=>h z (by simp[hz]);exact⟨y::ys,by simp[List.mapM_cons,hy,hys]⟩
def d7m {q:IntKind} {n:Int} (h:okI q n=true):(Lit.int q n).wf=true:=by
 unfold okI at h;split at h
 ·have:=xe h;simp[Lit.wf,IntKind.min,IntKind.max,IntKind.signed,IntKind.bits];omega
 ·have:=xe h;simp[Lit.wf,IntKind.min,IntKind.max,IntKind.signed,IntKind.bits];omega
 ·have:=xe h;simp[Lit.wf,IntKind.min,IntKind.max,IntKind.signed,IntKind.bits];omega
 ·cases h
def xg {P:Program} {σ:Rl}:∀(d:Nat) (t:TypeId) (l:List AV),P.keyTypeAt d t=true->Ce P d t l=true->∀D,d<=D->∃L,P.keyLits D t (rzs σ l)=some L
 |0,_,_,h,_,_,_=>by simp[Program.keyTypeAt]at h
 |d+1,t,l,hk,hf,D,hD=>by
  obtain⟨D,rfl⟩:∃E,D=E+1:=⟨D-1,aA⟩;unfold Program.keyTypeAt at hk;unfold Ce at hf;simp only[xc]at hf;unfold Program.keyLits;cases hu:P.underlying t with
  |none=>simp[hu]at hf
  |some kd=>
   rw[hu]at hk hf;cases kd<;>simp only[aZ]at hk hf
   case some.bool=>
    split at hf
    ·exact⟨_,rfl⟩
    ·cases hf
   case some.int q=>
    split at hf
    ·rename_i k n;simp only[aT,cV]at hf;have hk:k=q:=by simpa[isK]using hf.1
     subst hk;have hw:(Lit.int k n).wf=true:=hf.2.elim d7m id;exact⟨_,by simp only[rzs,rz];exact if_pos ⟨trivial,hw⟩⟩
    ·cases hf
   case some.array n e=>
    rw[aT]at hf;obtain⟨h1,h2⟩:=hf;have h1:=Qq h1;rw[dC]at h2;have:∃ys,(eT n).mapM (fun i=>P.keyLits D e (((rzs σ l).drop (i*P.cellsOf e)).take (P.cellsOf e)))=some ys:=by
     refine xf fun i hi=> ?_;obtain⟨L,hL⟩:=xg d e _ hk (h2 i hi) D aA;exact⟨L,by rw[<-hL,LD,LE];rfl⟩
    obtain⟨ys,hys⟩:=this;exact⟨_,by simp only[xd,h1,if_true];rw[hys];rfl⟩
   case some.struct fs=>
    rw[aT]at hf;obtain⟨h1,h2⟩:=hf;have h1:=Qq h1;rw[dC]at h2;simp only[aT]at hk;have hn:=jW.1 hk.1.1;have:∃ys,fs.toList.mapM (fun f=>P.keyLits D f.type (((rzs σ l).drop f.offset).take (P.cellsOf f.type)))=some ys:=by
     refine xf fun f hi=> ?_;have hf:=hn f (Array.mem_toList_iff.1 hi);rw[aT]at hf;obtain⟨L,hL⟩:=xg d f.type _ hf.2 (h2 f hi) D aA;exact⟨L,by rw[<-hL,LD,LE]⟩
    obtain⟨ys,hys⟩:=this;have qM:fs.all (·.name != "_")=true:=jW.2 fun f hf=>by
     have:=hn f hf;rw[aT]at this;exact this.1
    exact⟨_,by simp only[xd,h1];rw[if_pos ⟨trivial,qM⟩,hys];rfl⟩
def c7c {P:Program} {t:TypeId} {l:List AV} {d:Nat} (h:Ce P (d+1) t l=true) (hw:(match P.underlying t with|some (.array _ _)|some (.struct _)=>true|_=>false)=true):l.length=P.cellsOf t:=by
 unfold Ce at h;simp only[xc]at h;split at h
 ·rename_i hu;rw[hu]at hw;cases hw
 ·rename_i hu;rw[hu]at hw;cases hw
 ·rw[aT]at h;exact Qq h.1
 ·rw[aT]at h;exact Qq h.1
 ·cases h
section
variable {P:Program} {kty:TypeId->Bool}
def xi {σ:Rl} {kt:TypeId} {l:List AV} (hK:∀t,kty t=true->Du P t) (h:Dt P kty kt (.agg l)=true):Du P kt/\(rz σ (.agg l)).formed P kt=true/\∀D,6<=D->∃L,P.keyLits D kt (rz σ (.agg l)).cells.toList=some L:=by
 simp only[Dt]at h;rw[aT]at h;have K:=hK _ h.1;refine⟨K,?_,fun D hD=> ?_⟩
 ·have hl:=c7c h.2 K.wide;have hw:=K.wide;simp only[rz,Value.formed];split<;>simp_all[xd]
 ·obtain⟨L,hL⟩:=xg (σ:=σ) 6 kt l K.at6 h.2 D hD;exact⟨L,by simp only[rz,Value.cells];simpa using hL⟩
def Ys {kt:TypeId} {v:AV} (hK:∀t,kty t=true->Du P t) (h:Dt P kty kt v=true):(∃l,v= .agg l)\/∃q n,v= .int q n/\P.underlying kt=some (.int q):=by
 unfold Dt at h;split at h
 ·exact .inl ⟨_,rfl⟩
 ·split at h
  ·rename_i k n _ q hu;obtain rfl:k=q:=by simpa[isK]using h
   exact .inr ⟨_,_,rfl,hu⟩
  ·cases h
 ·cases h
variable {σ:Rl} {wm:Nat} {H0 H:PH} {o:Oper} {vs:List AV} {x y:Operand} {v:AV}
def c7d {t u:TypeId} {a b:Int} {vs:List Value} (ho:o.op= .call ⟨.builtin .max,#[x,y],#[t,u]⟩) (hx:e8 [x,y] vs x= .int .i64 a) (hy:e8 [x,y] vs y= .int .i64 b):Yld P o vs (.int .i64 (if b>a then b else a)):=fun w=>by
 have pD:o.op.operands.toList=[x,y]:=by simp[ho,Op.operands,Call.operands]
 rw[pD];simp only[execOp,ho,resolve,invoke,eM,eO,eL,gA,aU,cN,hx,hy];simp only[builtin,eM,run_max_int2,eL];rfl
def LF {t a e r clock:TypeId} {es:Array MapEntry} {vs:List Value} (ho:o.op= .call ⟨.builtin .len,#[x],#[t]⟩) (hx:e8 [x] vs x= .map (some r)) (hu:P.underlying t=some (.map a e)) (hH:H r=some (.map es clock)):Rds P o vs H (.int .i64 es.size):=fun w hw=>by
 have pD:o.op.operands.toList=[x]:=by simp[ho,Op.operands,Call.operands]
 have hg:=Hn (P:=P) (hw _ _ hH);rw[pD];simp only[execOp,ho,resolve,invoke,eM,eO,eL,gA,aU,cN,hx,builtin];have hr:(Builtin.len_ #[t] o.type #[.map (some r)]).run P w= .ok (goInt es.size) w:=by
  simp[Builtin.len_,run_underlying hu,hg]
 rw[hr];rfl
end
end Go.RZ
namespace Go.GS
open RowKit RX
def xj {P:Program} {ρ:List Value} {a:SV} {k:Nat} (ha:D P ρ a=ii ((k+1:Nat):Int)) (h:k<9223372036854775807):D P ρ (.op2 .sub .i64 a (.k (.int .i64 1)))=ii (k:Nat):=by
 have:=ga (P:=P) (ρ:=ρ) (a:=a) (b:= .k (.int .i64 1)) ha (y:=1) rfl aA aA;rw[this];show ii _=ii _;congr 1;omega
end Go.GS
namespace Go.Z
open Proofs.Tryz RowKit RX GS RZ
def xk {n:Nat} (h:n<M64) (d:Nat):Ce prog (d+1) 42 [.int .u64 (.ofNat n)]=true:=by
 have hu:prog.underlying 42=some (.int .u64):=aB;simp only[Ce,hu,okI];rw[show lN n 18446744073709551616=true from by rw[oM];exact h];rfl
def c1q {s:Nat} (hs:s<M64):Det prog 102 [uv s] (ii (Go.WD.blen s)):=Cm mixed c7b aB rfl (Da (ep s hs) rfl (Aa rfl rfl))
section
variable {H H0:PH} {u v w:Value} {l:List Int} {n:Nat} {es:List (Nat×Nat)}
abbrev OI (H0 H:PH) (v:Value) (l:List Int):Prop:=SO H0 H 3 1 (fun z:Int=>[ii z]) v l
end
end Go.Z
namespace Go.RZ
open RowKit RX GS WideMaps
section
variable {P:Program} {kty:TypeId->Bool} {σ:Rl} {wm:Nat} {H0 H:PH} {o:Oper} {vs:List AV} {x y:Operand} {v:AV}
def il {kt:TypeId} {l:List AV} (hK:∀t,kty t=true->Du P t) (h:Dt P kty kt (.agg l)=true):∃lx,keyOf P kt (rz σ (.agg l))=some lx:=by
 obtain⟨K,fa,la⟩:=xi (σ:=σ) hK h;obtain⟨L,hL⟩:=la _ K.big;have hw:=K.wide;refine⟨.string (keyBytes L),?_⟩;unfold keyOf;split
 ·rw[if_pos (by rw[K.key,fa];rfl),hL];rfl
 ·rw[if_pos (by rw[K.key,fa];rfl),hL];rfl
 ·rename_i h1 h2;split at hw
  ·rename_i hu;exact absurd hu (h1 _ _)
  ·rename_i hu;exact absurd hu (h2 _)
  ·cases hw
def xm {kt:TypeId} {l:List AV} (hK:∀t,kty t=true->Du P t) (h:Dt P kty kt (.agg l)=true):KeyLaw P kt:=by
 obtain⟨K,_⟩:=xi (σ:=fun _=>(0,0)) hK h;exact deep_law aA K.at6 K.tiled K.wide
def LG {kt:TypeId} {l:List AV} {q:IntKind} (hK:∀t,kty t=true->Du P t) (h:Dt P kty kt (.agg l)=true) (hu:P.underlying kt=some (.int q)):False:=by
 obtain⟨K,_⟩:=xi (σ:=fun _=>(0,0)) hK h;have:=K.wide;rw[hu]at this;cases this
def LH {kt:TypeId} (hK:∀t,kty t=true->Du P t) (h:Dt P kty kt v=true) (b:Bool) (w:World):(Instr.checkKey b 10000 kt (rz σ v)).run P w= .ok () w:=by
 rcases Ys hK h with⟨l,rfl⟩|⟨q,n,rfl,hu⟩
 ·obtain⟨lx,hlx⟩:=il (σ:=σ) hK h;exact(xm hK h).check w b hlx
 ·rw[rz];exact Jy hu b w
def LI {kt:TypeId} (hK:∀t,kty t=true->Du P t) (h:Dt P kty kt v=true) (w:World):(Instr.keyThatStays (rz σ v) (rz σ v)).run P w= .ok (rz σ v) w:=by
 rcases Ys hK h with⟨l,rfl⟩|⟨q,n,rfl,hu⟩
 ·obtain⟨lx,hlx⟩:=il (σ:=σ) hK h;exact(xm hK h).stays w hlx
 ·simp[rz,Instr.keyThatStays,Instr.sameBits]
def im {q:IntKind} {n:Int}:∀(E:List MapEntry) (i:Nat),(∀e∈E,∃b,e.key= .int q b)->(Instr.findNow (.int q) (.int q n) E i=some none/\∀e∈E,e.key≠ .int q n)\/∃j e,Instr.findNow (.int q) (.int q n) E i=some (some (i+j,e.val))/\E[j]? =some e/\e.key= .int q n
 |[],i,_=> .inl ⟨rfl,fun e he=>absurd he aD⟩
 |e::r,i,h=>by
  obtain⟨b,hb⟩:=h e aD;by_cases hn:n=b
  ·subst hn;exact .inr ⟨0,e,by simp[Instr.findNow,Instr.sameNow,hb],rfl,hb⟩
  ·have wU:(n==b)=false:=by simp[hn]
   rcases im (n:=n) r (i+1) (fun e he=>h e (by simp[he]))with⟨h1,h2⟩|⟨j,e',h1,h2,h3⟩
   ·refine .inl ⟨by simp[Instr.findNow,Instr.sameNow,hb,wU,h1],fun e' he=> ?_⟩;rcases aX.1 he with rfl|he
    ·rw[hb];intro h;injection h with _ h;exact hn h.symm
    ·exact h2 e' he
   ·exact .inr ⟨j+1,e',by simp[Instr.findNow,Instr.sameNow,hb,wU,h1];omega,by simpa using h2,h3⟩
def LJ {kt:TypeId} {key:AV} (hK:∀t,kty t=true->Du P t) (hk:Dt P kty kt key=true) (E:List MapEntry) (hE:∀e∈E,∃a,e.key=rz σ a/\Dt P kty kt a=true) (w:World):
  ((Instr.findKey kt (rz σ key) E).run P w= .ok none w/\∀e∈E,e.key≠rz σ key)\/∃j e,(Instr.findKey kt (rz σ key) E).run P w= .ok (some (j,e.val)) w/\E[j]? =some e/\e.key=rz σ key:=by
 rcases Ys hK hk with⟨l,rfl⟩|⟨q,n,rfl,hu⟩
 ·obtain⟨lx,hlx⟩:=il (σ:=σ) hK hk;refine(xm hK hk).find w hlx E fun e he=> ?_;obtain⟨a,ha,hb⟩:=hE e he;rcases Ys hK hb with⟨m,rfl⟩|⟨q,n,rfl,hu⟩
  ·rw[ha];exact il hK hb
  ·exact(LG hK hk hu).elim
 ·rw[rz];have run:∀r,Instr.findNow (.int q) (.int q n) E 0=some r->(Instr.findKey kt (.int q n) E).run P w= .ok r w:=fun r hr=>by
   simp only[Instr.findKey,eM,run_underlying hu,eL,hr,eO]
  rcases im (q:=q) (n:=n) E 0 (fun e he=>by
   obtain⟨a,ha,hb⟩:=hE e he;rcases Ys hK hb with⟨m,rfl⟩|⟨q',n',rfl,hu'⟩
   ·exact(LG hK hb hu).elim
   ·rw[hu]at hu';cases hu';exact⟨n',by rw[ha,rz]⟩)with⟨h1,h2⟩|⟨j,e,h1,h2,h3⟩
  ·exact .inl ⟨run _ h1,h2⟩
  ·exact .inr ⟨j,e,by rw[run _ h1,bP],h2,h3⟩
end
section
variable {P:Program} {kty:TypeId->Bool} {σ:Rl} {wm:Nat} {H0 H:PH} {o:Oper} {vs:List AV} {x y:Operand} {v:AV}
def c7e (seen:List Nat) (b:Nat):seen.toArray.contains b=seen.any (gP b):=by
 rw[bS,List.any_eq_true];simp
def c1r {w:World} {r m since last clock:Nat} {seen:List Nat} {E:List MapEntry} {ty:TypeId} (hr:w.heap[r]? =some (.mapIter (some m) since seen.toArray last)) (hm:w.heap[m]? =some (.map E.toArray clock))
  (a0s:∀e∈E.filter (fun e=> !seen.any (gP e.born)),e.born<since) (a0t:seen=[]\/E=[]\/∃e∈E,e.born<last):
  (E.filter (fun e=> !seen.any (gP e.born))=[]/\(Instr.next (.pointer (some ⟨r,0,none⟩)) false ty).run P w= .ok (.tuple #[.bool false]) w)\/
  ∃e∈E.filter (fun e=> !seen.any (gP e.born)),∃w1:World,Ext w w1/\w1.heap=w.heap/\(Instr.next (.pointer (some ⟨r,0,none⟩)) false ty).run P w= .ok (.tuple #[.bool true,e.key,e.val]) {w1 with heap:=w1.heap.setIfInBounds r (.mapIter (some m) since (seen++[e.born]).toArray clock)}:=by
 have yC:(getObj r).run P w= .ok (.mapIter (some m) since seen.toArray last) w:=by simp[getObj,Sem.run,hr]
 have pU:(!seen.toArray.isEmpty&& !E.toArray.isEmpty&&E.toArray.all fun e=>decide (e.born≥last))=false:=by
  rcases a0t with rfl|rfl|⟨e,he,oV⟩
  ·simp
  ·simp
  ·have:(E.toArray.all fun e=>decide (e.born≥last))=false:=by
    rw[Bool.eq_false_iff];intro h;rw[List.all_toArray,dC]at h;have:=h e he;simp only[decide_eq_true_eq]at this;omega
   rw[this];simp
 have a4a:E.toArray.filter (fun e=> !seen.toArray.contains e.born)=(E.filter (fun e=> !seen.any (gP e.born))).toArray:=by
  rw[<-cF,Array.toList_filter];simp only[c7e]
 unfold Instr.next;simp only[eM,yC,eL,Hn hm,pU,aZ,if_false];rw[a4a];generalize hL:E.filter (fun e=> !seen.any (gP e.born))=L at a0s⊢;have e1:L.toArray.filter (fun x=>decide (x.born<since))=L.toArray:=Array.filter_eq_self.2 (fun x hx=>by simpa using a0s x (by simpa using hx));have e2:L.toArray.filter (fun x=>decide (x.born≥since))= #[]:=by
  rw[Array.filter_eq_empty_iff];intro x hx;have:=a0s x (by simpa using hx);simp;omega
 simp only[e1,e2,Array.append_empty];cases L with
 |nil=>
  left;refine⟨rfl,?_⟩;simp[choose,Sem.run,Question.forced]
 |cons a L=>
  right;have wM:∃(j:Nat) (w1:World),j<(a::L).toArray.size/\Ext w w1/\w1.heap=w.heap/\(choose (Question.mapNext (a::L).toArray.size)).run P w= .ok j w1:=by
   by_cases hf:(a::L).toArray.size<=1
   ·exact⟨0,w,aD,Ext.refl _,rfl,by
     have:L=[]:=by cases L with|nil=>rfl|cons _ _=>simp at hf
     subst this;simp[choose,Sem.run,Question.forced]⟩
   ·refine⟨w.tape w.drawn (Question.mapNext (a::L).toArray.size)%(a::L).toArray.size,w.drew,cO _ aD,⟨rfl,rfl,rfl,aS _,fun _ _=>rfl,Nat.le_succ _⟩,rfl,?_⟩
    ·simp only[choose,Sem.run,Question.forced,decide_eq_true_eq,hf,if_false,Question.cut];rfl
  obtain⟨j,w1,hj,hx,hh,oS⟩:=wM;have xP:j<(a::L).length:=by simpa using hj
  refine⟨(a::L)[j],dW xP,w1,hx,hh,?_⟩;have zD:∀ob':Obj,(setObj r ob').run P w1= .ok () {w1 with heap:=w1.heap.setIfInBounds r ob'}:=fun ob'=>by
   simp[setObj,Sem.run,hh,hr]
  simp only[List.isEmpty_toArray,List.isEmpty_cons,aZ,if_false,Array.empty_append,Array.size_map,oS,eL,Array.getElem?_map,cI hj,cJ,eM,zD,eO];simp
end
end Go.RZ
namespace Go.RX
open RowKit RZ
structure Qr (P:Program) (kt:TypeId) {κ:Type} (ok:κ->Prop) (ke:κ->Value):Prop where
 check:∀k,ok k->∀b w,(Instr.checkKey b 10000 kt (ke k)).run P w= .ok () w
 stays:∀k,ok k->∀w,(Instr.keyThatStays (ke k) (ke k)).run P w= .ok (ke k) w
 find:∀k,ok k->∀E:List MapEntry,(∀e∈E,∃a,ok a/\e.key=ke a)->∀w,((Instr.findKey kt (ke k) E).run P w= .ok none w/\∀e∈E,e.key≠ke k)\/∃j e,(Instr.findKey kt (ke k) E).run P w= .ok (some (j,e.val)) w/\E[j]? =some e/\e.key=ke k
 inj:∀a b,ok a->ok b->ke a=ke b->a=b
section
variable {κ:Type} {ok:κ->Prop} {ke:κ->Value}
def eN (ke:κ->Value) (es:List (κ×Value×Nat)):List MapEntry:=es.map fun p=>⟨ke p.1,p.2.1,p.2.2⟩
def kvN (es:List (κ×Value×Nat)):List (κ×Value):=es.map fun p=>(p.1,p.2.1)
structure ip (ok:κ->Prop) (es:List (κ×Value×Nat)) (clock:Nat):Prop where
 keys:(es.map (·.1)).Nodup
 oks:∀p∈es,ok p.1
 asc:(es.map (·.2.2)).Pairwise (· < ·)
 lt:∀p∈es,p.2.2<clock
def MK (ok:κ->Prop) (ke:κ->Value) (H:PH) (m:Value) (L:List (κ×Value)):Prop:=∃r es clock,m= .map (some r)/\H r=some (.map (eN ke es).toArray clock)/\ip ok es clock/\kvN es=L
def MKO (ok:κ->Prop) (ke:κ->Value) (B H:PH) (m:Value) (L:List (κ×Value)):Prop:=∃r es clock,m= .map (some r)/\B r=none/\H r=some (.map (eN ke es).toArray clock)/\ip ok es clock/\kvN es=L
def MKO.mk {B H:PH} {m:Value} {L:List (κ×Value)} (h:MKO ok ke B H m L):MK ok ke H m L:=by
 obtain⟨r,es,c,h1,_,h2,h3⟩:=h;exact⟨r,es,c,h1,h2,h3⟩
def MKO.mono {B H H':PH} {m:Value} {L:List (κ×Value)} (h:MKO ok ke B H m L) (hl:Pl H H'):MKO ok ke B H' m L:=by
 obtain⟨r,es,c,h1,h4,h2,h3⟩:=h;exact⟨r,es,c,h1,h4,hl _ _ h2,h3⟩
def MK.keys {H:PH} {m:Value} {L:List (κ×Value)} (h:MK ok ke H m L):(L.map (·.1)).Nodup/\∀p∈L,ok p.1:=by
 obtain⟨r,es,c,_,_,h3,rfl⟩:=h;refine⟨?_,fun p hp=> ?_⟩
 ·have e:(kvN es).map (·.1)=es.map (·.1):=by unfold kvN;rw[fM];rfl
  rw[e];exact h3.keys
 ·obtain⟨q,hq,rfl⟩:=bK.1 hp;exact h3.oks q hq
open Classical in
noncomputable def Dh {β:Type} (L:List (κ×β)) (k:κ) (v:β):List (κ×β):=if k∈L.map (·.1)then L.map fun p=>if p.1=k then(k,v)else p else L++[(k,v)]
open Classical in
def iq {β:Type} {L:List (κ×β)} {k x:κ} {v y:β}:(x,y)∈Dh L k v->(x=k/\y=v)\/(x≠k/\(x,y)∈L):=by
 unfold Dh;split
 ·rename_i hk;rw[bK];rintro⟨p,hp,e⟩;split at e
  ·simp only[jK]at e;exact .inl ⟨e.1.symm,e.2.symm⟩
  ·rename_i e1;subst e;exact .inr ⟨e1,hp⟩
 ·rename_i hk;rw[bC,bA];rintro(h1|h1)
  ·refine .inr ⟨fun e=>hk ?_,h1⟩;subst e;exact bK.2 ⟨_,h1,rfl⟩
  ·simp only[jK]at h1;exact .inl h1
def ir {β:Type} {L:List (κ×β)} {k:κ} {v:β}:(k,v)∈Dh L k v:=by
 unfold Dh;split
 ·rename_i hk;obtain⟨p,hp,e⟩:=bK.1 hk;exact bK.2 ⟨p,hp,by rw[if_pos e]⟩
 ·simp
def LK {β:Type} {L:List (κ×β)} {k x:κ} {v y:β} (h:(x,y)∈L) (hx:x≠k):(x,y)∈Dh L k v:=by
 unfold Dh;split
 ·exact bK.2 ⟨(x,y),h,by rw[if_neg hx]⟩
 ·simp[h]
section
variable {P:Program} {H:PH} {o:Oper} {x y z:Operand} {T kt et:TypeId} (hK:Qr P kt ok ke)
def d2U {es:List (κ×Value×Nat)} (h:∀p∈es,ok p.1):∀e∈eN ke es,∃a,ok a/\e.key=ke a:=fun e he=>by
 obtain⟨p,hp,rfl⟩:=bK.1 he;exact⟨p.1,h p hp,rfl⟩
include hK
def LL {es:List (κ×Value×Nat)} (ho:∀p∈es,ok p.1) {k:κ} (hk:ok k) (w:World):
  ((Instr.findKey kt (ke k) (eN ke es)).run P w= .ok none w/\k∉es.map (·.1))\/∃j p,(Instr.findKey kt (ke k) (eN ke es)).run P w= .ok (some (j,p.2.1)) w/\es[j]? =some p/\p.1=k:=by
 rcases hK.find k hk (eN ke es) (d2U ho) w with⟨h1,h2⟩|⟨j,e,h1,h2,h3⟩
 ·refine .inl ⟨h1,fun hm=> ?_⟩;obtain⟨p,hp,rfl⟩:=bK.1 hm;exact h2 _ (bK.2 ⟨p,hp,rfl⟩) rfl
 ·unfold eN at h2;rw[aY]at h2;obtain⟨p,hp,rfl⟩:=Option.map_eq_some_iff.1 h2;exact .inr ⟨j,p,h1,hp,hK.inj _ _ (ho p (aJ hp)) hk h3⟩
def Up {B:PH} {vs:List Value} {m v:Value} {L:List (κ×Value)} {k:κ} (ho:o.op= .mapUpdate T x y z) (hx:e8 [x,y,z] vs x=m) (hy:e8 [x,y,z] vs y=ke k) (hz:e8 [x,y,z] vs z=v) (hu:P.underlying T=some (.map kt et)) (hk:ok k)
  (oW:Pl B H) (h:MKO ok ke B H m L):Opn P o vs H fun u H'=>u=undef/\Pl B H'/\MKO ok ke B H' m (Dh L k v)/\∃g ob E c,m= .map (some g)/\B g=none/\H g=some (.map E c)/\H'=H.put g ob:=fun w hw=>by
 obtain⟨r,es,clock,rfl,hB,hH,hE,rF⟩:=h;have pD:o.op.operands.toList=[x,y,z]:=by simp[ho,Op.operands]
 have hb:=hw _ _ hH;unfold Stp;rw[pD];have sB:∀ob,Pl B (H.put r ob):=fun ob c cb hc=>by
  rw[PH.put_ne _ _ (fun e=>by subst e;rw[hB]at hc;cases hc)];exact oW _ _ hc
 have qY:L.map (·.1)=es.map (·.1):=by rw[<-rF];unfold kvN;rw[fM];rfl
 simp only[execOp,ho,hx,hy,hz,eM,Instr.mapUpdate,run_underlying hu,eL,Hn hb,hK.check k hk];rcases LL hK hE.oks hk w with⟨h1,h2⟩|⟨j,p,h1,h2,h3⟩
 ·rw[h1];simp only[eL,eO,Xi _ hb];refine⟨_,Step.setB hw hH _,by first|rfl|trivial,sB _,⟨r,es++[(k,v,clock)],clock+1,rfl,hB,?_,⟨?_,?_,?_,?_⟩,?_⟩,r,_,_,_,rfl,hB,hH,rfl⟩
  ·rw[PH.put_self];simp[eN]
  ·rw[bI,eI];exact⟨hE.keys,aD,fun a ha b hb=>by simp only[aU,cN,bA]at hb;subst hb;intro e;subst e;exact h2 ha⟩
  ·intro p hp;rcases bC.1 hp with hp|hp
   ·exact hE.oks p hp
   ·rw[bA]at hp;subst hp;exact hk
  ·rw[bI,List.pairwise_append];refine⟨hE.asc,aD,fun a ha b hb=> ?_⟩;simp only[aU,cN,bA]at hb;subst hb;obtain⟨p,hp,rfl⟩:=bK.1 ha;exact hE.lt p hp
  ·intro p hp;rcases bC.1 hp with hp|hp
   ·have:=hE.lt p hp;omega
   ·rw[bA]at hp;subst hp;exact cY _
  ·unfold Dh;rw[if_neg (by rw[qY];exact h2),<-rF];simp[kvN]
 ·rw[h1];have hje:((eN ke es).toArray[j]?.map (·.key)).getD (ke k)=ke k:=by simp[eN,h2,h3]
  simp only[eL,eO,hje,eM,hK.stays k hk,Xi _ hb];have oV:=(aH.1 h2).1;have zD:∀{α:Type} (f:κ×Value×Nat->α),f (k,v,p.2.2)=f p->(es.set j (k,v,p.2.2)).map f=es.map f:=fun f hf=>by
   apply bG;intro i;rw[aY,aY,bZ];by_cases e:j=i
   ·subst e;rw[if_pos rfl,if_pos oV,h2];simp[hf]
   ·rw[if_neg e]
  refine⟨_,Step.setB hw hH _,by first|rfl|trivial,sB _,⟨r,es.set j (k,v,p.2.2),clock,rfl,hB,?_,⟨?_,?_,?_,?_⟩,?_⟩,r,_,_,_,rfl,hB,hH,rfl⟩
  ·rw[PH.put_self];congr 2;rw[<-cF];simp only[Array.toList_modify];apply bG;intro i;simp only[List.getElem?_modify,eN,aY,bZ];by_cases e:j=i
   ·subst e;obtain⟨xQ,h5⟩:=aH.1 h2;simp[xQ,h5,h3]
   ·simp[e]
  ·rw[zD (·.1) (by simp[h3])];exact hE.keys
  ·intro q hq;rcases kV hq with hq|rfl
   ·exact hE.oks q hq
   ·exact hk
  ·rw[zD (·.2.2) rfl];exact hE.asc
  ·intro q hq;rcases kV hq with hq|rfl
   ·exact hE.lt q hq
   ·exact hE.lt p (aJ h2)
  ·have rD:k∈L.map (·.1):=by rw[qY];exact bK.2 ⟨p,aJ h2,h3⟩
   have h0:=hE.keys;unfold Dh;rw[if_pos rD,<-rF];unfold kvN;rw[fM];apply bG;intro i;simp only[aY,bZ,Function.comp];by_cases e:j=i
   ·subst e;simp[oV,(aH.1 h2).2,h3]
   ·rw[if_neg e];cases hi:es[i]? with
    |none=>rfl
    |some q=>
     have pI:q.1≠k:=fun e2=>e (by
      refine(gU (by simpa using oV) h0).1 ?_;rw[aY,aY,h2,hi];simp[h3,e2])
     simp[pI]
def Yt {vs:List Value} {m zr u:Value} {L:List (κ×Value)} {k:κ} {b ok2:Bool} (ho:o.op= .lookup T x y ok2) (hx:e8 [x,y] vs x=m) (hy:e8 [x,y] vs y=ke k) (hu:P.underlying T=some (.map kt et)) (hk:ok k) (hz:∀w,(zeroValue et).run P w= .ok zr w) (h:MK ok ke H m L)
  (uB:(b=false/\u=zr/\k∉L.map (·.1))\/(b=true/\(k,u)∈L)):Rds P o vs H (if ok2 then .tuple #[u,.bool b]else u):=fun w hw=>by
 obtain⟨r,es,clock,rfl,hH,hE,rF⟩:=h;have pD:o.op.operands.toList=[x,y]:=by simp[ho,Op.operands]
 have hb:=hw _ _ hH;have qY:L.map (·.1)=es.map (·.1):=by rw[<-rF];unfold kvN;rw[fM];rfl
 rw[pD];simp only[execOp,ho,hx,hy,eM,Instr.lookup,run_underlying hu,eL,Hn hb,eO,hK.check k hk];rcases LL hK hE.oks hk w with⟨h1,h2⟩|⟨j,p,h1,h2,h3⟩
 ·rw[h1];rcases uB with⟨rfl,rfl,_⟩|⟨_,hm⟩
  ·cases ok2<;>simp[hz]
  ·exact absurd (by rw[<-qY];exact bK.2 ⟨_,hm,rfl⟩) h2
 ·rw[h1];rcases uB with⟨_,_,hm⟩|⟨rfl,hm⟩
  ·exact absurd (by rw[qY];exact bK.2 ⟨p,aJ h2,h3⟩) hm
  ·have:p.2.1=u:=by
    rw[<-rF]at hm;obtain⟨q,hq,e⟩:=bK.1 hm;simp only[jK]at e;obtain⟨i,hi⟩:=eJ.1 hq;have l1:=(aH.1 h2).1;have:j=i:=(gU (by simpa using l1) hE.keys).1 (by rw[aY,aY,h2,hi];simp[h3,e.1]);subst this;rw[h2]at hi;cases hi;exact e.2
   subst this;cases ok2<;>simp
def Ji (ho:o.op= .makeMap T none):Opn P o [] H fun v H'=>Pl H H'/\MKO ok ke H H' v []:=fun w hw=>by
 have _hK:=hK;refine(dh (P:=P) (H:=H) ho w hw).mono ?_;rintro u w' ⟨H',hs,r,hr,rfl,rfl⟩;exact⟨_,hs,PH.le_put hr _,r,[],0,rfl,hr,by rw[PH.put_self];rfl,⟨fQ,(fun p hp=>by cases hp),mC,fun p hp=>by cases hp⟩,rfl⟩
end
def IT (ke:κ->Value) (H:PH) (q r:Nat) (es:List (κ×Value×Nat)) (clock:Nat) (seen:List Nat):Prop:=H q=some (.mapIter (some r) clock seen.toArray clock)/\H r=some (.map (eN ke es).toArray clock)
section
variable {P:Program} {H:PH} {o:Oper} {x:Operand} {T kt et:TypeId}
def LM {vs:List Value} {r clock:Nat} {es:List (κ×Value×Nat)} (ho:o.op= .range T x) (hx:e8 [x] vs x= .map (some r)) (hu:P.underlying T=some (.map kt et)) (hH:H r=some (.map (eN ke es).toArray clock)):
  Opn P o vs H fun v H'=>∃q,H q=none/\v= .pointer (some ⟨q,0,none⟩)/\H'=H.put q (.mapIter (some r) clock #[] clock):=fun w hw=>by
 have pD:o.op.operands.toList=[x]:=by simp[ho,Op.operands]
 have hb:=hw _ _ hH;unfold Stp;rw[pD];simp only[execOp,ho,hx,eM,Instr.range,run_underlying hu,eL,Hn hb,eO];exact⟨_,Step.newB hw _,_,hw.fresh,rfl,rfl⟩
def left (es:List (κ×Value×Nat)) (seen:List Nat):List (κ×Value×Nat):=es.filter fun p=> !seen.any (gP p.2.2)
def LN {vs:List Value} {q r clock:Nat} {es:List (κ×Value×Nat)} {seen:List Nat} (ho:o.op= .next x false) (hx:e8 [x] vs x= .pointer (some ⟨q,0,none⟩)) (hE:ip ok es clock) (h:IT ke H q r es clock seen):
  Opn P o vs H fun v H'=>(left es seen=[]/\v= .tuple #[.bool false]/\H'=H)\/∃p∈left es seen,v= .tuple #[.bool true,ke p.1,p.2.1]/\H'=H.put q (.mapIter (some r) clock (seen++[p.2.2]).toArray clock):=fun w hw=>by
 obtain⟨h1,h2⟩:=h;have pD:o.op.operands.toList=[x]:=by simp[ho,Op.operands]
 have hq:=hw _ _ h1;have hr:=hw _ _ h2;have hlf:(eN ke es).filter (fun e=> !seen.any (gP e.born))=eN ke (left es seen):=by
  unfold eN left;rw[List.filter_map];rfl
 have oV:∀e∈eN ke es,e.born<clock:=fun e he=>by
  obtain⟨p,hp,rfl⟩:=bK.1 he;exact hE.lt p hp
 have oS:=c1r (P:=P) (ty:=o.type) hq hr (fun e he=>oV e (dJ.1 he).1) (by
  by_cases he:eN ke es=[]
  ·exact .inr (.inl he)
  ·obtain⟨e,r,hh⟩:=List.exists_cons_of_ne_nil he;exact .inr (.inr ⟨e,by rw[hh];simp,oV e (by rw[hh];simp)⟩))
 unfold Stp;rw[pD];simp only[execOp,ho,hx,eM];rw[hlf]at oS;rcases oS with⟨h3,h4⟩|⟨e,he,w1,rG,hh1,h4⟩
 ·rw[h4];exact⟨_,Step.refl hw,.inl ⟨by unfold eN at h3;simpa using h3,rfl,rfl⟩⟩
 ·rw[h4];obtain⟨p,hp,rfl⟩:=bK.1 he;exact⟨_,(Step.of_ext hw rG).trans (Step.setB (hw.ext rG) h1 _),.inr ⟨p,hp,rfl,rfl⟩⟩
def LO {vs:List Value} {q r clock:Nat} {es:List (κ×Value×Nat)} {seen:List Nat} {p:κ×Value×Nat} (ho:o.op= .entry x) (hx:e8 [x] vs x= .pointer (some ⟨q,0,none⟩)) (hE:ip ok es clock) (hp:p∈es) (h:IT ke H q r es clock (seen++[p.2.2])):Rds P o vs H (.tuple #[ke p.1,p.2.1]):=fun w hw=>by
 obtain⟨h1,h2⟩:=h;have pD:o.op.operands.toList=[x]:=by simp[ho,Op.operands]
 have hq:=hw _ _ h1;have yC:(getObj q).run P w= .ok (.mapIter (some r) clock (seen++[p.2.2]).toArray clock) w:=by simp[getObj,Sem.run,hq]
 have uN:=Hn (P:=P) (hw _ _ h2);have hf:(eN ke es).toArray.find? (·.born==p.2.2)=some ⟨ke p.1,p.2.1,p.2.2⟩:=by
  rw[<-Array.find?_toList];show(eN ke es).find? _=_;unfold eN;rw[List.find?_map];have hu:es.find? ((fun e:MapEntry=>e.born==p.2.2) ∘ fun p=>⟨ke p.1,p.2.1,p.2.2⟩)=some p:=by
   obtain⟨i,hi⟩:=eJ.1 hp;rw[List.find?_eq_some_iff_getElem];obtain⟨yJ,rfl⟩:=aH.1 hi;refine⟨aD,i,yJ,rfl,fun j hj=> ?_⟩;have:=cS.1 hE.asc j i (by simp;omega) (by simpa using yJ) hj;simp only[List.getElem_map]at this;simp;omega
  rw[hu];rfl
 have hb:(seen++[p.2.2]).toArray.back? =some p.2.2:=aD;rw[pD];simp only[execOp,ho,hx,eM,Instr.entry,yC,eL,hb,uN,bne_self_eq_false,aZ,if_false,hf,eO]
end
end
end Go.RX
namespace Go.Z
open Proofs.Tryz RowKit RX GS RZ
open WD (words dig wd)
def LP {P:Program} {kt:TypeId} {κ:Type} {ok:κ->Prop} {ce:κ->List AV} {ve:κ->Value} (hK:Du P kt) (hf:∀k,ok k->Ce P 6 kt (ce k)=true) (hr:∀(σ:Rl) k,rz σ (.agg (ce k))=ve k) (hi:∀a b,ok a->ok b->ve a=ve b->a=b):Qr P kt ok ve where
 check:=fun k hk b w=>by
  have hK:∀t,(fun t=>gP t kt) t=true->Du P t:=fun t ht=>by rw[Qq ht];exact hK
  have:=LH (σ:=fun _=>(0,0)) (kty:=fun t=>gP t kt) hK (v:= .agg (ce k)) (kt:=kt) (by simp[Dt,hf k hk]) b w
  rwa[hr]at this
 stays:=fun k hk w=>by
  have hK:∀t,(fun t=>gP t kt) t=true->Du P t:=fun t ht=>by rw[Qq ht];exact hK
  have:=LI (σ:=fun _=>(0,0)) (kty:=fun t=>gP t kt) hK (v:= .agg (ce k)) (kt:=kt) (by simp[Dt,hf k hk]) w
  rwa[hr]at this
 find:=fun k hk E hE w=>by
  have hK:∀t,(fun t=>gP t kt) t=true->Du P t:=fun t ht=>by rw[Qq ht];exact hK
  have:=LJ (σ:=fun _=>(0,0)) (kty:=fun t=>gP t kt) (key:= .agg (ce k)) (kt:=kt) hK (by simp[Dt,hf k hk]) E (fun e he=>by
   obtain⟨a,ha,h⟩:=hE e he;exact⟨.agg (ce a),by rw[hr];exact h,by simp[Dt,hf a ha]⟩) w
  rwa[hr]at this
 inj:=hi
def iu (p:Nat×Nat):Prop:=p.1<M64/\p.2<M64
def kW2 (p:Nat×Nat):Value:= .agg #[uv p.1,uv p.2]
def d7n:Du prog 243:=by
 have big:6<=(prog).types.size+1:=oDt aB;exact⟨aB,aB,aB,aB,aB,big⟩
def wA (s:Nat):AV:= .int .u64 (.ofNat s)
def d7o {p:Nat×Nat} (h:iu p):Ce prog 6 243 [wA p.1,wA p.2]=true:=by
 have hu:prog.underlying 243=some (.array 2 42):=aB;have h1:prog.cellsOf 243=2:=aB;have h2:prog.cellsOf 42=1:=aB;have hr:eT 2=[0,1]:=aC;unfold Ce;rw[hu];simp only[h1,h2,hr,List.all_cons,List.all_nil,jJ];rw[aT,aT];exact⟨rfl,xk h.1 4,xk h.2 4⟩
def xn:Qr prog 243 iu kW2:=LP (ce:=fun p=>[wA p.1,wA p.2]) d7n (fun _ h=>d7o h) (fun σ p=>rfl) fun a b ha hb h=>by
 unfold kW2 uv at h
 injection h with h
 have h:=congrArg nQ h;simp only[List.cons.injEq,kG,true_and,and_true]at h;exact Prod.ext aA aA
def Yu:Qr prog 9 (fun l:List UInt8=>l.length<=maxLen) st:=by
 have hu:prog.underlying 9=some .string:=aB;have hk:∀l:List UInt8,l.length<=maxLen->keyOf prog 9 (st l)=some (.string l):=fun l hl=>Go.WideMaps.keyOf_string_mk (s:=ba l) hu (by rw[Nn];exact hl);have K:=Go.WideMaps.string_law hu;exact{
  check:=fun k hl b w=>K.check w b (hk k hl)
  stays:=fun k hl w=>K.stays w (hk k hl)
  find:=fun k hl E hE w=>K.find w (hk k hl) E fun e he=>by
   obtain⟨a,ha,h⟩:=hE e he;exact⟨_,by rw[h];exact hk a ha⟩
  inj:=fun a b _ _ h=>by
   unfold st ba at h
   injection h with h
   injection h with h
   have:=congrArg nQ h;simpa using this}
def LQ:Qr prog 3 (fun _:Int=>True) ii:=by
 have hu:prog.underlying 3=some (.int .i64):=aB;have hB:∀z:Int,Dt prog (fun _=>false) 3 (.int .i64 z)=true:=fun z=>by
  show(match prog.underlying 3 with|some (.int q)=>isK .i64 q|_=>false)=true;rw[hu];rfl
 have hK:∀t,(fun _:TypeId=>false) t=true->Du prog t:=fun _ h=>nomatch h;exact{
  check:=fun k _ b w=>by
   have:=LH (σ:=fun _=>(0,0)) (kty:=fun _=>false) hK (hB k) b w
   rwa[rz]at this
  stays:=fun k _ w=>by
   have:=LI (σ:=fun _=>(0,0)) (kty:=fun _=>false) hK (hB k) w
   rwa[rz]at this
  find:=fun k _ E hE w=>by
   have:=LJ (σ:=fun _=>(0,0)) (kty:=fun _=>false) hK (hB k) E (fun e he=>by
    obtain⟨a,_,h⟩:=hE e he;exact⟨.int .i64 a,by rw[rz];exact h,hB a⟩) w
   rwa[rz]at this
  inj:=fun a b _ _ h=>by injection h}
end Go.Z

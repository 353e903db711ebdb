/- Lemmas of the proof. -/
import Derived.Test.YtlmbepjdokomkaaGreatDoorWdQ
import Derived.Lib.Builder
import Derived.Lib.UnsafeStr
import Derived.LaidEqlPtr
import Derived.Laws.Concat
import Derived.Laws.IdiomStrings
import Derived.Laws.BytesArg
import Derived.Laws.IdiomCopy
open Go.Result renaming andThen_ok->eL
open Go.Sem renaming run_bind->eM,run_pure->eO
open Go.Value.int renaming injEq->kG
open Int renaming eq_nat_or_neg->mP,natAbs_natCast->fA,natAbs_neg->gW,natCast_mul->iQ
open List renaming drop_of_length_le->iC,map_toArray->gA
open Nat renaming add_comm->iF,add_mul_div_right->lT,div_add_mod->iP,div_eq_of_lt->fW,dvd_trans->nV,gcd->fS,gcd_comm->mG,lt_trans->iK,mul_add->fK,mul_assoc->fF,mul_comm->eX,mul_left_comm->mQ,mul_one->gB,mul_zero->gQ,pow_add->gJ,pow_pos->iW,pow_zero->jZ,zero_lt_succ->eP
set_option linter.all false
set_option maxRecDepth 100000
open Go.IntKind renaming wrap->wQ
namespace Go.RX
open RowKit
def fieldsOf (P:Program) (t:TypeId):Array Field:=match P.underlying t with|some (.struct fs)=>fs|_=> #[]
def fieldAt (P:Program) (t:TypeId) (i:Nat):Field:=((fieldsOf P t)[i]?).getD default
def K8 {P:Program} {t:TypeId} {i:Nat} (h:i<(fieldsOf P t).size):(fieldsOf P t)[i]? =some (fieldAt P t i):=by
 unfold fieldAt;rw[cI h];rfl
def PH.put_same {H:PH} {b:Nat} {ob:Obj} (h:H b=some ob):H.put b ob=H:=by
 funext k;unfold PH.put;split
 ·rename_i e;rw[e,h]
 ·rfl
section
variable {P:Program} {H:PH} {o:Oper} {x y:Operand} {vs:List Value}
def K9 {a:Addr} (ho:o.op= .nilCheck x) (hx:e8 [x] vs x= .pointer (some a)):Yld P o vs (.pointer (some a)):=fun w=>by
 have pD:o.op.operands.toList=[x]:=by simp[ho,Op.operands]
 rw[pD];simp only[execOp,ho,hx];rfl
end
open Go.RowKit
section
variable {P:Program} {H:PH} {o:Oper} {x y:Operand} {vs:List Value} {l m:List UInt8}
def L1 (l m:List UInt8):ba l++ba m=ba (l++m):=ByteArray.mk_append_mk l m
def L3 {t t':TypeId} (ho:o.op= .binOp .add t x y t') (hx:e8 [x,y] vs x=st l) (hy:e8 [x,y] vs y=st m) (pB:l.length+m.length<=9223372036854775807):Yld P o vs (st (l++m)):=fun w=>by
 have pD:o.op.operands.toList=[x,y]:=by simp[ho,Op.operands]
 rw[pD];simp only[execOp,ho,hx,hy,st];simp only[eM,binOp_string_add];have h:=run_string_add_sum (P:=P) w (ba l) (ba m) (by rw[Nn,Nn];exact pB);rw[L1]at h;simp[eqGuard,h]
def HJ {t t':TypeId} (ho:o.op= .binOp .neq t x y t') (hx:e8 [x,y] vs x=st l) (hy:e8 [x,y] vs y=st m):Yld P o vs (.bool (!(l==m))):=fun w=>by
 have pD:o.op.operands.toList=[x,y]:=by simp[ho,Op.operands]
 rw[pD];simp only[execOp,ho,hx,hy,st];simp only[eM,binOp_string_neq,qw];simp[eqGuard]
def L4 {t u:TypeId} {a b:Int} (ho:o.op= .call ⟨.builtin .min,#[x,y],#[t,u]⟩) (hx:e8 [x,y] vs x= .int .i64 a) (hy:e8 [x,y] vs y= .int .i64 b):Yld P o vs (.int .i64 (if b<a then b else a)):=fun w=>by
 have pD:o.op.operands.toList=[x,y]:=by simp[ho,Op.operands,Call.operands]
 rw[pD];simp only[execOp,ho,resolve,invoke,eM,eO,eL,gA,aU,cN,hx,hy];simp only[builtin,eM,run_min_int2,eL];rfl
def L5 {t e:TypeId} {i:TypeInfo} {z:Value} {sz m g:Nat} {u:Value} {news:List Value} (ho:o.op= .call ⟨.builtin .append,#[x,y],#[t,t]⟩) (hx:e8 [x,y] vs x= .slice (some ⟨g,0,none⟩) 0 0) (hy:e8 [x,y] vs y=u)
  (hu:P.underlying t=some (.slice e)) (hi:P.info? e=some i) (hz:i.zero=some z) (qI:i.size=sz) (hzs:z.cells.size=sz) (hs:Sl H sz u m news) (hm:0<m) (h63:m<=maxLen) (sW:m*i.bytes<=140737488355328):
  Opn P o vs H fun v' H'=>Pl H H'/\OwS H H' e sz v' m news:=fun w hw=>by
 have pD:o.op.operands.toList=[x,y]:=by simp[ho,Op.operands,Call.operands]
 obtain⟨hl,a,c,qW,hmc,yB,hs⟩:=hs;obtain⟨b,q,cs,T,fz,ha,hb,hn⟩:=hs.resolve_left aA;subst ha;have rX:=di (hw _ _ hb) hn;have yW:=grownCap_ge w m 0 e;have a3r:grownCap w m 0 e<=maxLen:=grownCap_le_maxLen w m 0 e h63;have hr:=run_append_grow (P:=P) w t o.type e i z hu hi hz ⟨g,0,none⟩ 0 0 [] aD (fun j u hj=>by simp at hj) ⟨b,q,none⟩ m c news (by rw[qI];exact hl) rX aA (by simp only[maxLen]at h63;omega) (growslice_fits aA (by rw[bP];exact sW));unfold Stp;rw[pD];simp only[execOp,ho,resolve,invoke,eM,eO,eL,gA,aU,cN,hx,hy,qW,builtin];simp only[bP,Array.empty_append]at hr;rw[hr];have hd:Ext w w.drew:=⟨rfl,rfl,rfl,aS _,fun _ _=>rfl,Nat.le_succ _⟩;refine⟨_,(Step.of_ext hw hd).trans (Step.newB (hw.ext hd) _),PH.le_put hw.fresh _,hl,.inr ⟨w.heap.size,_,_,rfl,hw.fresh,PH.put_self _ _ _,yW,a3r,?_,?_⟩⟩
 ·simp only[cQ,List.size_toArray,size_zeroCells,hzs,hl,<-cM];congr 1;omega
 ·simp only[eE];rw[<-hl];exact List.take_left
def ua {S T:TypeId} {i b q off:Nat} (ho:o.op= .fieldAddr S x i) (hx:e8 [x] vs x= .pointer (some ⟨b,q,none⟩)) (hS:P.underlying S=some (.struct (fieldsOf P S))) (hi:i<(fieldsOf P S).size) (hT:(fieldAt P S i).type=T) (hof:(fieldAt P S i).offset=off) (hT':r9 P T=true) (hc:P.cellsOf T≠0):Yld P o vs (.pointer (some ⟨b,q+off,none⟩)):=fun w=>by
 have pD:o.op.operands.toList=[x]:=by simp[ho,Op.operands]
 rw[pD];simp only[execOp,ho,hx,eM];rw[EF hS (K8 hi) (by rw[hT];exact hT') (by rw[hT];exact hc),hof];rfl
def eu {T e:TypeId} {n b q:Nat} (ho:o.op= .slice T x none none none) (hx:e8 [x] vs x= .pointer (some ⟨b,q,none⟩)) (hu:P.underlying T=some (.array n e)) (he:r9 P e=true):
  Yld P o vs (.slice (some ⟨b,q,none⟩) n n):=fun w=>by
 have pD:o.op.operands.toList=[x]:=by simp[ho,Op.operands]
 obtain⟨⟨i,hi⟩,_⟩:=Ez he;rw[pD];simp only[execOp,ho,hx,Option.map_none,Instr.sliceAt,eM,run_underlying hu,eL,Instr.sureAddr,eO,Instr.sliceBounds,Gl hi,Sr];simp
def L6 {dT sT e T:TypeId} {i:TypeInfo} {g q dLen dCap m:Nat} {cur:Array Value} {u:Value} {news:List Value} (ho:o.op= .call ⟨.builtin .copy,#[x,y],#[dT,sT]⟩) (hx:e8 [x,y] vs x= .slice (some ⟨g,q,none⟩) dLen dCap) (hy:e8 [x,y] vs y=u)
  (hu:P.underlying dT=some (.slice e)) (hi:P.info? e=some i) (qI:i.size=1) (hg:H g=some (.cells cur T (0,0))) (hs:Sl H 1 u m news) (h1:∀c∈news,c.oneCell'=true) (hm:m<=dLen) (sX:q+m<=cur.size):
  Opn P o vs H fun _ H'=>H'=H.put g (.cells (cur.toList.take q++news++cur.toList.drop (q+m)).toArray T (0,0)):=fun w hw=>by
 have pD:o.op.operands.toList=[x,y]:=by simp[ho,Op.operands,Call.operands]
 have hgw:=hw _ _ hg;obtain⟨hl,a,c,qW,hmc,yB,hs⟩:=hs;rw[gB]at hl;have tW:(P.info? e).map (·.size)=some 1:=by rw[hi];simp[qI]
 unfold Stp;rw[pD];simp only[execOp,ho,resolve,invoke,eM,eO,eL,gA,aU,cN,hx,hy,qW,builtin];rcases hs with h0|⟨b,q',cs,T',fz,ha,hb,hn⟩
 ·subst h0;obtain rfl:news=[]:=aV hl;rw[run_copy_none w dT sT o.type e (some ⟨g,q,none⟩) a dLen dCap 0 c hu tW aD];refine⟨_,Step.refl hw,?_⟩;rw[dM,cP,dK,Array.toArray_toList,PH.put_same hg]
 ·subst ha;rw[gB]at hn;have rX:=di (hw _ _ hb) hn;have hr:=run_copy_row (P:=P) w dT sT o.type e g q dLen dCap ⟨b,q',none⟩ m c cur T news hu tW hgw (by rw[hl];exact(cH hm).symm) rX (by rw[hl];exact sX) h1;rw[hr,hl];refine⟨_,⟨rfl,rfl,rfl,aD,fun k hk hn=>setRow_other _ _ _ _ (fun e=>by rw[e,hg]at hn;cases hn),fun k ob hk=> ?_,fun k hk=> ?_,aS _⟩,rfl⟩
  ·unfold PH.put at hk;split at hk
   ·rename_i e;subst e;cases hk;exact setRow_heap w k _ _ T (0,0) hgw
   ·rename_i e;rw[setRow_other _ _ _ _ e];exact hw k ob hk
  ·unfold PH.put at hk;split at hk
   ·rename_i e;subst e;exact .inl (by simp[hg])
   ·exact .inl hk
end
end Go.RX
namespace Go.Z
open Proofs.Tryz RowKit RX WD
def Lm (z:Int):Prop:=z.natAbs<BP 10000
def L7 (z:Int):sn (!decide (z<0)) z.natAbs= -z:=by
 unfold sn;by_cases h:z<0<;>simp[h]<;>omega
def L8 (z:Int):sn (decide (z<0)) z.natAbs=z:=by
 unfold sn;by_cases h:z<0<;>simp[h]<;>omega
section
variable {H:PH} {v x y:Value} {z p q:Int}
def L9 (h:(decide (p<0)==decide (q<0))=true):sn (decide (p<0)) (p.natAbs+q.natAbs)=p+q:=by
 unfold sn;by_cases h1:p<0<;>by_cases h2:q<0<;>simp[h1,h2]at h⊢<;>omega
def HK (h:(decide (p<0)==decide (q<0))=false) (hl:q.natAbs<=p.natAbs):sn (decide (p<0)) (p.natAbs-q.natAbs)=p+q:=by
 unfold sn;by_cases h1:p<0<;>by_cases h2:q<0<;>simp[h1,h2]at h⊢<;>omega
def M0:sn (true !=(decide (p<0)==decide (q<0))) (p.natAbs*q.natAbs)=p*q:=by
 obtain⟨a,ha⟩:=mP p;obtain⟨b,hb⟩:=mP q;have tY:(((a*b:Nat):Int))=(a:Int)*b:=iQ a b;have hz:a=0\/b=0->(a:Int)*b=0:=by rintro(h|h)<;>rw[h]<;>simp
 unfold sn;rcases ha with ha|ha<;>rcases hb with hb|hb<;>subst ha<;>subst hb
 ·simp[show ¬(a:Int)<0 by omega,show ¬(b:Int)<0 by omega]
 ·rw[gW,fA,fA,tY,Int.mul_neg];by_cases h:b=0
  ·rw[hz (.inr h)];simp
  ·rw[decide_eq_false (show ¬(a:Int)<0 by omega),oDd (show -(b:Int)<0 by omega)];rfl
 ·rw[gW,fA,fA,tY,Int.neg_mul];by_cases h:a=0
  ·rw[hz (.inl h)];simp
  ·rw[decide_eq_false (show ¬(b:Int)<0 by omega),oDd (show -(a:Int)<0 by omega)];rfl
 ·rw[gW,fA,gW,fA,tY,Int.neg_mul_neg];by_cases h:a=0\/b=0
  ·rw[hz h];simp
  ·rw[oDd (show -(a:Int)<0 by omega),oDd (show -(b:Int)<0 by omega)];rfl
end
def ub:j3 prog 4= .bool false:=aB
open Classical in
section
variable {H:PH} {v x y:Value} {z p q:Int}
def Lm.nat {n:Nat} (h:n<BP 10000):Lm (n:Int):=by unfold Lm;rw[fA];exact h
def ud:Lm 1:=by
 unfold Lm;have:=BP_lt_iff.2 (show 0<10000 by omega);rw[BP_zero]at this;exact this
end
open Go.RowKit Go.RX Go.WD
def M5 {z:Int} (h:z.natAbs<M):Lm z:=by
 unfold Lm;have:=Hq (show 16<=10000 by omega);rw[D7]at this;omega
def fb (a:Nat):Lm (toI a):=M5 (Tv a)
def Es.len {H:PH} {v:Value} {l:List Nat} (h:Es H v l):l.length<9223372036854775808:=by
 have:=h.1.len_le;simp only[maxLen]at this;omega
def Es.take {H:PH} {v:Value} {l:List Nat} {o:Oper} {x hi:Operand} {i:Nat} {k:IntKind} {vs:List Value} (h:Es H v l) (ho:o.op= .slice 140 x none (some hi) none) (hx:e8 [x,hi] vs x=v) (hl:e8 [x,hi] vs hi= .int k (i:Nat)) (h1:i<=l.length):∃u,Yld prog o vs u/\Es H u (l.take i):=by
 obtain⟨u,h2,h3⟩:=ZP (P:=prog) ho hx hl Kt Ks h.1 h1;refine⟨u,h2,?_,h.2.take i⟩;rw[bD,cH h1,List.map_take]
 rwa[gB]at h3
def Nu (l:List Nat) (k:Nat):ul (l.take (k+1))=ul (l.take k)+PW k*l.getD k 0:=by
 rcases eB k l.length with h|h
 ·exact Tu h
 ·rw[aI aA,aI h,Tt h,gQ,cP]
def Mu.one {H:PH} {v:Value} {n:Nat} (h:Mu H v n):v.cells= #[v]/\v.cells.size=1/\i8 v.cells:=by
 obtain⟨l,h1,_⟩:=h;exact⟨h1.cells,h1.one⟩
def Lw (H:PH) (v:Value) (z:Int):Prop:=∃w,v= .agg #[.bool (decide (z<0)),w]/\Mu H w z.natAbs
def Lw.mono {H H':PH} {v:Value} {z:Int} (h:Lw H v z) (hl:Pl H H'):Lw H' v z:=by
 obtain⟨w,h1,h2⟩:=h;exact⟨w,h1,h2.mono hl⟩
def Lw.rq {H:PH} {v:Value} {z:Int} (h:Lw H v z):v.cells.size=2/\i8 v.cells:=by
 obtain⟨w,rfl,hw⟩:=h;refine⟨rfl,fun c hc=> ?_⟩;have h1:=hw.one.2.2;rw[hw.one.1]at h1;rw[show(Value.agg #[.bool (decide (z<0)),w]).cells= #[.bool (decide (z<0)),w]from rfl]at hc;simp only[aX,bV,or_false]at hc;rcases hc with h2|h2
 ·rw[h2];rfl
 ·rw[h2];exact h1 w aD
section
variable {H:PH} {v:Value} {l:List Nat}
def HL {n:Nat} (hn:n<=l.length) (hz:∀k,n<=k->l.getD k 0=0):ul (l.take n)=ul l:=by
 obtain⟨d,hd⟩:=Nat.exists_eq_add_of_le hn;induction d generalizing n with
 |zero=>rw[aI aA]
 |succ d ih=>
  have:=ih (n:=n+1) aA (fun k hk=>hz k aA) aA;rw[Tu aA,hz n (aS n),gQ,cP]at this;exact this
def Ht (b:Bool) (h:Es H v l):Con prog 133 [.bool b,v] H fun u H'=>H'=H/\Lw H u (sn b (ul l)):=by
 have pB:=h.len;refine t8 mixed G7 aB rfl (Ab rfl rfl h rfl ⟨fun vals H'=>∃n:Nat,vals=[iv n]/\H'=H/\n<=l.length/\∀k,n<=k->l.getD k 0=0,fun vals _=>(intOf (vals.getD 0 undef)).toNat,⟨l.length,rfl,rfl,aS _,fun k hk=>Tt hk⟩,?_⟩);rintro vals H'-⟨n,rfl,rfl,hn,hz⟩;simp only[cA,nA];refine⟨fun vs H1=>H1=H'/\vs=[.bool (decide (0<n/\l.getD (n-1) 0=0))],b4 ⟨_,rfl⟩ (g8 (b:=decide ((n:Int)>0)) rfl (fun hb=> ?_) (fun hb=> ?_)),?_⟩
 ·have hb:=oDt hb;have e1:wQ .i64 ((n:Int)-1)=((n-1:Nat):Int):=GZ aA aA;refine Dc (k:= .i64) (j:=n-1) rfl rfl rfl rfl aF h aA (by simp only[rxs,iv,e1]) aF fun p=>b4 ⟨_,rfl⟩ ⟨rfl,?_⟩;simp only[rxs,uvL];congr 2;rw[bS];simp only[beq_iff_eq,decide_eq_true_eq];omega
 ·have hb:=oDf hb;refine⟨rfl,?_⟩;simp only[rxs];congr 2;rw[eq_comm,decide_eq_false_iff_not];omega
 rintro vs H1-⟨rfl,rfl⟩;simp only[cA,nA];refine b4 ⟨_,rfl⟩ (g8 rfl (fun hb=> ?_) (fun hb=> ?_))
 ·have hb:=oDt hb;have e1:wQ .i64 ((n:Int)-1)=((n-1:Nat):Int):=GZ aA aA;refine b4 ⟨_,rfl⟩ ⟨⟨n-1,?_,rfl,aA,fun k hk=> ?_⟩,?_⟩
  ·simp only[rxs,iv,e1]
  ·rcases Nat.eq_or_lt_of_le hk with e|e
   ·rw[<-e];exact hb.2
   ·exact hz k aA
  ·simp only[rxs,iv,e1];omega
 ·have hb:=oDf hb;have htm:Um (l.take n):=by
   rcases dX n with e|e
   ·subst e;exact Um.nil
   ·refine Um.of (n:=n-1) (by rw[bD];omega) ?_;rw[aK,dG,if_pos aA,<-aK];exact fun h0=>hb ⟨e,h0⟩
  have qF:=htm.pos;rw[HL hn hz,bD,cH hn]at qF;obtain⟨u,hu,hd⟩:=Es.take (vs:=[v,iv n]) (k:= .i64) (i:=n) h G8 rfl rfl hn;have hMu:Mu H1 u (ul l):=⟨l.take n,hd,htm,HL hn hz⟩;refine b4 ⟨_,rfl⟩ (g8 rfl (fun hb=> ?_) (fun hb=> ?_))
  ·subst hb;refine b4 ⟨_,rfl⟩ (j6 (hu.rds _) rfl (b4 hd.one (c9 rfl ⟨rfl,u,?_,?_⟩)))
   ·simp only[rxs,y9,hd.cells,iv,qs];show Value.agg #[.bool (decide ((n:Int)>0)),u]=_;congr 4;rw[decide_eq_decide];show _↔ -(ul l:Int)<0;omega
   ·show Mu _ u (-(ul l:Int)).natAbs;rw[gW,fA];exact hMu
  ·subst hb;refine j6 (hu.rds _) rfl (b4 hd.one (c9 rfl ⟨rfl,u,?_,?_⟩))
   ·simp only[rxs,y9,hd.cells,qs];show Value.agg #[.bool false,u]=_;congr 4
   ·exact hMu
def M6 {a b:List Nat} (ha:Eg a) (hb:Eg b) (ta:Um a) (tb:Um b) (h:a.length≠b.length):((a.length:Int)-b.length<0↔ul a<ul b)/\((a.length:Int)-b.length=0↔ul a=ul b):=by
 rcases Nat.lt_or_gt_of_ne h with h1|h1
 ·have:=Um.lt_of_len ha tb h1;omega
 ·have:=Um.lt_of_len hb ta h1;omega
def HN {a b:List Nat} {va vb:Value} (ha:Es H va a) (hb:Es H vb b) (ta:Um a) (tb:Um b):Con prog 174 [va,vb] H fun u H'=>H'=H/\∃c:Int,u= .int .i64 c/\(c<0↔ul a<ul b)/\(c=0↔ul a=ul b):=by
 have wI:=ha.len;have xA:=hb.len;refine t8 mixed I3 aB rfl (Ab rfl rfl ha rfl (Ab rfl rfl hb rfl (b4 ⟨_,rfl⟩ (b4 ⟨_,rfl⟩ (g8 (b:=((a.length:Int) !=(b.length:Int))) rfl (fun h=> ?_) (fun h=> ?_))))))
 ·have h:a.length≠b.length:=by have:=bne_iff_ne.1 h;omega
  have e1:wQ .i64 ((a.length:Int)-(b.length:Int))=(a.length:Int)-(b.length:Int):=Kr aA aA;refine Ab rfl rfl ha rfl (Ab rfl rfl hb rfl (b4 ⟨_,rfl⟩ (b4 ⟨_,rfl⟩ (c9 rfl ⟨rfl,_,?_,M6 ha.2 hb.2 ta tb h⟩))));simp only[rxs,iv,y9,e1]
 have h:a.length=b.length:=by have:=bne_eq_false_iff_eq.1 h;omega
 have e1:wQ .i64 ((a.length:Int)-1)=(a.length:Int)-1:=Kr aA aA;refine Ab rfl rfl ha rfl (b4 ⟨_,rfl⟩ ⟨fun vals H'=>∃i:Nat,vals=[.int .i64 0,.int .i64 ((i:Int)-1)]/\H'=H/\i<=a.length/\a.drop i=b.drop i,fun vals _=>(intOf (vals.getD 1 undef)+1).toNat,⟨a.length,?_,rfl,aS _,?_⟩,?_⟩)
 ·simp only[rxs,iv,e1]
 ·rw[iC (aS _),iC aA]
 rintro vals H'-⟨i,rfl,rfl,hi,hd⟩;simp only[cA,nA];refine b4 ⟨_,rfl⟩ (g8 (b:=decide ((i:Int)-1≥0)) rfl (fun tH=> ?_) (fun tH=> ?_))
 ·have tH:=oDt tH;obtain⟨j,rfl⟩:∃j,i=j+1:=⟨i-1,aA⟩;have ej:((j+1:Nat):Int)-1=(j:Int):=aA;rw[ej];have e2:wQ .i64 ((j:Int)-1)=(j:Int)-1:=Kr aA aA;refine Dc (k:= .i64) (j:=j) rfl rfl rfl rfl aF ha aA rfl aF fun p1=>Dc (k:= .i64) (j:=j) rfl rfl rfl rfl aF hb aA rfl aF fun p2=> ?_;simp only[cA,nA];refine b4 ⟨_,rfl⟩ (b4 ⟨_,rfl⟩ (g8 (b:=decide (((a.getD j 0:Nat):Int)<((b.getD j 0:Nat):Int))) rfl (fun h1=> ?_) (fun h1=> ?_)))
  ·have h1:=oDt h1;have:=GK ha.2 hb.2 (show j<a.length by omega) aA hd aA;exact c9 rfl ⟨rfl,-1,rfl,aA,aA⟩
  ·have h1:=oDf h1;refine Dc (k:= .i64) (j:=j) rfl rfl rfl rfl aF ha aA rfl aF fun p3=>Dc (k:= .i64) (j:=j) rfl rfl rfl rfl aF hb aA rfl aF fun p4=> ?_;simp only[cA,nA];refine b4 ⟨_,rfl⟩ (b4 ⟨_,rfl⟩ (g8 (b:=decide (((a.getD j 0:Nat):Int)>((b.getD j 0:Nat):Int))) rfl (fun h2=> ?_) (fun h2=> ?_)))
   ·have h2:=oDt h2;have:=GK hb.2 ha.2 (show j<b.length by omega) aA hd.symm aA;exact c9 rfl ⟨rfl,1,rfl,aA,aA⟩
   ·have h2:=oDf h2;refine⟨⟨j,?_,rfl,aA,?_⟩,?_⟩
    ·simp only[rxs,e2]
    ·rw[du (show j<a.length by omega),du (show j<b.length by omega),hd,show a.getD j 0=b.getD j 0 from aA]
    ·simp only[rxs,e2];omega
 ·have tH:=oDf tH;have tI:i=0:=aA;subst tI;rw[dS,dS]at hd;exact c9 rfl ⟨rfl,0,rfl,by rw[hd];omega,by rw[hd];omega⟩
end
section
variable {H:PH} {a b:List Nat} {va vb:Value}
def M7 (ha:Es H va a) (hb:Es H vb b) (hA:a.length<=100000) (hB:b.length<=100000):Con prog 173 [va,vb] H fun u H'=>Pl H H'/\∃l,Es H' u l/\ul l=ul a+ul b:=by
 refine t8 mixed I4 aB rfl (Ab rfl rfl ha rfl (Ab rfl rfl hb rfl (b4 ⟨_,rfl⟩ (b4 ⟨_,rfl⟩ ⟨fun vals H'=>H'=H/\∃(x y:List Nat) (vx vy:Value),vals=[vx,vy]/\Es H vx x/\Es H vy y/\x.length<=100000/\y.length<=x.length/\ul x+ul y=ul a+ul b,g8 (b:=decide ((a.length:Int)<(b.length:Int))) rfl (fun h=> ?_) (fun h=> ?_),?_⟩))))
 ·have h:=oDt h;exact⟨rfl,b,a,vb,va,rfl,hb,ha,hB,aA,iF _ _⟩
 ·have h:=oDf h;exact⟨rfl,a,b,va,vb,rfl,ha,hb,hA,aA,rfl⟩
 rintro vals H0-⟨rfl,x,y,vx,vy,rfl,hx,hy,hX,hyx,a0m⟩;simp only[cA,nA];have e0:wQ .i64 ((x.length:Int)+1)=((x.length+1:Nat):Int):=Kq aA;refine Ab rfl rfl hx rfl (b4 ⟨_,rfl⟩ (Xu (kl:= .i64) (kc:= .i64) (m:=x.length+1) rfl rfl rfl aA (by simp only[rxs,iv,e0]) fun out H1 qD h1=> ?_));simp only[cA,nA];refine Ab rfl rfl (hx.mono qD) rfl ⟨fun vals H'=>∃(c i:Nat) (l:List Nat),vals=[.int .u64 (c:Nat),iv i]/\c<=1/\i<=x.length/\Pl H0 H'/\Eo H0 H' out l/\l.length=x.length+1/\(∀k,i<=k->l.getD k 0=0)/\ul l+PW i*c=ul (x.take i)+ul (y.take i),fun vals _=>(x.length-intOf (vals.getD 1 undef)).toNat,⟨0,0,_,rfl,aA,aA,qD,h1,aD,fun k _=>Xn _ k,?_⟩,?_⟩
 ·rw[Qi];simp[ul]
 rintro vals H'-⟨c,i,l,rfl,hc,hi,oW,hO,uX,hz,hv⟩;simp only[cA,nA];have wS:=hx.mono oW;have wG:=hy.mono oW;refine b4 ⟨_,rfl⟩ (b4 ⟨_,rfl⟩ (g8 (b:=decide ((i:Int)<x.length)) rfl (fun h=> ?_) (fun h=> ?_)))
 ·have h:i<x.length:=by have:=oDt h;omega
  have dx:=hx.2.at i;have dy:=hy.2.at i;have e1:wQ .i64 ((i:Int)+1)=((i+1:Nat):Int):=Kq aA;refine Dc (k:= .i64) (j:=i) rfl rfl rfl rfl aF wS h rfl aF fun p=> ?_;simp only[cA,nA];refine Ab rfl rfl wG rfl (b4 ⟨_,rfl⟩ ⟨fun vals H2=>H2=H'/\vals=[uvL (y.getD i 0)],g8 (b:=decide ((i:Int)<y.length)) rfl (fun h1=> ?_) (fun h1=> ?_),?_⟩)
  ·have h1:=oDt h1;exact Dc (k:= .i64) (j:=i) rfl rfl rfl rfl aF wG aA rfl aF fun p=>⟨rfl,rfl⟩
  ·have h1:=oDf h1;refine⟨rfl,?_⟩;rw[Tt (l:=y) aA];rfl
  rintro vals H2-⟨rfl,rfl⟩;simp only[cA,nA];refine dc (dj (x.getD i 0) (y.getD i 0) c dx dy hc) rfl (b4 ⟨_,rfl,eP _⟩ (b4 ⟨_,rfl,cY _⟩ ?_));simp only[cA,nA];obtain⟨s,hs⟩:∃s,s=(x.getD i 0+y.getD i 0+c)%18446744073709551616:=⟨_,rfl⟩;obtain⟨c',hc'⟩:∃c',c'=(x.getD i 0+y.getD i 0+c)/18446744073709551616:=⟨_,rfl⟩;have key:s+18446744073709551616*c'=x.getD i 0+y.getD i 0+c:=aA;rw[<-hs,<-hc'];refine Ku (k:= .i64) (j:=i) (d:=s) rfl rfl rfl rfl aF aF oW hO aA aA rfl aF rfl fun p u H3 uL h3 _=>⟨⟨c',i+1,_,?_,aA,aA,uL,h3,by rw[cD];exact uX,?_,?_⟩,?_⟩
  ·simp only[rxs,iv,e1]
  ·intro k hk;rw[Ko aA];exact hz k aA
  ·have k1:=Jd (l:=l) s (show i<l.length by omega);rw[hz i (aS _),gQ,cP]at k1;have k2:=congrArg (PW i* ·) key;simp only[fK]at k2;rw[Nu,Nu,k1,s9,fF];omega
  ·simp only[rxs,iv,e1];omega
 ·have h:i=x.length:=by have:=oDf h;omega
  subst h;refine Ab rfl rfl wS rfl ?_;simp only[cA,nA];refine Ku (k:= .i64) (j:=x.length) (d:=c) rfl rfl rfl rfl aF aF oW hO aA aA rfl aF rfl fun p u H3 uL h3 _=>c9 rfl ⟨uL,_,h3.es,?_⟩;have k1:=Jd (l:=l) c (show x.length<l.length by omega);rw[hz _ (aS _),gQ,cP]at k1;rw[k1,hv,aI (aS _),aI hyx,a0m]
def ue (ha:Es H va a) (hb:Es H vb b) (tY:ul b<=ul a) (hl:b.length<=a.length) (hA:a.length<=100000):Con prog 175 [va,vb] H fun u H'=>Pl H H'/\∃l,Es H' u l/\ul l=ul a-ul b:=by
 refine t8 mixed I5 aB rfl (Ab rfl rfl ha rfl (Xu (kl:= .i64) (kc:= .i64) (m:=a.length) rfl rfl rfl aA rfl fun out H1 qD h1=> ?_));simp only[cA,nA];refine Ab rfl rfl (ha.mono qD) rfl ⟨fun vals H'=>∃(c i:Nat) (l:List Nat),vals=[.int .u64 (c:Nat),iv i]/\c<=1/\i<=a.length/\Pl H H'/\Eo H H' out l/\l.length=a.length/\(∀k,i<=k->l.getD k 0=0)/\ul l+ul (b.take i)=ul (a.take i)+PW i*c,fun vals _=>(a.length-intOf (vals.getD 1 undef)).toNat,⟨0,0,_,rfl,aA,aA,qD,h1,aD,fun k _=>Xn _ k,?_⟩,?_⟩
 ·rw[Qi];simp[ul]
 rintro vals H'-⟨c,i,l,rfl,hc,hi,oW,hO,uX,hz,hv⟩;simp only[cA,nA];have sV:=ha.mono oW;have qJ:=hb.mono oW;refine b4 ⟨_,rfl⟩ (b4 ⟨_,rfl⟩ (g8 (b:=decide ((i:Int)<a.length)) rfl (fun h=> ?_) (fun h=> ?_)))
 ·have h:i<a.length:=by have:=oDt h;omega
  have dx:=ha.2.at i;have dy:=hb.2.at i;have e1:wQ .i64 ((i:Int)+1)=((i+1:Nat):Int):=Kq aA;refine Dc (k:= .i64) (j:=i) rfl rfl rfl rfl aF sV h rfl aF fun p=> ?_;simp only[cA,nA];refine Ab rfl rfl qJ rfl (b4 ⟨_,rfl⟩ ⟨fun vals H2=>H2=H'/\vals=[uvL (b.getD i 0)],g8 (b:=decide ((i:Int)<b.length)) rfl (fun h1=> ?_) (fun h1=> ?_),?_⟩)
  ·have h1:=oDt h1;exact Dc (k:= .i64) (j:=i) rfl rfl rfl rfl aF qJ aA rfl aF fun p=>⟨rfl,rfl⟩
  ·have h1:=oDf h1;refine⟨rfl,?_⟩;rw[Tt (l:=b) aA];rfl
  rintro vals H2-⟨rfl,rfl⟩;simp only[cA,nA];refine dc (FY (a.getD i 0) (b.getD i 0) c hc) rfl (b4 ⟨_,rfl,eP _⟩ (b4 ⟨_,rfl,cY _⟩ ?_));simp only[cA,nA];obtain⟨s,hs⟩:∃s,s=(a.getD i 0+18446744073709551616-b.getD i 0-c)%18446744073709551616:=⟨_,rfl⟩;obtain⟨c',hc'⟩:∃c',c'=(if a.getD i 0<b.getD i 0+c then 1 else 0):=⟨_,rfl⟩;have qL:c'<=1:=by rw[hc'];split<;>omega
  have key:s+b.getD i 0+c=a.getD i 0+18446744073709551616*c':=by rw[hs,hc'];split<;>omega
  rw[<-hs,<-hc'];refine Ku (k:= .i64) (j:=i) (d:=s) rfl rfl rfl rfl aF aF oW hO aA aA rfl aF rfl fun p u H3 uL h3 _=>⟨⟨c',i+1,_,?_,aA,aA,uL,h3,by rw[cD];exact uX,?_,?_⟩,?_⟩
  ·simp only[rxs,iv,e1]
  ·intro k hk;rw[Ko aA];exact hz k aA
  ·have k1:=Jd (l:=l) s (show i<l.length by omega);rw[hz i (aS _),gQ,cP]at k1;have k2:=congrArg (PW i* ·) key;simp only[fK]at k2;rw[Nu,Nu,k1,s9,fF];omega
  ·simp only[rxs,iv,e1];omega
 ·have h:i=a.length:=by have:=oDf h;omega
  subst h;rw[aI (aS _),aI hl]at hv;have oV:=Gp hO.2;rw[uX]at oV;have uU:c=0:=by
   rcases dX c with e|e
   ·exact e
   ·have:c=1:=aA;rw[this]at hv;omega
  rw[uU]at hv;exact c9 rfl ⟨oW,l,hO.es,aA⟩
def M8 {x y:Nat} (hx:x<18446744073709551616) (hy:y<18446744073709551616):x*y<=18446744073709551615*18446744073709551615:=eC aA aA
set_option maxHeartbeats 1000000 in
def M9 (ha:Es H va a) (hb:Es H vb b) (hA:a.length<=100000) (hB:b.length<=100000):Con prog 134 [va,vb] H fun u H'=>Pl H H'/\∃l,Es H' u l/\ul l=ul a*ul b:=by
 have e0:wQ .i64 ((a.length:Int)+(b.length:Int))=((a.length+b.length:Nat):Int):=Xt aA;refine t8 mixed I6 aB rfl (Ab rfl rfl ha rfl (Ab rfl rfl hb rfl (b4 ⟨_,rfl⟩ (b4 ⟨_,rfl⟩ (Xu (kl:= .i64) (kc:= .i64) (m:=a.length+b.length) rfl rfl rfl aA (by simp only[rxs,iv,e0]) fun out H1 qD h1=> ?_)))));simp only[cA,nA];refine Ab rfl rfl (ha.mono qD) rfl ⟨fun vals H'=>∃(i:Nat) (l:List Nat),vals=[iv i]/\i<=a.length/\Pl H H'/\Eo H H' out l/\l.length=a.length+b.length/\(∀k,i+b.length<=k->l.getD k 0=0)/\ul l=ul (a.take i)*ul b,fun vals _=>(a.length-intOf (vals.getD 0 undef)).toNat,⟨0,_,rfl,aA,qD,h1,aD,fun k _=>Xn _ k,?_⟩,?_⟩
 ·rw[Qi];simp[ul]
 rintro vals H'-⟨i,l,rfl,hi,oW,hO,uX,hz,hv⟩;simp only[cA,nA];have sV:=ha.mono oW;refine b4 ⟨_,rfl⟩ (b4 ⟨_,rfl⟩ (g8 (b:=decide ((i:Int)<a.length)) rfl (fun h=> ?_) (fun h=> ?_)))
 ·have h:i<a.length:=by have:=oDt h;omega
  have da:=ha.2.at i;refine Dc (k:= .i64) (j:=i) rfl rfl rfl rfl aF sV h rfl aF fun p0=> ?_;simp only[cA,nA];refine Ab rfl rfl (hb.mono oW) rfl ⟨fun vals H'=>∃(c j:Nat) (l:List Nat),vals=[.int .u64 (c:Nat),iv j]/\j<=b.length/\c<18446744073709551616/\Pl H H'/\Eo H H' out l/\l.length=a.length+b.length/\(∀k,i+b.length<=k->l.getD k 0=0)/\ul l+PW (i+j)*c=ul (a.take i)*ul b+PW i*(a.getD i 0*ul (b.take j)),fun vals _=>(b.length-intOf (vals.getD 1 undef)).toNat,⟨0,0,l,rfl,aA,aA,oW,hO,uX,hz,?_⟩,?_⟩
  ·simp[ul,hv]
  rintro vals H2-⟨c,j,l2,rfl,hj,hc,xJ,hO2,a2c,yF,hv2⟩;simp only[cA,nA];have pS:=hb.mono xJ;refine b4 ⟨_,rfl⟩ (b4 ⟨_,rfl⟩ (g8 (b:=decide ((j:Int)<b.length)) rfl (fun uY=> ?_) (fun uY=> ?_)))
  ·have uY:j<b.length:=by have:=oDt uY;omega
   have db:=hb.2.at j;have dl:=hO2.2.at (i+j);have e1:wQ .i64 ((i:Int)+(j:Int))=((i+j:Nat):Int):=Xt aA;have e10:wQ .i64 ((j:Int)+1)=((j+1:Nat):Int):=Kq aA;have hm:=M8 da db;refine Dc (k:= .i64) (j:=j) rfl rfl rfl rfl aF pS uY rfl aF fun p1=> ?_;simp only[cA,nA];refine Bn (F5 (a.getD i 0) (b.getD j 0) da db) rfl (b4 ⟨_,rfl,eP _⟩ (b4 ⟨_,rfl,cY _⟩ ?_));simp only[cA,nA];generalize hP:a.getD i 0*b.getD j 0=P at hm;obtain⟨pO,xG⟩:∃x,x=P/18446744073709551616:=⟨_,rfl⟩;obtain⟨lo,yD⟩:∃x,x=P%18446744073709551616:=⟨_,rfl⟩;rw[<-xG,<-yD];refine Dc (k:= .i64) (j:=i+j) rfl rfl rfl rfl aF hO2.es aA (by simp only[rxs,iv,e1]) aF fun p2=> ?_;simp only[cA,nA];generalize hd:l2.getD (i+j) 0=d at dl;refine dc (dj d lo 0 dl aA aA) rfl (b4 ⟨_,rfl,eP _⟩ (b4 ⟨_,rfl,cY _⟩ ?_));simp only[cA,nA];obtain⟨s1,tW⟩:∃x,x=(d+lo+0)%18446744073709551616:=⟨_,rfl⟩;obtain⟨c1,qL⟩:∃x,x=(d+lo+0)/18446744073709551616:=⟨_,rfl⟩;rw[<-tW,<-qL];refine dc (dj s1 c 0 aA hc aA) rfl (b4 ⟨_,rfl,eP _⟩ (b4 ⟨_,rfl,cY _⟩ ?_));simp only[cA,nA];obtain⟨s2,uS⟩:∃x,x=(s1+c+0)%18446744073709551616:=⟨_,rfl⟩;obtain⟨c2,qO⟩:∃x,x=(s1+c+0)/18446744073709551616:=⟨_,rfl⟩;rw[<-uS,<-qO];have key:s2+18446744073709551616*(pO+c1+c2)=c+d+P:=aA;have vP:pO+c1+c2<18446744073709551616:=aA;have e2:wQ .u64 ((pO:Int)+(c1:Int))=((pO+c1:Nat):Int):=by rw[<-dD];exact wu aA
   have e3:wQ .u64 (((pO+c1:Nat):Int)+(c2:Int))=((pO+c1+c2:Nat):Int):=by rw[<-dD];exact wu aA
   refine b4 ⟨_,rfl⟩ (b4 ⟨_,rfl⟩ (b4 ⟨_,rfl⟩ (Ku (k:= .i64) (j:=i+j) (d:=s2) rfl rfl rfl rfl aF aF xJ hO2 aA aA (by simp only[rxs,iv,e1]) (fun p=>rfl) rfl fun p u H3 uL h3 _=>⟨⟨pO+c1+c2,j+1,_,?_,aA,vP,uL,h3,by rw[cD];exact a2c,?_,?_⟩,?_⟩)))
   ·simp only[rxs,iv,e2,e3,e10]
   ·intro k hk;rw[Ko aA];exact yF k hk
   ·have k1:=Jd (l:=l2) s2 (show i+j<l2.length by omega);rw[hd]at k1;have k2:=congrArg (PW (i+j)* ·) key;simp only[fK]at k2;have k3:PW i*(a.getD i 0*(PW j*b.getD j 0))=PW (i+j)*P:=by
     rw[Tc,mQ (a.getD i 0),hP,fF]
    rw[Nu,fK (a.getD i 0),fK (PW i),k3,<-Nat.add_assoc i j 1,s9,fF];simp only[fK];omega
   ·simp only[rxs,iv,e10];omega
  ·have uY:j=b.length:=by have:=oDf uY;omega
   subst uY;have e1:wQ .i64 ((i:Int)+(b.length:Int))=((i+b.length:Nat):Int):=Xt aA;have e10:wQ .i64 ((i:Int)+1)=((i+1:Nat):Int):=Kq aA;refine Ab rfl rfl pS rfl (b4 ⟨_,rfl⟩ (Ku (k:= .i64) (j:=i+b.length) (d:=c) rfl rfl rfl rfl aF aF xJ hO2 aA hc (by simp only[rxs,iv,e1]) (fun p=>rfl) rfl fun p u H3 uL h3 _=>⟨⟨i+1,_,?_,aA,uL,h3,by rw[cD];exact a2c,?_,?_⟩,?_⟩))
   ·simp only[rxs,iv,e10]
   ·intro k hk;rw[Ko aA];exact yF k aA
   ·have k1:=Jd (l:=l2) c (show i+b.length<l2.length by omega);rw[yF _ (aS _),gQ,cP]at k1;rw[k1,hv2,aI (aS _),Nu,cM,fF]
   ·simp only[rxs,iv,e10];omega
 ·have h:i=a.length:=by have:=oDf h;omega
  rw[aI aA]at hv;exact c9 rfl ⟨oW,l,hO.es,hv⟩
end
end Go.Z
namespace Go.WD
open RX
def Xx {l:List Nat} (h:Eg l) (j:Nat):dig (ul l) j=l.getD j 0:=by
 rcases eB j l.length with hj|hj
 ·have e1:=sw l (show j<=l.length by omega);have e2:=su hj;have h1:=Gp (h.take j);rw[bD,cH aA]at h1;have h2:=h.at j;unfold dig;rw[e1,Nat.add_mul_div_left _ _ (Aw j),fW h1,bP,e2,Nat.add_mul_mod_self_left,eH h2]
 ·rw[Tt hj];refine sy (aM (Gp h) (Qh hj))
def Um.top {l:List Nat} (h:Um l) (hD:Eg l) {n:Nat} (hn:l.length=n+1):l.getD n 0≠0:=fun h0=>by
 have h1:=Tu (l:=l) (k:=n) aA;rw[aI aA,h0,gQ,cP]at h1;have h4:=Gp (hD.take n);rw[bD,cH aA]at h4;have h3:l.length<=n:=h n aA;omega
def N0 {l:List Nat} (h:Um l) (hD:Eg l) {n:Nat} (hn:l.length=n+1):blen (ul l)=64*n+blen (l.getD n 0):=by
 have ht:=h.top hD hn;have oV:=Gp hD;rw[hn]at oV;have:=F1 (A:=ul l) (i:=n) (by rw[Xx hD];exact ht) oV
 rwa[Xx hD]at this
def N1 {q k:Nat} (h:2^(k+1) ∣ q):dig q (k/64)|||2^(k%64)=dig q (k/64)+2^(k%64):=by
 refine F4 ?_;obtain⟨m,rfl⟩:=h;have e:2^(k+1)*m/PW (k/64)=2^(k%64+1)*m:=by
  rw[Ua,show k+1=64*(k/64)+(k%64+1)from aA,gJ,fF,Nat.mul_div_cancel_left _ (iW aA)]
 unfold dig;rw[e,Kp];have hd:2^(k%64+1) ∣ 2^64:=Nat.pow_dvd_pow 2 aA;exact(Nat.dvd_mod_iff hd).2 ⟨m,rfl⟩
def uf (k:Nat):2^k=PW (k/64)*2^(k%64):=by
 rw[Ua,<-gJ,show 64*(k/64)+k%64=k from aA]
def ug {r:Nat} (h:r<64):2^r<18446744073709551616:=by
 rw[Kp];exact cR aA h
end Go.WD
namespace Go.Z
open Proofs.Tryz RowKit RX WD
def Eo.frame {Hr H Hr' H':PH} {v:Value} {l:List Nat} (h:Eo Hr H v l) (hk:∀k ob,H k=some ob->Hr k=none->Hr' k=none/\H' k=some ob):Eo Hr' H' v l:=⟨h.1.frame hk,h.2⟩
def N2 (d r:Nat) (h:r<=64):wQ .u64 ((d:Int)*2^min r (IntKind.bits .u64))=((d*2^r%18446744073709551616:Nat):Int):=by
 rw[show min r (IntKind.bits .u64)=r from cH h,show(d:Int)*2^r=((d*2^r:Nat):Int)from by rw[iQ,Int.natCast_pow];rfl,IntKind.wrap_u64];omega
section
variable {H:PH} {a b:List Nat} {va vb:Value}
def HO (ha:Es H va a) (ta:Um a) (hA:a.length<=1000000):Con prog 260 [va] H fun u H'=>H'=H/\u= .int .i64 (blen (ul a):Nat):=by
 refine t8 mixed I7 aB rfl (Ab rfl rfl ha rfl (b4 ⟨_,rfl⟩ (g8 (b:=((a.length:Int)==0)) rfl (fun h=> ?_) (fun h=> ?_))))
 ·have h:=beq_iff_eq.1 h;obtain rfl:a=[]:=aV aA;exact c9 rfl ⟨rfl,rfl⟩
 ·have h:=beq_eq_false_iff_ne.1 h;obtain⟨n,hn⟩:∃n,a.length=n+1:=⟨a.length-1,aA⟩;have e1:wQ .i64 ((a.length:Int)-1)=((n:Nat):Int):=by rw[Kr aA aA];omega
  have dt:=ha.2.at n;have vJ:=blen_le (x:=a.getD n 0) (k:=64) dt;refine Ab rfl rfl ha rfl (b4 ⟨_,rfl⟩ (Ab rfl rfl ha rfl (b4 ⟨_,rfl⟩ ?_)));simp only[cA,nA];refine Dc (k:= .i64) (j:=n) rfl rfl rfl rfl aF ha aA (by simp only[rxs,iv,e1]) aF fun p=>Bn (GY _ dt) rfl (b4 ⟨_,rfl⟩ (c9 ?_ ⟨rfl,rfl⟩));simp only[dE,cU,rxs,iv,y9];rw[N0 ta ha.2 hn];congr 1;rw[IntKind.wrap_i64,IntKind.wrap_i64];omega
set_option maxHeartbeats 1000000 in
def N3 (k:Nat) (ha:Es H va a) (hA:a.length<=100000) (hk:k<=20000000):Con prog 261 [va,.int .i64 (k:Nat)] H fun u H'=>Pl H H'/\Mu H' u (ul a*2^k):=by
 obtain⟨q,hq⟩:∃q,q=k/64:=⟨_,rfl⟩;obtain⟨r,hr⟩:∃r,r=k%64:=⟨_,rfl⟩;have a2d:r<64:=aA;have hkq:k=64*q+r:=aA;have eq1:wQ .i64 ((k:Int).tdiv 64)=((q:Nat):Int):=by rw[hq];exact HG k aA
 have er1:(k:Int).tmod 64=((r:Nat):Int):=by rw[hr];exact HH k
 have e0:wQ .i64 ((a.length:Int)+(q:Int))=((a.length+q:Nat):Int):=Xt aA;have e00:wQ .i64 (((a.length+q:Nat):Int)+1)=((a.length+q+1:Nat):Int):=Kq aA;have tZ:2^k=PW q*2^r:=by rw[hq,hr];exact uf k
 refine t8 mixed I8 aB rfl (Ab rfl rfl ha rfl (b4 ⟨_,rfl⟩ (b4 ⟨_,rfl⟩ (Xu (kl:= .i64) (kc:= .i64) (m:=a.length+q+1) rfl rfl rfl aA (by simp only[rxs,iv,eq1,e0,e00]) fun out H1 qD h1=> ?_))));simp only[cA,nA];refine Ab rfl rfl (ha.mono qD) rfl ⟨fun vals H'=>∃(i:Nat) (l:List Nat),vals=[iv i]/\i<=a.length/\Pl H H'/\Eo H H' out l/\l.length=a.length+q+1/\(∀k,i+q<k->l.getD k 0=0)/\l.getD (i+q) 0<2^r/\ul l=ul (a.take i)*2^k,fun vals _=>(a.length-intOf (vals.getD 0 undef)).toNat,⟨0,_,rfl,aA,qD,h1,aD,fun k _=>Xn _ k,?_,?_⟩,?_⟩
 ·rw[Xn];exact iW aA
 ·rw[Qi];simp[ul]
 rintro vals H'-⟨i,l,rfl,hi,oW,hO,uX,hz,xK,hv⟩;simp only[cA,nA];have sV:=ha.mono oW;refine b4 ⟨_,rfl⟩ (b4 ⟨_,rfl⟩ (g8 (b:=decide ((i:Int)<a.length)) rfl (fun h=> ?_) (fun h=> ?_)))
 ·have h:i<a.length:=by have:=oDt h;omega
  have da:=ha.2.at i;have e1:wQ .i64 ((i:Int)+(q:Int))=((i+q:Nat):Int):=Xt aA;have e2:wQ .i64 (((i+q:Nat):Int)+1)=((i+q+1:Nat):Int):=Kq aA;have e10:wQ .i64 ((i:Int)+1)=((i+1:Nat):Int):=Kq aA;refine Dc (k:= .i64) (j:=i) rfl rfl rfl rfl aF sV h rfl aF fun p0=> ?_;simp only[cA,nA];refine Dc (k:= .i64) (j:=i+q) rfl rfl rfl rfl aF hO.es aA (by simp only[rxs,iv,eq1,e1]) aF fun p1=> ?_;simp only[cA,nA];generalize hx:a.getD i 0=x at da;generalize hc:l.getD (i+q) 0=c at xK;have a0n:c<18446744073709551616:=iK xK (ug a2d);have uT:c|||(x*2^r%18446744073709551616)=(x%2^(64-r))*2^r+c:=by
   rw[F3 x aA,Nat.or_comm,GR xK]
  have hw0:(x%2^(64-r))*2^r+c<18446744073709551616:=by
   rw[<-uT,Kp];exact dH (by rw[<-Kp];exact a0n) (by rw[<-Kp];exact cO _ aA)
  have e3:=N2 x r aA;have e4:=tc c (x*2^r%18446744073709551616) a0n (cO _ aA);rw[uT]at e4;have a0o:=ei (r:=r) aA;have yE:=iP x (2^(64-r));refine b4 ⟨_,rfl⟩ (b4 ?_ (b4 ⟨_,rfl⟩ (Ku (k:= .i64) (j:=i+q) (d:=(x%2^(64-r))*2^r+c) rfl rfl rfl rfl aF aF oW hO aA hw0 (by simp only[rxs,iv,eq1,e1]) (fun p=> ?_) rfl fun p2 u2 H2 sH h2 _=> ?_)))
  ·show(0:Int)<=(k:Int).tmod 64;rw[er1];omega
  ·simp only[rxs,uvL,er1,bO,e3,e4]
  simp only[cA,nA];have k1:=Jd (l:=l) ((x%2^(64-r))*2^r+c) (show i+q<l.length by omega);rw[hc]at k1;have hP:PW i*x*2^k=PW (i+q)*(2^r*x):=by
   rw[tZ,Tc,fF (PW i),mQ x,<-fF (PW i),eX x]
  refine g8 (b:=decide (((r:Nat):Int)>0)) ?_ (fun h0=> ?_) (fun h0=> ?_)
  ·show Value.bool (decide ((k:Int).tmod 64>0))=_;rw[er1]
  ·have h0:=oDt h0;have e5:wQ .i64 (64-((r:Nat):Int))=((64-r:Nat):Int):=by rw[Kr aA aA];omega
   have e6:=Tz x (64-r) aA;have hw1:=GT da (r:=r) aA;refine b4 ?_ (Ku (k:= .i64) (j:=i+q+1) (d:=x/2^(64-r)) rfl rfl rfl rfl aF aF sH h2 (by rw[cD];omega) (iK hw1 (ug a2d)) (by simp only[rxs,iv,eq1,e1,e2]) (fun p=> ?_) rfl fun p3 u3 H3 uL h3 _=>⟨⟨i+1,_,?_,aA,uL,h3,by rw[cD,cD];exact uX,?_,?_,?_⟩,?_⟩)
   ·show(0:Int)<=wQ .i64 (64-(k:Int).tmod 64);rw[er1,e5];omega
   ·simp only[rxs,uvL,er1,e5,bO,e6]
   ·simp only[rxs,iv,e10]
   ·intro j hj;rw[Ko aA,Ko aA];exact hz j aA
   ·rw[show i+1+q=i+q+1 from aA,GI (by rw[cD];omega)];exact hw1
   ·have k2:=Jd (l:=l.set (i+q) ((x%2^(64-r))*2^r+c)) (x/2^(64-r)) (show i+q+1<(l.set (i+q) ((x%2^(64-r))*2^r+c)).length by rw[cD];omega);rw[Ko aA,hz (i+q+1) aA,gQ,cP]at k2;rw[k2,Nu,hx,cM,hP,<-hv];have k3:2^r*x=(x%2^(64-r))*2^r+18446744073709551616*(x/2^(64-r)):=by
     rw[a0o];generalize x/2^(64-r)=X at yE;generalize x%2^(64-r)=Y at yE;generalize 2^(64-r)=S at yE;rw[<-yE,fK,eX (2^r) Y,<-fF,eX (2^r) S];omega
    rw[k3,s9];rw[fK]at k1;rw[fK,fF];omega
   ·simp only[rxs,iv,e10];omega
  ·have h0:=oDf h0;have xB:r=0:=aA;rw[xB]at xK k1 hP h2 yE;rw[jZ]at xK;have vN:c=0:=aA;rw[Nat.sub_zero,<-Kp,eH da,jZ,gB]at k1 h2;refine⟨⟨i+1,_,?_,aA,sH,h2,by rw[cD];exact uX,?_,?_,?_⟩,?_⟩
   ·simp only[rxs,iv,e10]
   ·intro j hj;rw[Ko aA];exact hz j aA
   ·rw[Ko aA,hz (i+1+q) aA];exact iW aA
   ·rw[Nu,hx,cM,hP,<-hv,jZ,cL];rw[vN,gQ,cP,cP]at k1;rw[vN,cP];exact k1
   ·simp only[rxs,iv,e10];omega
 ·have h:i=a.length:=by have:=oDf h;omega
  rw[aI aA]at hv;refine g5 (Ht false hO.es) rfl ?_;rintro u H2 ⟨rfl,w,rfl,hw⟩;refine⟨fun h=>(nomatch h),b4 ⟨_,rfl,rfl⟩ (c9 rfl ⟨oW,?_⟩)⟩;have e:(sn false (ul l)).natAbs=ul l:=rfl;rw[e,hv]at hw;exact hw
end
open Go.RowKit Go.RX Go.WD
section
variable {H:PH} {a b:List Nat} {va vb:Value}
def N4 {X Q R d s R' c:Nat} (h1:X=Q*d+R) (h2:s*d+R'=R*18446744073709551616+c):c+18446744073709551616*X=(s+18446744073709551616*Q)*d+R':=by
 rw[cM,fF,h1];generalize Q*d=Y;generalize s*d=Z at h2;omega
set_option maxHeartbeats 1000000 in
def HQ (ha:Es H va a) (hb:Es H vb b) (ta:Um a) (tb:Um b) (uU:0<ul b) (hA:a.length<=50000) (hB:b.length<=50000):
  Con prog 222 [va,vb] H fun u H'=>Pl H H'/\∃q r lq,u= .tuple #[q,r]/\Es H' q lq/\ul lq=ul a/ul b/\Mu H' r (ul a%ul b):=by
 refine t8 mixed I9 aB rfl (Ab rfl rfl ha rfl (Xu (kl:= .i64) (kc:= .i64) (m:=a.length) rfl rfl rfl aA rfl fun vq H1 qD h1=> ?_));simp only[cA,nA];refine Ab rfl rfl (hb.mono qD) rfl (b4 ⟨_,rfl⟩ (g8 (b:=((b.length:Int)==1)) rfl (fun h=> ?_) (fun h=> ?_)))
 ·have h:b.length=1:=by have:=beq_iff_eq.1 h;omega
  obtain⟨d,rfl⟩:∃d,b=[d]:=by
   match b,h with
   |[d],_=>exact⟨d,rfl⟩
  rw[sr]at uU⊢;have hd:d<18446744073709551616:=hb.2.at 0;have e0:wQ .i64 ((a.length:Int)-1)=(a.length:Int)-1:=Kr aA aA;refine Ab rfl rfl (ha.mono qD) rfl (b4 ⟨_,rfl⟩ ⟨fun vals H'=>∃(i R:Nat) (lq:List Nat),vals=[.int .u64 (R:Nat),.int .i64 ((i:Int)-1)]/\i<=a.length/\Pl H H'/\Eo H H' vq lq/\lq.length=a.length/\R<d/\ul (a.drop i)=ul (lq.drop i)*d+R,fun vals _=>(intOf (vals.getD 1 undef)+1).toNat,⟨a.length,0,_,?_,aS _,qD,h1,aD,uU,?_⟩,?_⟩)
  ·simp only[dE,cU,rxs,iv,e0];rfl
  ·rw[iC (aS _),iC aD];simp[ul]
  rintro vals H'-⟨i,R,lq,rfl,hi,oW,hO,uX,hR,hv⟩;simp only[cA,nA];refine b4 ⟨_,rfl⟩ (g8 (b:=decide ((i:Int)-1≥0)) rfl (fun tH=> ?_) (fun tH=> ?_))
  ·have tH:=oDt tH;obtain⟨j,rfl⟩:∃j,i=j+1:=⟨i-1,aA⟩;have ej:((j+1:Nat):Int)-1=(j:Int):=aA;rw[ej];have e2:wQ .i64 ((j:Int)-1)=(j:Int)-1:=Kr aA aA;have da:=ha.2.at j;refine Dc (k:= .i64) (j:=j) rfl rfl rfl rfl aF (ha.mono oW) aA rfl aF fun p1=> ?_;simp only[cA,nA];refine Dc (k:= .i64) (j:=0) rfl rfl rfl rfl aF (hb.mono oW) aD rfl aF fun p2=> ?_;simp only[cA,nA];refine Bn (J9 R (a.getD j 0) d hR da hd) rfl (b4 ⟨_,rfl,eP _⟩ (b4 ⟨_,rfl,cY _⟩ ?_));simp only[cA,nA];obtain⟨s,hs⟩:∃s,s=(R*18446744073709551616+a.getD j 0)/d:=⟨_,rfl⟩;obtain⟨R',hR'⟩:∃s,s=(R*18446744073709551616+a.getD j 0)%d:=⟨_,rfl⟩;have key:s*d+R'=R*18446744073709551616+a.getD j 0:=by
    rw[hs,hR',eX];exact iP _ _
   have vO:s<18446744073709551616:=by
    rw[hs,eF uU];have:=bQ 18446744073709551616 (show R+1<=d from hR);rw[cM,cL]at this;rw[eX 18446744073709551616 d];omega
   have hRd:R'<d:=by rw[hR'];exact cO _ uU
   rw[<-hs,<-hR'];refine Ku (k:= .i64) (j:=j) (d:=s) rfl rfl rfl rfl aF aF oW hO aA vO rfl aF rfl fun p u H3 uL h3 _=>⟨⟨j,R',_,?_,aA,uL,h3,by rw[cD];exact uX,hRd,?_⟩,?_⟩
   ·simp only[rxs,e2]
   ·rw[su (l:=a) (show j<a.length by omega),su (l:=lq.set j s) (by rw[cD];omega),GI aA,D9 aA];exact N4 hv key
   ·simp only[rxs,e2];omega
  ·have tH:=oDf tH;have tI:i=0:=aA;subst tI;rw[dS,dS]at hv;refine HC (d:=R) rfl rfl aA rfl fun vr H2 sH h2=> ?_;simp only[cA,nA];refine g5 (Ht false h2.es) rfl ?_;rintro u H3 ⟨rfl,w,rfl,hw⟩;have e3:(sn false (ul [R])).natAbs=R:=by rw[sr];rfl
   rw[e3]at hw;refine⟨fun h=>(nomatch h),b4 ⟨_,rfl,rfl⟩ (c9 rfl ⟨oW.trans sH,vq,w,lq,rfl,(hO.mono sH).es,?_,?_⟩)⟩
   ·rw[hv,iF,lT _ _ uU,fW hR,bP]
   ·rw[hv,iF,eK,eH hR];exact hw
 ·have lA:blen (ul a)<=64*a.length:=HI (Gp ha.2);have lB:blen (ul b)<=64*b.length:=HI (Gp hb.2);obtain⟨p1,p2⟩:=Xr (x:=ul b) aA;refine g5 (HO (ha.mono qD) ta aA) rfl ?_;rintro _ H2 ⟨rfl,rfl⟩;simp only[cA,nA];refine⟨fun h=>(nomatch h),g5 (HO (hb.mono qD) tb aA) rfl ?_⟩;rintro _ H3 ⟨rfl,rfl⟩;simp only[cA,nA];have e0:wQ .i64 ((blen (ul a):Int)-(blen (ul b):Int))=(blen (ul a):Int)-(blen (ul b):Int):=Kr aA aA;refine⟨fun h=>(nomatch h),b4 ⟨_,rfl⟩ (b4 ⟨_,rfl⟩ ⟨fun vals H'=>∃(t:Int) (r:Nat) (vr:Value) (Hr:PH) (lq:List Nat),vals=[vr,.int .i64 t]/\ -10000000<=t/\t<=10000000/\Pl H Hr/\Pl Hr H'/\Eo Hr H' vq lq/\lq.length=a.length/\Mu Hr vr r/\ul a=ul lq*ul b+r/\((t<0/\r<ul b)\/(0<=t/\r<ul b*2^(t.toNat+1)/\2^(t.toNat+1) ∣ ul lq/\t.toNat+blen (ul b)<=blen (ul a))),fun vals _=>(intOf (vals.getD 1 undef)+1).toNat,⟨(blen (ul a):Int)-(blen (ul b):Int),ul a,va,H,_,?_,aA,aA,Pl.refl _,qD,h1,aD,⟨a,ha,ta,rfl⟩,?_,?_⟩,?_⟩)⟩
  ·simp only[rxs,e0]
  ·rw[Qi,bY,bP]
  ·have hlA:=Xq (ul a);by_cases oV:blen (ul a)<blen (ul b)
   ·left;refine⟨aA,?_⟩;have:2^blen (ul a)<=2^(blen (ul b)-1):=bB aA aA;omega
   ·right;refine⟨aA,?_,by rw[Qi];exact Nat.dvd_zero _,aA⟩;rw[show((blen (ul a):Int)-(blen (ul b):Int)).toNat+1=blen (ul a)-blen (ul b)+1 from aA];have h3:=bQ (2^(blen (ul a)-blen (ul b)+1)) p2;rw[<-gJ,show blen (ul b)-1+(blen (ul a)-blen (ul b)+1)=blen (ul a)from aA]at h3;omega
  rintro vals H'-⟨t,r,vr,Hr,lq,rfl,ht1,ht2,oW,a0p,hq,hlq,xM,hqr,xN⟩;simp only[cA,nA];refine b4 ⟨_,rfl⟩ (g8 (b:=decide (t≥0)) rfl (fun ht=> ?_) (fun ht=> ?_))
  ·have ht:=oDt ht;obtain⟨k,rfl⟩:∃k:Nat,t=(k:Int):=⟨t.toNat,aA⟩;rw[bO]at xN;obtain⟨_,hr,uW,hk⟩:=xN.resolve_left aA;have e1:wQ .i64 ((k:Int)-1)=(k:Int)-1:=Kr aA aA;have hQ:=HG k aA;have hR:=HH k;have tZ:2^(k+1)=2*2^k:=by rw[Nat.pow_succ,eX]
   have hrA:r<=ul a:=aA;have zZ:∀(q' r':Nat),r'<ul b*2^k->2^k ∣ q'->(((k:Int)-1<0/\r'<ul b)\/(0<=(k:Int)-1/\r'<ul b*2^(((k:Int)-1).toNat+1)/\2^(((k:Int)-1).toNat+1) ∣ q'/\((k:Int)-1).toNat+blen (ul b)<=blen (ul a))):=fun q' r' g2 g3=>by
    by_cases wB:k=0
    ·left;subst wB;rw[jZ,gB]at g2;exact⟨aA,g2⟩
    ·right;rw[show((k:Int)-1).toNat+1=k from aA];exact⟨aA,g2,g3,aA⟩
   refine g5 ((N3 k (hb.mono oW) aA aA).frame a0p) rfl ?_;rintro vt H2 ⟨Hr',⟨s1,s2⟩,s3,s4⟩;have tU:=hq.frame s4;simp only[cA,nA];obtain⟨lt,dt,tt,vt'⟩:=s2;obtain⟨lr,dr,tr,vr'⟩:=id xM;refine⟨fun h=>(nomatch h),g5 (HN ((dr.mono s1).mono s3) (dt.mono s3) tr tt) rfl ?_⟩;rintro c H3 ⟨rfl,c,rfl,qL,qO⟩;rw[vr',vt']at qL qO;refine⟨fun h=>(nomatch h),b4 ⟨_,rfl⟩ (g8 (b:=decide (c≥0)) rfl (fun hc=> ?_) (fun hc=> ?_))⟩
   ·have hc:=oDt hc;have yW:ul b*2^k<=r:=aA;have llr:lr.length<=a.length:=Um.len_le tr ha.2 aA;refine g5 ((ue (dr.mono s1) dt aA (Um.len_le tt dr.2 aA) aA).frame s3) rfl ?_;rintro vk H4 ⟨Hr2,⟨t1,lk,dk,vk'⟩,t3,t4⟩;have uM:=tU.frame t4;simp only[cA,nA];refine⟨fun h=>(nomatch h),g5 ((Ht false dk).frame t3) rfl ?_⟩;rintro u H5 ⟨Hr3,⟨e3,w,rfl,hw⟩,w3,w4⟩;have e3:=e3.symm;subst e3;have uZ:=uM.frame w4;have ew:(sn false (ul lk)).natAbs=r-ul b*2^k:=by rw[vk',vr',vt'];rfl
    rw[ew]at hw;simp only[cA,nA];have hkl:k/64<lq.length:=by rw[hlq];omega
    have dq:=uZ.2.at (k/64);have a3s:=Xx uZ.2 (k/64);have wJ:=N1 uW;rw[a3s]at wJ;have yY:2^(k%64)<18446744073709551616:=ug (cO _ aA);have uT:=tc (lq.getD (k/64) 0) (2^(k%64)) dq yY;rw[wJ]at uT;have pV:=K5 (k%64) (cO _ aA);have sX:lq.getD (k/64) 0+2^(k%64)<18446744073709551616:=by
     rw[<-wJ,Kp];exact dH dq yY
    refine⟨fun h=>(nomatch h),b4 ⟨_,rfl,rfl⟩ (Dc (k:= .i64) (j:=k/64) rfl rfl rfl rfl aF uZ.es hkl (by simp only[rxs,hQ]) aF fun p=> ?_)⟩;simp only[cA,nA];refine b4 ?_ (b4 ⟨_,rfl⟩ (Ku (k:= .i64) (j:=k/64) (d:=lq.getD (k/64) 0+2^(k%64)) rfl rfl rfl rfl aF aF w3 uZ hkl sX (by simp only[rxs,hQ]) (fun p=> ?_) rfl fun p2 u2 H6 hl6 h6 _=>⟨⟨(k:Int)-1,r-ul b*2^k,w,Hr2,_,?_,aA,aA,oW.trans (s1.trans t1),hl6,h6,by rw[cD];exact hlq,hw,?_,?_⟩,?_⟩))
    ·show(0:Int)<=(k:Int).tmod 64;rw[hR];omega
    ·simp only[rxs,uvL,hR,pV,uT]
    ·simp only[rxs,e1];rfl
    ·have k1:=Jd (l:=lq) (lq.getD (k/64) 0+2^(k%64)) hkl;rw[fK,<-uf k]at k1;have k2:ul (lq.set (k/64) (lq.getD (k/64) 0+2^(k%64)))=ul lq+2^k:=aA;rw[k2,cM,eX (2^k)];omega
    ·have k1:=Jd (l:=lq) (lq.getD (k/64) 0+2^(k%64)) hkl;rw[fK,<-uf k]at k1;have k2:ul (lq.set (k/64) (lq.getD (k/64) 0+2^(k%64)))=ul lq+2^k:=aA;rw[k2];refine zZ _ _ ?_ ((Nat.dvd_add_right (nV ⟨2,by rw[tZ,eX]⟩ uW)).2 (Nat.dvd_refl _));rw[tZ,<-fF,eX (ul b) 2,fF]at hr;omega
    ·simp only[rxs,e1];omega
   ·have hc:=oDf hc;refine⟨⟨(k:Int)-1,r,vr,Hr',lq,?_,aA,aA,oW.trans s1,s3,tU,hlq,xM.mono s1,hqr,zZ _ _ aA (nV ⟨2,by rw[tZ,eX]⟩ uW)⟩,?_⟩
    ·simp only[rxs,e1]
    ·simp only[rxs,e1];omega
  ·have ht:=oDf ht;obtain⟨_,hr⟩:=xN.resolve_right aA;refine c9 rfl ⟨oW.trans a0p,vq,vr,lq,rfl,hq.es,?_,?_⟩
   ·rw[hqr,iF,lT _ _ uU,fW hr,bP]
   ·rw[hqr,iF,eK,eH hr];exact xM.mono a0p
end
open Go.RowKit Go.RX Go.WD
def HS:∀{a b:List Nat},a.map uvL=b.map uvL->a=b
 |[],[],_=>rfl
 |[],_::_,h=>by simp at h
 |_::_,[],h=>by simp at h
 |x::a,y::b,h=>by
  simp only[aU,List.cons.injEq,uvL,kG,true_and]at h;rw[HS h.2];have:=h.1;congr 1;omega
def Mu.uniq {H:PH} {v:Value} {m n:Nat} (h:Mu H v m) (k:Mu H v n):m=n:=by
 obtain⟨l,⟨⟨_,a,c,e,_,_,h1⟩,_⟩,_,rfl⟩:=h;obtain⟨l',⟨⟨_,a',c',e',_,_,h2⟩,_⟩,_,rfl⟩:=k;rw[e,Value.slice.injEq]at e';obtain⟨rfl,hl,rfl⟩:=e';congr 1;rcases h1 with h1|⟨b,o,cs,T,fz,h3,h4,h5⟩
 ·rw[aV h1,aV (show l'.length=0 by omega)]
 ·rcases h2 with h2|⟨b',o',cs',T',fz',h3',h4',h5'⟩
  ·rw[aV h2,aV (show l.length=0 by omega)]
  ·rw[h3]at h3';simp only[dF,Addr.mk.injEq,and_true]at h3';obtain⟨rfl,rfl⟩:=h3';rw[h4]at h4';simp only[dF,Obj.cells.injEq]at h4';obtain⟨rfl,rfl,rfl⟩:=h4';rw[hl]at h5;exact HS (h5.symm.trans h5')
open Classical in
noncomputable def Xy (H:PH) (v:Value):Nat:=if h:∃n,Mu H v n then h.choose else 0
def HT {H:PH} {v:Value} {n:Nat} (h:Mu H v n):Xy H v=n:=by
 have:∃n,Mu H v n:=⟨n,h⟩;unfold Xy;rw[dif_pos this];exact this.choose_spec.uniq h
def Nv {l:List Nat} {n:Nat} (t:Um l) (hv:ul l=n) (h:n<BP 10000):l.length<=5000:=t _ (by rw[hv,<-GG];exact h)
section
variable {H:PH} {v x y:Value} {z p q:Int}
def uh {w:Value} {n:Nat} (h:Mu H w n):Lw H (.agg #[.bool false,w]) (n:Int):=
 ⟨w,by rw[decide_eq_false aA],by rw[fA];exact h⟩
def ui (b:Bool) {w:Value} {n:Nat} (h:Mu H w n):Value.agg ((Value.bool b).cells++w.cells)= .agg #[.bool b,w]:=by
 rw[h.one.1];rfl
def uj (h:Lw H v z):Con prog 154 [v] H fun u H'=>H'=H/\Lw H u (-z):=by
 have yG:=h.rq;obtain⟨w,rfl,l,hd,ht,hv⟩:=h;refine t8 mixed J0 aB rfl (b4 yG (b4 ⟨_,rfl⟩ (g5 (Ht (!decide (z<0)) hd) rfl ?_)));rintro u H' ⟨rfl,hu⟩;rw[hv,L7]at hu;have hr:=hu.rq;obtain⟨w',rfl,qS⟩:=hu;exact⟨fun h=>(nomatch h),b4 hr (c9 rfl ⟨rfl,w',rfl,qS⟩)⟩
def Xz (hx:Lw H x p) (hy:Lw H y q) (hp:Lm p) (hq:Lm q):Con prog 115 [x,y] H fun u H'=>Pl H H'/\Lw H' u (p+q):=by
 have r1:=hx.rq;have r2:=hy.rq;obtain⟨wx,rfl,a,da,ta,va⟩:=hx;obtain⟨wy,rfl,b,db,tb,vb⟩:=hy;have la:=Nv ta va hp;have lb:=Nv tb vb hq;refine t8 mixed J1 aB rfl (b4 r1 (b4 r2 (b4 ⟨_,rfl⟩ (b4 ⟨_,rfl⟩ (g8 (b:=(decide (p<0)==decide (q<0))) ?_ (fun h=> ?_) (fun h=> ?_))))))
 ·show Value.bool (false !=(decide (p<0)==decide (q<0)))=_;rw[Bool.false_bne]
 ·refine g5 (M7 da db aA aA) rfl ?_;rintro u H1 ⟨qD,l,hd,hv⟩;refine⟨fun _=>qD,g5 (Ht (decide (p<0)) hd) rfl ?_⟩;rintro u2 H2 ⟨rfl,hu⟩;rw[hv,va,vb,L9 h]at hu;have hr:=hu.rq;obtain⟨w',rfl,qS⟩:=hu;exact⟨fun _=>Pl.refl _,b4 hr (c9 rfl ⟨qD,w',rfl,qS⟩)⟩
 ·refine g5 (HN da db ta tb) rfl ?_;rintro c H1 ⟨rfl,c,rfl,qL,qO⟩;rw[va,vb]at qL qO;refine⟨fun h=>(nomatch h),b4 ⟨_,rfl⟩ (g8 (b:=decide (c<0)) rfl (fun hc=> ?_) (fun hc=> ?_))⟩
  ·have hc:=oDt hc;refine g5 (ue db da aA (Um.len_le ta db.2 aA) aA) rfl ?_;rintro u H2 ⟨qD,l,hd,hv⟩;refine⟨fun _=>qD,g5 (Ht (decide (q<0)) hd) rfl ?_⟩;rintro u2 H3 ⟨rfl,hu⟩;rw[hv,va,vb,HK (by rw[<-h];exact Bool.beq_comm) aA,Int.add_comm]at hu;have hr:=hu.rq;obtain⟨w',rfl,qS⟩:=hu;exact⟨fun _=>Pl.refl _,b4 hr (c9 rfl ⟨qD,w',rfl,qS⟩)⟩
  ·have hc:=oDf hc;refine g5 (ue da db aA (Um.len_le tb da.2 aA) aA) rfl ?_;rintro u H2 ⟨qD,l,hd,hv⟩;refine⟨fun _=>qD,g5 (Ht (decide (p<0)) hd) rfl ?_⟩;rintro u2 H3 ⟨rfl,hu⟩;rw[hv,va,vb,HK h aA]at hu;have hr:=hu.rq;obtain⟨w',rfl,qS⟩:=hu;exact⟨fun _=>Pl.refl _,b4 hr (c9 rfl ⟨qD,w',rfl,qS⟩)⟩
def HU (hx:Lw H x p) (hy:Lw H y q) (hp:Lm p) (hq:Lm q):Con prog 172 [x,y] H fun u H'=>Pl H H'/\Lw H' u (p-q):=by
 have r1:=hx.rq;have r2:=hy.rq;have tU:Lm (-q):=by unfold Lm at hq⊢;rw[gW];exact hq
 have wS:=hx;have wG:=hy;obtain⟨wx,rfl,a,da,ta,va⟩:=hx;obtain⟨wy,rfl,b,db,tb,vb⟩:=hy;refine t8 mixed J2 aB rfl (b4 r1 (b4 r2 (g5 (uj wG) rfl ?_)));rintro u H1 ⟨rfl,hu⟩;refine⟨fun _=>Pl.refl _,g5 (Xz wS hu hp tU) rfl ?_⟩;rintro u2 H2 ⟨hl,qW⟩;rw[<-Int.sub_eq_add_neg]at qW;have hr:=qW.rq;obtain⟨w',rfl,qS⟩:=qW;exact⟨fun _=>hl,b4 hr (c9 rfl ⟨hl,w',rfl,qS⟩)⟩
def Nw (hx:Lw H x p) (hy:Lw H y q) (hp:Lm p) (hq:Lm q):Con prog 83 [x,y] H fun u H'=>Pl H H'/\Lw H' u (p*q):=by
 have r1:=hx.rq;have r2:=hy.rq;obtain⟨wx,rfl,a,da,ta,va⟩:=hx;obtain⟨wy,rfl,b,db,tb,vb⟩:=hy;have la:=Nv ta va hp;have lb:=Nv tb vb hq;refine t8 mixed J3 aB rfl (b4 r1 (b4 r2 (b4 ⟨_,rfl⟩ (b4 ⟨_,rfl⟩ (g5 (M9 da db aA aA) rfl ?_)))));rintro u H1 ⟨qD,l,hd,hv⟩;refine⟨fun _=>qD,g5 (Ht (true !=(decide (p<0)==decide (q<0))) hd) rfl ?_⟩;rintro u2 H2 ⟨rfl,hu⟩;rw[hv,va,vb,M0]at hu;have hr:=hu.rq;obtain⟨w',rfl,qS⟩:=hu;exact⟨fun _=>Pl.refl _,b4 hr (c9 rfl ⟨qD,w',rfl,qS⟩)⟩
def fc (hx:Lw H x z):Con prog 169 [x] H fun u H'=>H'=H/\u= .int .i64 (sgI z 0):=by
 have r1:=hx.rq;obtain⟨wx,rfl,a,da,ta,va⟩:=hx;have qF:=ta.pos;rw[va]at qF;refine t8 mixed J6 aB rfl (b4 r1 (b4 ⟨_,rfl⟩ (g8 (b:=decide (z<0)) rfl (fun h=> ?_) (fun h=> ?_))))
 ·have h:=oDt h;refine c9 rfl ⟨rfl,?_⟩;unfold sgI;rw[if_pos h];rfl
 ·have h:=oDf h;refine Ab rfl rfl da rfl (b4 ⟨_,rfl⟩ (g8 (b:=((a.length:Int)==0)) rfl (fun h2=> ?_) (fun h2=> ?_)))
  ·have h2:=beq_iff_eq.1 h2;refine c9 rfl ⟨rfl,?_⟩;unfold sgI;rw[if_neg h,if_pos aA];rfl
  ·have h2:=beq_eq_false_iff_ne.1 h2;refine c9 rfl ⟨rfl,?_⟩;unfold sgI;rw[if_neg h,if_neg aA];rfl
def N5 (p q:Int):sgI (p-q) 0=sgI p q:=by
 unfold sgI;by_cases h1:p<q
 ·rw[if_pos aA,if_pos h1]
 ·rw[if_neg aA,if_neg h1];by_cases h2:p=q
  ·rw[if_pos aA,if_pos h2]
  ·rw[if_neg aA,if_neg h2]
def HV (hx:Lw H x p) (hy:Lw H y q) (hp:Lm p) (hq:Lm q):Con prog 114 [x,y] H fun u H'=>Pl H H'/\u= .int .i64 (sgI p q):=by
 have r1:=hx.rq;have r2:=hy.rq;have wS:=hx;have wG:=hy;obtain⟨wx,rfl,_⟩:=hx;obtain⟨wy,rfl,_⟩:=hy;refine t8 mixed J7 aB rfl (b4 r1 (b4 r2 (g5 (HU wS wG hp hq) rfl ?_)));rintro u H1 ⟨hl,hu⟩;refine⟨fun h=>(nomatch h),g5 (fc hu) rfl ?_⟩;rintro u2 H2 ⟨rfl,rfl⟩;exact⟨fun h=>(nomatch h),c9 rfl ⟨hl,by rw[N5];rfl⟩⟩
def uk (hx:Lw H x p) (hy:Lw H y q) (hp:Lm p) (hq:Lm q) (xI:q≠0):Con prog 153 [x,y] H fun u H'=>Pl H H'/\∃a b,u= .tuple #[a,b]/\Lw H' a (p/q)/\Lw H' b (p%q):=by
 have r1:=hx.rq;have r2:=hy.rq;obtain⟨wx,rfl,a,da,ta,va⟩:=hx;obtain⟨wy,rfl,b,db,tb,vb⟩:=hy;have la:=Nv ta va hp;have lb:=Nv tb vb hq;unfold Lm at hp hq;have uU:0<ul b:=by rw[vb];omega
 have hR:p.natAbs%q.natAbs<q.natAbs:=cO _ aA;have hQ:p.natAbs/q.natAbs<=p.natAbs:=Nat.div_le_self _ _;obtain⟨s1,s2⟩:=K7 p q (p.natAbs/q.natAbs) (p.natAbs%q.natAbs) xI hR (by rw[eX];exact(iP _ _).symm);generalize hQd:p.natAbs/q.natAbs=Q at*;generalize hRd:p.natAbs%q.natAbs=R at*;refine t8 mixed J4 aB rfl (b4 r1 (b4 r2 (g5 (HQ da db ta tb uU aA aA) rfl ?_)));rintro u H1 ⟨qD,uq,ur,lq,rfl,dq,vq,rP⟩;rw[va,vb,hQd]at vq;rw[va,vb,hRd]at rP;obtain⟨lr,dr,tr,vr⟩:=rP;refine⟨fun h=>(nomatch h),b4 ⟨_,rfl,eP _⟩ (b4 ⟨_,rfl,cY _⟩ (b4 ⟨_,rfl⟩ (b4 ⟨_,rfl⟩ (g5 (Ht (true !=(decide (p<0)==decide (q<0))) dq) rfl ?_))))⟩;rintro u3 H2 ⟨rfl,yH⟩;rw[vq]at yH;refine⟨fun _=>Pl.refl _,g5 (Ht (decide (p<0)) dr) rfl ?_⟩;rintro u4 H3 ⟨rfl,vQ⟩;rw[vr]at vQ;have hr3:=yH.rq;have hr4:=vQ.rq;have a3t:=yH;have a3u:=vQ;obtain⟨w3,rfl,n3⟩:=yH;obtain⟨w4,rfl,n4⟩:=vQ;refine⟨fun _=>Pl.refl _,b4 hr3 (b4 hr4 (b4 ⟨_,rfl⟩ (g8 rfl (fun h=> ?_) (fun h=> ?_))))⟩
 ·have h:=oDt h;have vR:p<0:=by
   rcases Int.lt_or_le p 0 with h1|h1
   ·exact h1
   ·exfalso;unfold sn at h;rw[decide_eq_false (show ¬p<0 by omega)]at h;simp only[aZ,if_false]at h;omega
  have hR0:R≠0:=by
   intro h0;rw[h0]at h;unfold sn at h;split at h<;>omega
  have eR:sn (decide (p<0)) R= -(R:Int):=by unfold sn;rw[oDd vR];rfl
  simp only[vR,hR0,decide_true,decide_false,Bool.not_false,Bool.and_true,if_true]at s1 s2;have nb:Mu H3 wy q.natAbs:=⟨b,db.mono qD,tb,vb⟩;have a2e:=Xz a3u (uh nb) (by unfold Lm;rw[eR,gW,fA];omega) (Lm.nat hq);refine b4 nb.one.2 (g5 a2e ?_ ?_)
  ·simp only[aU,cN];congr 2;show Value.agg ((j3 prog 4).cells++wy.cells)=_;rw[ub];exact ui false nb
  rintro u5 H4 ⟨hl4,wK⟩;have e5:sn (decide (p<0)) R+(q.natAbs:Int)=p%q:=by rw[s2,eR];omega
  rw[e5]at wK;have hr5:=wK.rq;obtain⟨w5,rfl,n5⟩:=wK;simp only[cA,nA];refine⟨fun h=>(nomatch h),b4 hr5 (HC (d:=1) rfl rfl aA rfl fun v1 H5 hl5 h5=> ?_)⟩;simp only[cA,nA];have n1:Mu H5 v1 1:=⟨[1],h5.es,Um.of (n:=0) rfl aC,rfl⟩;have sR:Lw H5 (.agg #[.bool (!decide (q<0)),v1]) (if q<0 then 1 else -1):=by
   by_cases h2:q<0
   ·rw[if_pos h2];exact⟨v1,by simp[h2],n1⟩
   ·rw[if_neg h2];exact⟨v1,by simp[h2],n1⟩
  have eQ:(sn (true !=(decide (p<0)==decide (q<0))) Q).natAbs=Q:=by unfold sn;split<;>omega
  have a3v:Lm (if q<0 then(1:Int)else -1):=by
   split
   ·exact ud
   ·have:=ud;unfold Lm at this⊢;exact this
  refine b4 n1.one.2 (g5 (Xz (a3t.mono (hl4.trans hl5)) sR (by unfold Lm;rw[eQ];omega) a3v) ?_ ?_)
  ·simp only[aU,cN];congr 2;show Value.agg ((Value.bool (!decide (q<0))).cells++v1.cells)=_;exact ui _ n1
  rintro u7 H6 ⟨hl6,hu7⟩;have e7:sn (true !=(decide (p<0)==decide (q<0))) Q+(if q<0 then 1 else -1)=p/q:=by
   rw[s1];unfold sn;by_cases h2:q<0
   ·simp[h2,vR]
   ·simp[h2,vR];omega
  rw[e7]at hu7;have hr7:=hu7.rq;obtain⟨w7,rfl,n7⟩:=hu7;exact⟨fun h=>(nomatch h),b4 hr7 (c9 rfl ⟨qD.trans (hl4.trans (hl5.trans hl6)),_,_,rfl,⟨w7,rfl,n7⟩,w5,rfl,n5.mono (hl5.trans hl6)⟩)⟩
 ·have h:=oDf h;have hc:(decide (p<0)&& !decide (R=0))=false:=by
   by_cases h1:p<0
   ·by_cases h2:R=0
    ·simp[h2]
    ·exfalso;apply h;unfold sn;rw[oDd h1];simp;omega
   ·simp[h1]
  rw[hc]at s1 s2;simp only[aZ,if_false]at s1 s2;have e3:sn (true !=(decide (p<0)==decide (q<0))) Q=p/q:=by
   rw[s1];unfold sn;by_cases h1:p<0<;>by_cases h2:q<0<;>simp[h1,h2]
  have e4:sn (decide (p<0)) R=p%q:=by
   rw[s2];unfold sn;by_cases h1:p<0
   ·simp[h1]at hc⊢;omega
   ·simp[h1]
  rw[e3]at n3;rw[e4]at n4;refine c9 rfl ⟨qD,_,_,rfl,⟨w3,?_,n3⟩,w4,?_,n4⟩
  ·rw[<-e3];rfl
  ·rw[<-e4];rfl
def HW (hx:Lw H x p) (hy:Lw H y q) (hp:Lm p) (hq:Lm q):Con prog 152 [x,y] H fun u H'=>Pl H H'/\Lw H' u (fS p.natAbs q.natAbs:Nat):=by
 have r1:=hx.rq;have r2:=hy.rq;obtain⟨wx,rfl,nx⟩:=hx;obtain⟨wy,rfl,ny⟩:=hy;unfold Lm at hp hq;refine t8 mixed J5 aB rfl (b4 r1 (b4 r2 ⟨fun vals H'=>∃(m n:Nat) (vm vn:Value),vals=[vm,vn]/\Pl H H'/\Mu H' vm m/\Mu H' vn n/\m<BP 10000/\n<BP 10000/\fS m n=fS p.natAbs q.natAbs,fun vals H'=>Xy H' (vals.getD 1 undef),⟨p.natAbs,q.natAbs,wx,wy,rfl,Pl.refl H,nx,ny,hp,hq,rfl⟩,?_⟩));rintro vals H'-⟨m,n,vm,vn,rfl,oW,hm,hn,lm,ln,hg⟩;simp only[cA,nA];obtain⟨a,da,ta,va⟩:=id hm;obtain⟨b,db,tb,vb⟩:=id hn;have qF:=tb.pos;refine Ab rfl rfl db rfl (b4 ⟨_,rfl⟩ (g8 (b:=decide ((b.length:Int)>0)) rfl (fun h=> ?_) (fun h=> ?_)))
 ·have h:=oDt h;refine g5 (HQ da db ta tb aA (bM (Nv ta va lm) aA) (bM (Nv tb vb ln) aA)) rfl ?_;rintro u H2 ⟨sH,uq,ur,lq,rfl,_,_,hr⟩;rw[va,vb]at hr;have oV:m%n<n:=cO _ aA;refine⟨fun h=>(nomatch h),b4 ⟨_,rfl,eP _⟩ (b4 ⟨_,rfl,cY _⟩ ⟨⟨n,m%n,vn,ur,rfl,oW.trans sH,hn.mono sH,hr,ln,aA,?_⟩,?_⟩)⟩
  ·rw[<-hg,mG n,<-Nat.gcd_rec,mG]
  ·show Xy H2 ur<Xy H' vn;rw[HT hr,HT hn];exact oV
 ·have h:=oDf h;have sP:n=0:=aA;subst sP;rw[Nat.gcd_zero_right]at hg;rw[hg]at hm;refine b4 hm.one.2 (c9 rfl ⟨oW,?_⟩);show Lw H' (Value.agg ((j3 prog 4).cells++vm.cells)) _;rw[ub,ui false hm];exact uh hm
end
def N6 {l:List Nat}:∀c∈l.map uvL,c.oneCell'=true:=fun c hc=>by obtain⟨d,_,rfl⟩:=bK.1 hc;rfl
def HY:j3 prog 182=nb false 0:=aB
def dgs (n:Nat):List Nat:=[dig n 0,dig n 1,dig n 2,dig n 3,dig n 4,dig n 5,dig n 6,dig n 7]
def N7 (n:Nat):Eg (dgs n):=fun d hd=>by
 simp only[dgs,aX,bV,or_false]at hd;rcases hd with h|h|h|h|h|h|h|h<;>rw[h]<;>exact Nq _ _
def N8 (n:Nat):ul (dgs n)=n%M:=by
 have e:dig n 0+18446744073709551616*(dig n 1+18446744073709551616*(dig n 2+18446744073709551616*(dig n 3+18446744073709551616*(dig n 4+18446744073709551616*(dig n 5+18446744073709551616*(dig n 6+18446744073709551616*(dig n 7+18446744073709551616*0)))))))=n%PW 8:=by
  have h:=fun k=>Gm n k;rw[h 7,h 6,h 5,h 4,h 3,h 2,h 1,h 0,Iy,Nat.mod_one];rw[show PW 7=PW 0*18446744073709551616*18446744073709551616*18446744073709551616*18446744073709551616*18446744073709551616*18446744073709551616*18446744073709551616 from by rw[s9,s9,s9,s9,s9,s9,s9],show PW 6=PW 0*18446744073709551616*18446744073709551616*18446744073709551616*18446744073709551616*18446744073709551616*18446744073709551616 from by rw[s9,s9,s9,s9,s9,s9],show PW 5=PW 0*18446744073709551616*18446744073709551616*18446744073709551616*18446744073709551616*18446744073709551616 from by rw[s9,s9,s9,s9,s9],show PW 4=PW 0*18446744073709551616*18446744073709551616*18446744073709551616*18446744073709551616 from by rw[s9,s9,s9,s9],show PW 3=PW 0*18446744073709551616*18446744073709551616*18446744073709551616 from by rw[s9,s9,s9],show PW 2=PW 0*18446744073709551616*18446744073709551616 from by rw[s9,s9],show PW 1=PW 0*18446744073709551616 from by rw[s9],Iy];omega
 rw[Db,<-e];rfl
end Go.Z
namespace Go.WD
open RX
def N9 {n k:Nat} (h:n<PW k) (hk:k<=8):n<M:=by rw[Db];exact aM h (Qh hk)
end Go.WD
namespace Go.Z
open Proofs.Tryz RowKit RX WD
def HZ:prog.underlying 182=some (.struct (fieldsOf prog 182)):=aB
def IA:1<(fieldsOf prog 182).size:=by decide+kernel
def IB:prog.underlying 180=some (.array 8 42):=aB
def fe:prog.cellsOf 182=9:=aB
def IC (b:Bool) (n:Nat):spl (nb false 0).cells 0 (nb b n).cells.toList=(nb b n).cells:=by
 simp[nb,words,wf,spl,Iw]
def O0 (b:Bool):i8 (Value.bool b).cells:=by intro c hc;simp[qs]at hc;subst hc;rfl
def O1 (b:Bool) (n:Nat):((nb b n).cells.toList.drop 1).take 8=(dgs n).map uvL:=rfl
section
variable {H:PH}
def O2 {o:Oper} {x:Operand} {b:Nat} (ho:o.op= .fieldAddr 182 x 0) (hx:e8 [x] [.pointer (some ⟨b,0,none⟩)] x= .pointer (some ⟨b,0,none⟩)):Yld prog o [.pointer (some ⟨b,0,none⟩)] (.pointer (some ⟨b,0,none⟩)):=
 ua (T:=4) (off:=0) ho hx HZ (iK Nat.zero_lt_one IA) aB aB aB (by decide+kernel)
def ID {o:Oper} {x:Operand} {b:Nat} (ho:o.op= .fieldAddr 182 x 1) (hx:e8 [x] [.pointer (some ⟨b,0,none⟩)] x= .pointer (some ⟨b,0,none⟩)):Yld prog o [.pointer (some ⟨b,0,none⟩)] (.pointer (some ⟨b,1,none⟩)):=
 ua (T:=180) (off:=1) ho hx HZ IA aB aB aB (by decide+kernel)
def IE {o:Oper} {x y:Operand} {b:Nat} {v:Value} {cs:Array Value} (ho:o.op= .store 182 x y) (hx:∀v,e8 [x,y] [.pointer (some ⟨b,0,none⟩),v] x= .pointer (some ⟨b,0,none⟩)) (hy:∀v,e8 [x,y] [.pointer (some ⟨b,0,none⟩),v] y=v) (hH:H b=some (.cells cs 182 (0,0))) (pM:cs.size=9) (hv:v.cells.size=9) (h1:i8 v.cells):
  Opn prog o [.pointer (some ⟨b,0,none⟩),v] H fun _ H'=>H'=H.put b (.cells (spl cs 0 v.cells.toList) 182 (0,0)):=
 (Ta ho (hx v) (hy v) hH aB (by rw[fe];omega) (by rw[fe];exact hv) h1).mono fun _ _ h=>h.2
def O3 {o:Oper} {x:Operand} {b:Nat} {cs:Array Value} (ho:o.op= .load 182 x) (hx:e8 [x] [.pointer (some ⟨b,0,none⟩)] x= .pointer (some ⟨b,0,none⟩)) (hH:H b=some (.cells cs 182 (0,0))) (pM:cs.size=9):Rds prog o [.pointer (some ⟨b,0,none⟩)] H (.agg cs):=by
 have:=Sz (P:=prog) (T:=182) ho hx hH aB (by rw[fe];omega) (fun h=>by cases h.symm.trans (show p8 prog 182=true by kernel_rfl));rw[show p8 prog 182=true by kernel_rfl,if_pos rfl,fe,bP,<-pM,Array.extract_size]at this;exact this
def Uc (a:Nat):Con prog 84 [wd a] H fun u H'=>Pl H H'/\Lw H' u (toI a):=by
 have hM:=Tv a;refine t8 mixed G9 aB rfl (b4 ⟨words_size a,words_one a⟩ (Bn (sx a) rfl ?_));simp only[cA,nA];generalize toI a=z at hM;intro b hb;show den _ _ _ _ _ _ (H.put b (.cells (j3 prog 182).cells 182 (0,0)));rw[HY];simp only[cA,nA];refine j4 (vs:=[.pointer (some ⟨b,0,none⟩),nm z]) (IE rfl aF aF (PH.put_self _ _ _) (Ei _ _) (Ei _ _) (Gn _ _)) rfl ?_;rintro u H1 rfl;rw[PH.put_put,show spl (nb false 0).cells 0 (nm z).cells.toList=(nm z).cells from IC _ _];have l1:Pl H (H.put b (.cells (nm z).cells 182 (0,0))):=PH.le_put hb _;have hB:(H.put b (.cells (nm z).cells 182 (0,0))) b=some (.cells (nm z).cells 182 (0,0)):=PH.put_self _ _ _;generalize H.put b (.cells (nm z).cells 182 (0,0))=H2 at l1 hB;refine nmI ?_;simp only[cA,nA];refine j6 ((O2 rfl rfl).rds _) rfl (j6 (rj (w:= .bool (decide (z<0))) rfl rfl hB aB aB aB (by show 0+1<=9;omega) rfl) rfl ?_);simp only[cA,nA];refine j6 ((ID rfl rfl).rds _) rfl (j6 ((eu (vs:=[.pointer (some ⟨b,1,none⟩)]) rfl rfl IB Ks).rds _) rfl ?_);simp only[cA,nA];obtain⟨ti,i1,i2,i3,i4⟩:=eq;refine j4 (vs:=[]) (FN rfl Kt i1) rfl ?_;rintro v8 H3 ⟨g,hg,rfl,rfl⟩;have l3:Pl H2 (H2.put g (.cells #[] 42 (0,0))):=PH.le_put hg _;simp only[cA,nA];have hs:Sl (H2.put g (.cells #[] 42 (0,0))) 1 (.slice (some ⟨b,1,none⟩) 8 8) 8 ((dgs z.natAbs).map uvL):=⟨rfl,_,8,rfl,aA,by simp[maxLen],.inr ⟨b,1,_,_,_,rfl,l3 _ _ hB,O1 _ _⟩⟩;refine⟨fun _=>l3,j4 (vs:=[.slice (some ⟨g,0,none⟩) 0 0,.slice (some ⟨b,1,none⟩) 8 8]) (L5 rfl rfl rfl Kt i1 i2 i3 rfl hs aA (by simp[maxLen]) (by rw[i4];omega)) rfl ?_⟩;rintro v9 H4 ⟨l4,ho⟩;have hE:Es H4 v9 (dgs z.natAbs):=⟨ho.sl,N7 _⟩;simp only[cA,nA];refine⟨fun _=>l4,g5 (Ht (decide (z<0)) hE) rfl ?_⟩;rintro u H5 ⟨rfl,hu⟩;rw[N8,eH hM,L8]at hu;have hr:=hu.rq;obtain⟨w',rfl,qS⟩:=hu;exact⟨fun _=>Pl.refl _,b4 hr (c9 rfl ⟨l1.trans (l3.trans l4),w',rfl,qS⟩)⟩
def Nx (n:Int) (h0: -9223372036854775808<=n) (h1:n<9223372036854775808):Con prog 81 [.int .i64 n] H fun u H'=>Pl H H'/\Lw H' u n:=by
 refine t8 mixed I0 aB rfl (Bn (Xs n h0 h1) rfl (g5 (Uc (rs n)) rfl ?_));rintro u H1 ⟨l1,hu⟩;rw[Ho (fits_small h0 h1)]at hu;have hr:=hu.rq;obtain⟨w',rfl,qS⟩:=hu;exact⟨fun h=>(nomatch h),b4 hr (c9 rfl ⟨l1,w',rfl,qS⟩)⟩
def IF (n:Nat):(words n).toList=(List.range 8).map fun j=>uvL (dig n j):=rfl
def O4 {l:List Nat} (h:Eg l) (hl:l.length<=8):l.map uvL++(words 0).toList.drop l.length=(words (ul l)).toList:=by
 rw[IF,IF];apply bG;intro j;rcases eB j l.length with hj|hj
 ·rw[aQ (by simpa using hj),aY,aY,cC aA,GH hj];simp only[cJ];rw[Xx h]
 ·rw[aN (by simpa using hj),aW,dI,show l.length+(j-l.length)=j from aA,aY,aY];rcases eB j 8 with h8|h8
  ·rw[cC h8];simp only[cJ];rw[Xx h,Tt hj,Xj]
  ·rw[aP (by simpa using h8)];rfl
def Ya {v:Value} {z:Int} (hx:Lw H v z):Con prog 85 [v] H fun u H'=>Pl H H'/\u=Bo z:=by
 have yG:=hx.rq;obtain⟨w,rfl,l,dl,tl,vl'⟩:=hx;have hHM:=Ja;refine t8 mixed I1 aB rfl (b4 yG (Ab rfl rfl dl rfl (b4 ⟨_,rfl⟩ (g8 (b:=decide ((l.length:Int)>8)) rfl (fun h=> ?_) (fun h=> ?_)))))
 ·have h:=oDt h;have yW:M<=z.natAbs:=by
   rcases eB z.natAbs M with h1|h1
   ·have:=tl 8 (by rw[vl',<-Db];exact h1);omega
   ·exact h1
  refine c9 ?_ ⟨Pl.refl _,rfl⟩;rw[tw (by have:=Tn;omega)];simp only[rxs,y9,Jc]
 ·have h:=oDf h;have hlM:z.natAbs<M:=by rw[<-vl'];exact N9 (Gp dl.2) aA
  refine b4 ⟨rfl,O0 _⟩ ?_;simp only[cA,nA];intro b hb;show den _ _ _ _ _ _ (H.put b (.cells (j3 prog 182).cells 182 (0,0)));rw[HY];simp only[cA,nA];obtain⟨V,hV⟩:∃V,V=nb (decide (z<0)) 0:=⟨_,rfl⟩;have hV9:V.cells.size=9:=by rw[hV];exact Ei _ _
  have hV1:i8 V.cells:=by rw[hV];exact Gn _ _
  have a3w:[Value.pointer (some ⟨b,0,none⟩),Value.agg ((Value.bool (decide (z<0))).cells++(j3 prog 180).cells)]=[Value.pointer (some ⟨b,0,none⟩),V]:=by
   rw[To,hV];rfl
  have uD:=IE (v:=V) I2 aF aF (PH.put_self H b (.cells (nb false 0).cells 182 (0,0))) (Ei _ _) hV9 hV1;refine @j4 _ _ _ _ _ _ _ _ _ _ _ _ _ _ uD ?_ ?_
  ·simp only[aU,cN];exact a3w
  rintro u H1 rfl;rw[PH.put_put,hV,IC];have l1:Pl H (H.put b (.cells (nb (decide (z<0)) 0).cells 182 (0,0))):=PH.le_put hb _;refine nmI ?_;simp only[cA,nA];refine j6 ((ID rfl rfl).rds _) rfl (j6 ((eu (vs:=[.pointer (some ⟨b,1,none⟩)]) rfl rfl IB Ks).rds _) rfl ?_);simp only[cA,nA];obtain⟨ti,i1,i2,i3,i4⟩:=eq;refine j4 (vs:=[.slice (some ⟨b,1,none⟩) 8 8,w]) (L6 rfl rfl rfl Kt i1 i3 (PH.put_self _ _ _) (dl.mono l1).1 N6 aA (by show 1+l.length<=9;omega)) rfl ?_;rintro u H2 rfl;rw[PH.put_put];have ecs:((nb (decide (z<0)) 0).cells.toList.take 1++l.map uvL++(nb (decide (z<0)) 0).cells.toList.drop (1+l.length)).toArray=(nm z).cells:=by
   have e1:∀n,(nb (decide (z<0)) n).cells.toList= .bool (decide (z<0))::(words n).toList:=fun n=>by simp[nb,Iw]
   have e2:=O4 dl.2 aA;rw[vl']at e2;rw[<-cF,e1 0];show[Value.bool (decide (z<0))]++l.map uvL++(Value.bool (decide (z<0))::(words 0).toList).drop (1+l.length)=(nb (decide (z<0)) z.natAbs).cells.toList;rw[e1,iF 1,List.drop_succ_cons,bL,e2];rfl
  rw[ecs];have l2:Pl H (H.put b (.cells (nm z).cells 182 (0,0))):=PH.le_put hb _;refine nmI ?_;simp only[cA,nA];refine j6 (O3 rfl rfl (PH.put_self _ _ _) (Ei _ _)) rfl (Bn (GL z hlM) rfl ?_);obtain⟨n,e,ht⟩:=dw z;rw[ht];exact b4 ⟨_,rfl,eP _⟩ (b4 ⟨_,rfl,cY _⟩ (b4 ⟨words_size n,words_one n⟩ (c9 rfl ⟨l2,rfl⟩)))
end
end Go.Z
namespace Go.WD
open RX
def take_snoc {l:List UInt8} {p:Nat} (h:p<l.length):l.take (p+1)=l.take p++[l.getD p 0]:=by
 rw[List.take_succ_eq_append_getElem h,aK,aG h];rfl
def O5 {a b k:Nat} (h:k=a+b):2^a*2^b=2^k:=by rw[h,gJ]
def O6 {k:Nat} (h:k=511):HM=2^k:=by
 have e:=Ua 7;rw[Tj,e];generalize hb:64*7=b;exact O5 (a:=63) (b:=b) aA
def O7 {k:Nat} (h:k<=511):2^k<=HM:=by
 obtain⟨n,hn⟩:∃n:Nat,n=511:=⟨_,rfl⟩;rw[O6 hn];exact bB aA aA
end Go.WD

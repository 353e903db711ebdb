/- Words to the base 2^64: plain. -/
import Derived.Test.YtcdnhlplkhldbaaGreatDoorWdB
import Derived.Lib.Mul64
open Bool renaming and_false->lT,and_true->jT,false_and->jG,not_false->jF,not_true->lY,true_bne->oS
open Go.Result renaming andThen_ok->eJ
open Go.Sem renaming run_bind->eK
open Int renaming ediv_emod_unique->mY,fdiv_eq_ediv_of_nonneg->jI,mul_comm->pI,neg_mul_neg->oI,ofNat_tdiv->oR,ofNat_tmod->kJ,toNat->nW
open List renaming getD_cons_zero->mW,replicate->eS
open Nat renaming add_assoc->jY,add_mul_div_left->iW,add_mul_mod_self_left->lS,div_add_mod'->iR,div_div_eq_div_mul->mH,div_eq_of_lt->fV,div_lt_iff_lt_mul->fP,le_antisymm->oH,le_div_iff_mul_le->jZ,le_of_lt->nE,mul_add->fE,mul_assoc->eY,mul_div_mul_right->mO,mul_le_mul_left->gK,mul_mod_mul_right->mN,mul_one->fY,mul_right_comm->nN,pow_add->fW,pow_lt_pow_iff_right->iF,pow_pos->jD,two_pow_add_eq_or_of_lt->lC,zero_lt_succ->eM
set_option linter.all false
set_option maxRecDepth 100000
open Go.IntKind renaming wrap->wQ
namespace Go.WD
open RX
def PW_lt_iff {i j:Nat}:PW i<PW j↔i<j:=by
 constructor
 ·intro h;rcases dU i j with h1|h1
  ·exact h1
  ·have:=Rw h1;omega
 ·intro h;have h1:=Rw (show i+1<=j from h);have h2:=Bi i;rw[u6]at h1;omega
def ul:List Nat->Nat
 |[]=>0
 |d::l=>d+18446744073709551616*ul l
def Eg (l:List Nat):Prop:=∀d∈l,d<18446744073709551616
def Eg.one {d:Nat} (h:d<18446744073709551616):Eg [d]:=fun e he=>by rw[bB]at he;omega
def Eg.take {l:List Nat} (h:Eg l) (k:Nat):Eg (l.take k):=fun d hd=>h d (cM hd)
def Eg.set {l:List Nat} (h:Eg l) (k:Nat) {x:Nat} (hx:x<18446744073709551616):Eg (l.set k x):=fun d hd=>by
 rcases List.mem_or_eq_of_mem_set hd with h1|h1
 ·exact h d h1
 ·omega
def Eg.zeros (n:Nat):Eg (eS n 0):=fun d hd=>by rw[List.mem_replicate]at hd;omega
def Eg.at {l:List Nat} (h:Eg l) (k:Nat):l.getD k 0<18446744073709551616:=by
 rw[aJ];cases e:l[k]? with
 |none=>simp
 |some d=>exact h d (aK e)
def xc:∀(a b:List Nat),ul (a++b)=ul a+PW a.length*ul b
 |[],b=>by simp[ul,Jk]
 |d::a,b=>by
  rw[dM,ul,ul,xc a b,aP,u6,fE,<-jY,<-eY,eF (PW a.length)]
def xd (d:Nat):ul [d]=d:=by simp[ul]
def Hf:∀{l:List Nat},Eg l->ul l<PW l.length
 |[],_=>by simp[ul,Jk]
 |d::l,h=>by
  have h1:=Hf (l:=l) fun e he=>h e (by simp[he]);have h2:=h d aD;rw[ul,aP,u6];omega
def Rx:∀n,ul (eS n 0)=0
 |0=>rfl
 |n+1=>by rw[List.replicate_succ,ul,Rx n]
def Vj {l:List Nat} {k:Nat} (h:k<l.length):ul (l.take (k+1))=ul (l.take k)+PW k*l.getD k 0:=by
 rw[J8 h,xc,xd,bH,cD aA]
def xe {l:List Nat} {k:Nat} (h:k<l.length):ul (l.drop k)=l.getD k 0+18446744073709551616*ul (l.drop (k+1)):=by
 rw[ij h];rfl
def xf (l:List Nat) {k:Nat} (h:k<=l.length):ul l=ul (l.take k)+PW k*ul (l.drop k):=by
 have:=xc (l.take k) (l.drop k)
 rwa[dQ,bH,cD h]at this
def Jp:∀{l:List Nat} {k:Nat} (x:Nat),k<l.length->ul (l.set k x)+PW k*l.getD k 0=ul l+PW k*x
 |[],k,x,h=>by simp at h
 |d::l,0,x,_=>by simp[ul,Jk];omega
 |d::l,k+1,x,h=>by
  have ih:=Jp (l:=l) (k:=k) x (by simpa using h);have e:(d::l).getD (k+1) 0=l.getD k 0:=rfl;rw[List.set_cons_succ,ul,ul,e,u6,eF (PW k),eY,eY];have h1:18446744073709551616*ul (l.set k x)+18446744073709551616*(PW k*l.getD k 0)=18446744073709551616*ul l+18446744073709551616*(PW k*x):=by rw[<-fE,ih,fE]
  omega
def Um (l:List Nat):Prop:=∀k,ul l<PW k->l.length<=k
def Um.nil:Um []:=fun _ _=>bK _
def N4 {l:List Nat} {n:Nat} (hl:l.length=n+1) (h:l.getD n 0≠0):PW n<=ul l:=by
 have h1:=Vj (l:=l) (k:=n) aA;rw[aI aA]at h1;have:=gK (PW n) (show 1<=l.getD n 0 by omega);omega
def Um.of {l:List Nat} {n:Nat} (hl:l.length=n+1) (h:l.getD n 0≠0):Um l:=fun k hk=>by
 have:=PW_lt_iff.1 (bO (N4 hl h) hk);omega
def Um.ge {l:List Nat} (h:Um l) {n:Nat} (hl:l.length=n+1):PW n<=ul l:=by
 rcases dU (ul l) (PW n)with h1|h1
 ·have:=h n h1;omega
 ·exact h1
def Um.len_le {a b:List Nat} (ha:Um a) (hb:Eg b) (h:ul a<=ul b):a.length<=b.length:=ha _ (bO h (Hf hb))
def Um.lt_of_len {a b:List Nat} (ha:Eg a) (hb:Um b) (h:a.length<b.length):ul a<ul b:=by
 obtain⟨n,hn⟩:∃n,b.length=n+1:=⟨b.length-1,aA⟩;exact aU (Hf ha) (cK (Rw aA) (hb.ge hn))
def Um.pos {l:List Nat} (h:Um l):0<l.length↔0<ul l:=by
 constructor
 ·intro hl;obtain⟨n,hn⟩:∃n,l.length=n+1:=⟨l.length-1,aA⟩;exact aU (Bi n) (h.ge hn)
 ·intro hv;cases l with
  |nil=>simp[ul]at hv
  |cons d l=>simp
def JF {a b:List Nat} {i:Nat} (ha:Eg a) (hb:Eg b) (hia:i<a.length) (hib:i<b.length) (hd:a.drop (i+1)=b.drop (i+1)) (h:a.getD i 0<b.getD i 0):ul a<ul b:=by
 have e1:=xf a (show i+1<=a.length by omega);have e2:=xf b (show i+1<=b.length by omega);have f1:=Vj hia;have f2:=Vj hib;have g1:=Hf (ha.take i);rw[bH,cD aA]at g1;have h2:=gK (PW i) (show a.getD i 0+1<=b.getD i 0 from h);rw[fE]at h2;rw[hd]at e1;omega
end Go.WD
namespace Go.Z
open Proofs.Tryz RowKit RX WD IntWalk
def N5 (d:Nat) (h:d<18446744073709551616):((d:Int).fdiv (2^(min ((63:Int).toNat) (IntKind.bits .u64)))==1)=decide (¬d<9223372036854775808):=by
 have e:(2:Int)^(min ((63:Int).toNat) (IntKind.bits .u64))=9223372036854775808:=aC;rw[e,jI _ aA,bY];simp;omega
def N6 {a:Nat} (h:¬a%M<HM):sb 0 a%M=(toI a).natAbs%M:=by
 have hl:=cI a Oi;have:=Jm;unfold sb toI;rw[if_neg h];congr 1;omega
def Vk (a:Nat):(toI a).natAbs<M:=by
 obtain⟨h1,h2⟩:=I8 a;have:=Jm;omega
def xg (a:Nat):Det prog 134 [wd a] (nm (toI a)):=by
 have hl:=cI a Oi;have hM:=Jm;have a4d:=I9 a;have hc:∀ρ:List Value,D prog (wd a::ρ) (.op2 .eql .u64 (.op2 .shr .u64 (.cell (.v 0) 7 0 noI) (kU 63)) (kU 1))= .bool (decide (¬a%M<HM)):=fun ρ=>by
  simp only[rxs,Jl a (show 7<8 by omega)];rw[N5 _ (Oj a 7)];congr 1;rw[bY,oDi,oDi,a4d]
 refine Dk mixed L4 aB rfl (i6 ⟨words_size a,words_one a⟩ (i6 ⟨dig a 7,?_⟩ (Ap (hc []) (fun h=> ?_) (fun h=> ?_))))
 ·simp only[rxs,Jl a (show 7<8 by omega)]
 ·have h:¬a%M<HM:=by simpa using h
  refine Dl (Zf 0 a) (by simp only[rxs,Vi];rfl) ?_;refine i6 ⟨_,rfl,eM _⟩ (i6 ⟨_,rfl,bW _⟩ (i6 ⟨words_size _,words_one _⟩ (Ah rfl ?_)));simp only[bI,bR,Ab];rw[D,dM,dA,hc];simp only[rxs];show nb _ (sb 0 a)=nm (toI a);exact Zc (by rw[bY];simp[toI,if_neg h];omega) (N6 h)
 ·have h:a%M<HM:=by simpa using h
  refine Ah rfl ?_;simp only[bI,bR,Ab];rw[D,hc];simp only[rxs];show nb _ a=nm (toI a);refine Zc (by rw[bY];simp[toI,if_pos h];omega) ?_;unfold toI;rw[if_pos h,Int.natAbs_natCast,Nat.mod_mod]
def Ol (b:Bool) (n:Nat):(nb b n).cells= #[.bool b]++words n:=rfl
def Ce (z:Int):Value:=if -(HM:Int)<=z/\z<HM then .tuple #[iw z,.int .i64 0]else .tuple #[wd 0,.int .i64 6]
def JG (z:Int) (hz:z.natAbs<M):Det prog 135 [nm z] (Ce z):=by
 have hH:=J2;refine Dk mixed L5 aB rfl (i6 ⟨Ew _ _,He _ _⟩ (Dl (JA z.natAbs HM) ?_ (i6 ⟨_,rfl⟩ ?_)))
 ·simp only[rxs,nm,Ol,wz,Vi,J3];rfl
 ·rw[dV hz,dV hH];refine Ap (b:=decide (sg z.natAbs HM>0)) rfl (fun h=> ?_) (fun h=> ?_)
  ·have h:=sg_pos.1 (oDt h);refine Ah rfl ?_;simp only[rxs,Ab,Ij,Ce];rw[if_neg aA]
  ·have h:¬HM<z.natAbs:=fun e=>oDf h (sg_pos.2 e);refine Ap (b:=sg z.natAbs HM==0) rfl (fun h1=> ?_) (fun h1=> ?_)
   ·have h1:=sg_zero.1 (by simpa using h1);refine i6 ⟨_,rfl⟩ (Ap (b:= !decide (z<0)) rfl (fun h2=> ?_) (fun h2=> ?_))
    ·have h2:¬z<0:=by simpa using h2
     refine Ah rfl ?_;simp only[rxs,Ab,Ij,Ce];rw[if_neg aA]
    ·have h2:z<0:=by simpa using h2
     refine Dl (Zf 0 z.natAbs) ?_ (i6 ⟨_,rfl,eM _⟩ (i6 ⟨_,rfl,bW _⟩ (i6 ⟨words_size _,words_one _⟩ (Ah rfl ?_))))
     ·simp only[rxs,nm,Ol,wz,Vi];rfl
     ·simp only[rxs,Ab,Ce];rw[if_pos aA,<-IS h2 hz];rfl
   ·have h1:z.natAbs≠HM:=fun e=>by simp[sg_zero.2 e]at h1
    refine i6 ⟨_,rfl⟩ (Ap (b:=decide (z<0)) rfl (fun h2=> ?_) (fun h2=> ?_))
    ·have h2:z<0:=by simpa using h2
     refine Dl (Zf 0 z.natAbs) ?_ (i6 ⟨_,rfl,eM _⟩ (i6 ⟨_,rfl,bW _⟩ (i6 ⟨words_size _,words_one _⟩ (Ah rfl ?_))))
     ·simp only[rxs,nm,Ol,wz,Vi];rfl
     ·simp only[rxs,Ab,Ce];rw[if_pos aA,<-IS h2 hz];rfl
    ·have h2:¬z<0:=by simpa using h2
     refine Ah rfl ?_;simp only[Ce];rw[if_pos aA,<-J4 aA hz];rfl
set_option maxHeartbeats 2000000 in
def N7 (x y:Int) (hx:x.natAbs<M) (hy:y.natAbs<M):∃v,Det prog 181 [nm x,nm y] (.tuple #[.agg v,.bool (decide (M<=(x+y).natAbs))])/\v.size=9/\j0 v/\((x+y).natAbs<M->Value.agg v=nm (x+y)):=by
 have hcr:cr x.natAbs y.natAbs 8=if M<=x.natAbs+y.natAbs then 1 else 0:=by
  unfold cr;rw[<-Dn,dV hx,dV hy];split
  ·rename_i h;rw[Nat.div_eq_sub_div Oi h,fV aA]
  ·rename_i h;exact fV aA
 by_cases hs:(decide (x<0))=(decide (y<0))
 ·have rD:x<0↔y<0:=by simpa using hs
  refine⟨#[.bool (decide (x<0)&& !decide ((x.natAbs+y.natAbs)%M=0))]++words (x.natAbs+y.natAbs),Dk mixed IX aB rfl ?_,Ew _ _,He _ _,fun h=> ?_⟩
  ·refine i6 ⟨Ew _ _,He _ _⟩ (i6 ⟨Ew _ _,He _ _⟩ (i6 ⟨_,rfl⟩ (i6 ⟨_,rfl⟩ (D8 ?_ ?_))))
   ·show Value.bool (false !=(decide (x<0)==decide (y<0)))=_;rw[hs];simp
   ·refine Dl (N0 x.natAbs y.natAbs) rfl (i6 ⟨_,rfl,eM _⟩ (i6 ⟨_,rfl,bW _⟩ (i6 ⟨words_size _,words_one _⟩ ?_)));refine Dl (xa (decide (x<0)) (x.natAbs+y.natAbs)) rfl (i6 ⟨_,rfl⟩ (i6 ⟨Ew _ _,He _ _⟩ (Ah rfl ?_)));show Value.tuple #[nb _ _,.bool (decide (((cr x.natAbs y.natAbs 8:Nat):Int)>0))]=_;rw[hcr];have:(decide ((((if M<=x.natAbs+y.natAbs then 1 else 0:Nat)):Int)>0))=decide (M<=(x+y).natAbs):=by
     rw[bY,oDi,oDi];split<;>omega
    rw[this];rfl
  ·show nb _ _=nb _ _;refine Zc ?_ (congrArg (· %M) aA);rw[dV aA,bY];simp;omega
 ·have rD:¬(x<0↔y<0):=by simpa using hs
  have qB:(x+y).natAbs<M:=aA;have vE:∀a b:Nat,a<M->b<=a->sb a b%M=(a-b)%M:=fun a b ha hb=>by
   unfold sb;rw[dV (show b<M by omega),show a+(M-b)=(a-b)+M from aA,Nat.add_mod_right]
  refine⟨#[.bool (decide (x+y<0))]++words (x+y).natAbs,Dk mixed IX aB rfl ?_,Ew _ _,He _ _,fun h=>rfl⟩;refine i6 ⟨Ew _ _,He _ _⟩ (i6 ⟨Ew _ _,He _ _⟩ (i6 ⟨_,rfl⟩ (i6 ⟨_,rfl⟩ (uu ?_ ?_))))
  ·show Value.bool (false !=(decide (x<0)==decide (y<0)))=_;rw[beq_eq_false_iff_ne.2 hs];rfl
  ·refine Dl (JA x.natAbs y.natAbs) (by simp only[rxs,nm,Ol];rfl) (i6 ⟨_,rfl⟩ (Ap (b:=decide (sg (x.natAbs%M) (y.natAbs%M)≥0)) rfl (fun h=> ?_) (fun h=> ?_)))
   ·have h:=sg_nonneg.1 (oDt h);rw[dV hx,dV hy]at h;have e:=vE x.natAbs y.natAbs hx h;refine Dl (Zf x.natAbs y.natAbs) (by simp only[rxs,nm,Ol];rfl) (i6 ⟨_,rfl,eM _⟩ (i6 ⟨_,rfl,bW _⟩ (i6 ⟨words_size _,words_one _⟩ ?_)));refine Dl (xa (decide (x<0)) (sb x.natAbs y.natAbs)) (by simp only[rxs,nm,Ol];rfl) (i6 ⟨Ew _ _,He _ _⟩ (Ah rfl ?_));show Value.tuple #[nb _ _,.bool false]= .tuple #[nb _ _,_];rw[Zc (b':=decide (x+y<0)) (n:=(x+y).natAbs) ?_ (by rw[e];exact congrArg (· %M) aA),decide_eq_false (show ¬M<=(x+y).natAbs by omega)];rw[e,dV aA,bY];simp;omega
   ·have h:¬y.natAbs<=x.natAbs:=fun e=>oDf h (sg_nonneg.2 (by rw[dV hx,dV hy];exact e));have e:=vE y.natAbs x.natAbs hy aA;refine Dl (Zf y.natAbs x.natAbs) (by simp only[rxs,nm,Ol];rfl) (i6 ⟨_,rfl,eM _⟩ (i6 ⟨_,rfl,bW _⟩ (i6 ⟨words_size _,words_one _⟩ ?_)));refine Dl (xa (decide (y<0)) (sb y.natAbs x.natAbs)) (by simp only[rxs,nm,Ol];rfl) (i6 ⟨Ew _ _,He _ _⟩ (Ah rfl ?_));show Value.tuple #[nb _ _,.bool false]= .tuple #[nb _ _,_];rw[Zc (b':=decide (x+y<0)) (n:=(x+y).natAbs) ?_ (by rw[e];exact congrArg (· %M) aA),decide_eq_false (show ¬M<=(x+y).natAbs by omega)];rw[e,dV aA,bY];simp;omega
open Go.RowKit Go.RX Go.WD Go.IntWalk
def il (z:Int):∃a b,Ce z= .tuple #[wd a,b]:=by
 unfold Ce;split
 ·exact⟨_,_,rfl⟩
 ·exact⟨_,_,rfl⟩
end Go.Z
namespace Go.WD
open RX
def JH:PW 1=18446744073709551616:=by rw[u6,Jk,cQ]
def xi {p i:Nat} (h:p<PW i):dig p i=0:=by
 unfold dig;rw[fV h]
def JI (p:Nat):dig p 0=p%18446744073709551616:=by unfold dig;rw[Jk,Nat.div_one]
def xj (a b:Nat) (ha:a<18446744073709551616) (hb:b<18446744073709551616):wQ .u64 ((BitVec.ofInt (IntKind.bits .u64) (a:Int)|||BitVec.ofInt (IntKind.bits .u64) (b:Int)).toNat:Int)=((a|||b:Nat):Int):=by
 have h:=Nat.or_lt_two_pow (n:=64) ha hb;have e:(BitVec.ofInt 64 (a:Int)|||BitVec.ofInt 64 (b:Int)).toNat=a|||b:=by
  rw[BitVec.toNat_or,BitVec.toNat_ofInt,BitVec.toNat_ofInt];congr 1<;>omega
 show wQ .u64 ((BitVec.ofInt 64 (a:Int)|||BitVec.ofInt 64 (b:Int)).toNat:Int)=_;rw[e,IntKind.wrap_u64];omega
def Zg (a:Nat) (ha:a<18446744073709551616):wQ .u64 ((BitVec.ofInt (IntKind.bits .u64) (a:Int)&&&BitVec.ofInt (IntKind.bits .u64) 4294967295).toNat:Int)=((a%4294967296:Nat):Int):=by
 have e:(BitVec.ofInt 64 (a:Int)&&&BitVec.ofInt 64 4294967295).toNat=a%4294967296:=by
  rw[BitVec.toNat_and,BitVec.toNat_ofInt,BitVec.toNat_ofInt,show((4294967295:Int)%(2^64:Nat)).toNat=2^32-1 from aC,Nat.and_two_pow_sub_one_eq_mod];omega
 show wQ .u64 ((BitVec.ofInt 64 (a:Int)&&&BitVec.ofInt 64 4294967295).toNat:Int)=_;rw[e,IntKind.wrap_u64];omega
def Vm (a k:Nat) (hk:k<=64):(a:Int).fdiv (2^min k (IntKind.bits .u64))=((a/2^k:Nat):Int):=by
 rw[show min k (IntKind.bits .u64)=k from cD hk,show(2:Int)^k=((2^k:Nat):Int)from aD,jI _ (eC _)];exact(Int.natCast_ediv a (2^k)).symm
open Go.RX
def N8 {k i:Nat} (h:i<k):dig (PW k-1) i=18446744073709551615:=by
 obtain⟨d,rfl⟩:=Nat.exists_eq_add_of_lt h;unfold dig;have hp:=Bi i;have hd:=Bi d;have e:PW (i+d+1)-1=(PW i-1)+PW i*(PW (d+1)-1):=by
  have h1:PW (i+d+1)=PW i*PW (d+1):=by rw[jY,Vd]
  have h2:0<PW (d+1):=Bi _;rw[h1,Nat.mul_sub,fY];have h3:PW i<=PW i*PW (d+1):=Nat.le_mul_of_pos_right _ h2;omega
 rw[e,iW _ _ hp,fV aA,bJ,u6];omega
def M_W:M=18446744073709551616*PW 7:=by rw[Dn,show(8:Nat)=7+1 from rfl,u6];exact eF _ _
def N9 {t:Nat} (h0:0<t) (h1:t<=18446744073709551616) {i:Nat} (hi:i<8):dig (M-t) i=if i=0 then 18446744073709551616-t else 18446744073709551615:=by
 have e:M-t=(18446744073709551616-t)+18446744073709551616*(PW 7-1):=by
  have:=Bi 7;rw[M_W];omega
 rw[e];split
 ·rename_i h;subst h;rw[JI,lS,dV aA]
 ·rename_i h;obtain⟨j,rfl⟩:∃j,i=j+1:=⟨i-1,aA⟩;rw[<-N8 (show j<7 by omega)];unfold dig;rw[u6 j,eF (PW j),<-mH,iW _ _ aA,fV (show 18446744073709551616-t<18446744073709551616 by omega),bJ]
def O0 {t:Nat} (h:t<18446744073709551616) (i:Nat):dig t i=if i=0 then t else 0:=by
 split
 ·rename_i e;subst e;rw[JI,dV h]
 ·rename_i e;exact xi (aU (by rw[JH];exact h) (Rw (show 1<=i by omega)))
def M_big:18446744073709551616<=HM/\HM<M:=by
 have h1:=Vf;have h2:PW 1<=PW 7:=Rw aA;rw[JH]at h2;have h3:=Jm;constructor
 ·rw[h1];omega
 ·omega
def O1 {n:Int} (h0: -18446744073709551616<=n) (h1:n<18446744073709551616):words (rs n)=wf fun i=>if i=0 then(n%18446744073709551616).toNat else if n<0 then 18446744073709551615 else 0:=by
 have hM:=M_big;refine(Le fun i hi=> ?_);by_cases hn:n<0
 ·rw[ww hn aA,show(n+M).toNat=M-n.natAbs from aA,N9 aA aA hi];split
  ·omega
  ·rfl
 ·rw[wq aA aA,O0 aA];split
  ·omega
  ·rfl
def sgI (x y:Int):Int:=if x<y then -1 else if x=y then 0 else 1
def fits_small {n:Int} (h0: -9223372036854775808<=n) (h1:n<9223372036854775808):Jo n:=by
 have:=M_big;unfold Jo;omega
open Go.RX
def blen (x:Nat):Nat:=if x=0 then 0 else x.log2+1
def Zh (x:Nat):x<2^blen x:=by
 unfold blen;split
 ·rename_i h;subst h;decide
 ·exact Nat.lt_log2_self
def Zi {x:Nat} (h:x≠0):0<blen x/\2^(blen x-1)<=x:=by
 unfold blen;rw[if_neg h];exact⟨aA,by simpa using Nat.log2_self_le h⟩
def O2 {x k:Nat} (h0:0<k) (h1:2^(k-1)<=x) (h2:x<2^k):blen x=k:=by
 have hx:x≠0:=fun e=>by subst e;have:=jD (n:=k-1) (show 0<2 by omega);omega
 obtain⟨p1,p2⟩:=Zi hx;have p3:=Zh x;have a1:k-1<blen x:=(iF (show 1<2 by omega)).1 (bO h1 p3);have a2:blen x-1<k:=(iF (show 1<2 by omega)).1 (bO p2 h2);omega
def im {x k:Nat} (h:2^k<=x):blen x=k+blen (x/2^k):=by
 have hp:0<2^k:=jD aA;have hq:x/2^k≠0:=by
  have:=(jZ hp).2 (show 1*2^k<=x by omega);omega
 obtain⟨p1,p2⟩:=Zi hq;have p3:=Zh (x/2^k);refine O2 aA ?_ ?_
 ·rw[show k+blen (x/2^k)-1=(blen (x/2^k)-1)+k from aA,fW];exact(jZ hp).1 p2
 ·rw[fW,eF];exact(fP hp).1 p3
def blen_le {x k:Nat} (h:x<2^k):blen x<=k:=by
 by_cases hx:x=0
 ·subst hx;simp[blen]
 ·obtain⟨p1,p2⟩:=Zi hx;have:=(iF (show 1<2 by omega)).1 (bO p2 h);omega
def blen_ge {x k:Nat} (h:2^k<=x):k<blen x:=(iF (show 1<2 by omega)).1 (bO h (Zh x))
def Vn (k:Nat):PW k=2^(64*k):=by unfold PW;rfl
def Lj:(18446744073709551616:Nat)=2^64:=rfl
def O3 {A i:Nat} (h:dig A i≠0) (hs:A<PW (i+1)):blen A=64*i+blen (dig A i):=by
 have hd:A/PW i=dig A i:=by
  unfold dig;rw[dV];rw[u6]at hs;exact(fP (Bi i)).2 (by rw[eF];exact hs)
 have pY:PW i<=A:=by
  rcases dU A (PW i)with h1|h1
  ·rw[xi h1]at h;exact absurd rfl h
  ·exact h1
 rw[Vn]at pY hd;rw[im pY,hd]
section
variable {y1 y0 u n q r:Nat}
def JJ (hu:u=q*y1+r) (ho:4294967296*r+n<q*y0):(u*4294967296+n)/(y1*4294967296+y0)<q:=by
 have hp:0<y1*4294967296+y0:=by
  rcases Nat.eq_zero_or_pos y0 with h|h
  ·subst h;omega
  ·omega
 refine(fP hp).2 ?_;rw[fE,<-eY,hu,dC];omega
def xk (hu:u=q*y1+r) (hp:0<y1) (ho:q*y0<=4294967296*r+n):q<=(u*4294967296+n)/(y1*4294967296+y0):=by
 refine(jZ aA).2 ?_;rw[fE,<-eY,hu,dC];omega
def JK (hn:n<4294967296) (hp:0<y1):(u*4294967296+n)/(y1*4294967296+y0)<=u/y1:=by
 have h1:(u*4294967296+n)/(y1*4294967296+y0)<=(u*4294967296+n)/(4294967296*y1):=Nat.div_le_div_left aA aA;rw[<-mH,show(u*4294967296+n)/4294967296=u from aA]at h1;exact h1
def JL (h1:2147483648<=y1) (hu:u<y1*4294967296+y0) (h0:y0<4294967296):u/y1<=4294967297:=by
 have:u/y1<4294967298:=(fP aA).2 aA;omega
def ip (hn:n<4294967296) (hu:u<y1*4294967296+y0):(u*4294967296+n)/(y1*4294967296+y0)<4294967296:=by
 refine(fP aA).2 ?_;have:(u+1)*4294967296<=(y1*4294967296+y0)*4294967296:=bC _ hu;rw[eF 4294967296];omega
end
def O4 {U Y X n q1 r1 q0 r0:Nat} (hX:X=q1*Y+r1) (hU:U=X*4294967296+n) (h0:r1*4294967296+n=q0*Y+r0) (hr:r0<Y):U/Y=q1*4294967296+q0/\U%Y=r0:=by
 have e:U=r0+Y*(q1*4294967296+q0):=by
  rw[hU,hX,dC,jY,h0,fE,eF Y q0,eF Y,nN];omega
 rw[e];exact⟨by rw[iW _ _ aA,fV hr,bJ],by rw[lS,dV hr]⟩
def JM {a b i:Nat} (hb:b<2^i):(a*2^i)|||b=a*2^i+b:=by
 rw[eF,lC hb]
def iq {r:Nat} (h:r<=64):(18446744073709551616:Nat)=2^(64-r)*2^r:=by
 rw[<-fW,show 64-r+r=64 from aA]
def O5 (d:Nat) {r:Nat} (h:r<=64):d*2^r%18446744073709551616=(d%2^(64-r))*2^r:=by
 rw[iq h,mN]
def JO {d:Nat} (hd:d<18446744073709551616) {r:Nat} (h:r<=64):d/2^(64-r)<2^r:=by
 refine(fP (jD aA)).2 ?_;rw[eF,<-iq h];exact hd
def O6 {q k:Nat} (h:2^(k+1) ∣ q):q|||2^k=q+2^k:=by
 obtain⟨d,rfl⟩:=h;exact(lC (cU aA aA) d).symm
end Go.WD
namespace Go.Z
open Proofs.Tryz RowKit RX WD IntWalk
def As (a:Nat) (ha:a<18446744073709551616):wQ .u64 (a:Int)=(a:Int):=by rw[IntKind.wrap_u64];omega
def JP (a:Nat):wQ .u64 (a:Int)=((a%18446744073709551616:Nat):Int):=by rw[IntKind.wrap_u64];omega
def Om (a b:Nat):(a:Int)*(b:Int)=((a*b:Nat):Int):=(eA a b).symm
def Hg (a b:Nat):(a:Int)+(b:Int)=((a+b:Nat):Int):=(dZ a b).symm
def ir (a:Nat):(a:Int).fdiv (2^min (nW 32) (IntKind.bits .u64))=((a/4294967296:Nat):Int):=Vm a 32 aA
def O7 (x y:Nat) (hx:x<18446744073709551616) (hy:y<18446744073709551616):Det prog 199 [.int .u64 x,.int .u64 y] (.tuple #[.int .u64 ((x*y/18446744073709551616:Nat):Int),.int .u64 ((x*y%18446744073709551616:Nat):Int)]):=by
 obtain⟨bd,bt,bw,zD⟩:=Lib.mul64_hi x y hx hy;have ba:=Lib.half_mul_le (a:=x/4294967296) (b:=y/4294967296) aA aA;have bb:=Lib.half_mul_le (a:=x/4294967296) (b:=y%4294967296) aA aA;have bc:=Lib.half_mul_le (a:=x%4294967296) (b:=y/4294967296) aA aA;have ba':x/4294967296*(y/4294967296)<18446744073709551616:=aA;have bb':x/4294967296*(y%4294967296)<18446744073709551616:=aA;have bc':x%4294967296*(y/4294967296)<18446744073709551616:=aA;have bh1:x/4294967296*(y/4294967296)+(x/4294967296*(y%4294967296)+x%4294967296*(y%4294967296)/4294967296)/4294967296<18446744073709551616:=aA;have bh:x/4294967296*(y/4294967296)+(x/4294967296*(y%4294967296)+x%4294967296*(y%4294967296)/4294967296)/4294967296+((x/4294967296*(y%4294967296)+x%4294967296*(y%4294967296)/4294967296)%4294967296+x%4294967296*(y/4294967296))/4294967296<18446744073709551616:=by
  have:=(fP (show 0<18446744073709551616 by omega)).2 (Nat.mul_lt_mul'' hx hy);omega
 refine Dk mixed M5 aB rfl (i6 ⟨_,rfl⟩ (i6 ⟨_,rfl⟩ (Ah ?_ rfl)));simp only[rxs,Ab,ir,Zg x hx,Zg y hy,Om,Hg,As _ bd,As _ bb',As _ bt,Zg _ bt,As _ bc',As _ bw,As _ ba',As _ bh1,As _ bh,JP (x*y)];rw[zD]
def Ry (k:Nat) (h:k<=9223372036854775807):wQ .i64 (k:Int)=(k:Int):=i64_in _ ⟨aA,aA⟩
def O8 (k:Nat) (j:Nat):(k:Int)+(j:Int)=((k+j:Nat):Int):=aA
def opM:Array MapEntry:= #[⟨.int .u8 43,.func (.func 181) #[] #[],0⟩,⟨.int .u8 45,.func (.func 182) #[] #[],1⟩,⟨.int .u8 42,.func (.func 183) #[] #[],2⟩]
def iu:prog.underlying 242=some (.map 5 (prog.mapElemOf 242)):=aB
def uU8:prog.underlying 5=some (.int .u8):=aB
def O9 (H:PH):Con prog 133 [] H fun v H'=>∃r,H r=none/\v= .map (some r)/\H'=H.put r (.map opM 3):=by
 refine s7 mixed L7 aB rfl (j1 (vf rfl) rfl ?_);rintro v H1 ⟨r,hr,rfl,rfl⟩;refine⟨(fun h=>nomatch h),j1 (vg (r:=r) (key:= .int .u8 43) (val:= .func (.func 181) #[] #[]) (vs:=[.map (some r),.int .u8 43,.func (.func 181) #[] #[]]) (.inl rfl) rfl rfl rfl iu uU8 (Ld uU8 false) (PH.put_self _ _ _) rfl) rfl ?_⟩;rintro v H2 ⟨rfl,rfl⟩;refine⟨(fun h=>nomatch h),j1 (vg (r:=r) (key:= .int .u8 45) (val:= .func (.func 182) #[] #[]) (vs:=[.map (some r),.int .u8 45,.func (.func 182) #[] #[]]) (.inl rfl) rfl rfl rfl iu uU8 (Ld uU8 false) (PH.put_self _ _ _) rfl) rfl ?_⟩;rintro v H3 ⟨rfl,rfl⟩;refine⟨(fun h=>nomatch h),j1 (vg (r:=r) (key:= .int .u8 42) (val:= .func (.func 183) #[] #[]) (vs:=[.map (some r),.int .u8 42,.func (.func 183) #[] #[]]) (.inl rfl) rfl rfl rfl iu uU8 (Ld uU8 false) (PH.put_self _ _ _) rfl) rfl ?_⟩;rintro v H4 ⟨rfl,rfl⟩;refine⟨(fun h=>nomatch h),d4 rfl ⟨r,hr,rfl,?_⟩⟩;rw[PH.put_put,PH.put_put,PH.put_put];rfl
def P0 (a b:Nat) (s:Int) (i:Nat) (f:FuncId) (z:Int) (v:Array Value) (hs:Instr.findNow (.int .u8) (.int .u8 s) opM.toList 0=some (some (i,.func (.func f) #[] #[]))) (he:n8 prog f=true)
  (hd:Det prog f [nm (toI a),nm (toI b)] (.tuple #[.agg v,.bool (decide (M<=z.natAbs))])) (hv:v.size=9) (h1:j0 v) (hz:z.natAbs<M->Value.agg v=nm z):Det prog 85 [wd a,wd b,.int .u8 s] (Ce z):=by
 have hM:=Jm;refine E2 (s7 mixed L8 aB rfl (b4 ⟨words_size a,words_one a⟩ (b4 ⟨words_size b,words_one b⟩ (f0 (O9 _) rfl ?_))));rintro m H1 ⟨r,hr,rfl,rfl⟩;refine⟨fun _=>PH.le_put hr _,j8 (E4 (r:=r) (key:= .int .u8 s) (vs:=[.map (some r),.int .u8 s]) rfl rfl rfl iu uU8 (Ld uU8) (PH.put_self _ _ _) hs) rfl ?_⟩;refine Db (xg a) rfl (Db (xg b) rfl ?_);refine j1 (Aj (f:=f) (caps:= #[]) (vs:=[nm (toI a),nm (toI b)]) rfl rfl rfl he (hd.con _)) rfl ?_;rintro u H2 ⟨rfl,rfl⟩;refine⟨fun _=>Pl.refl _,b4 ⟨_,rfl,eM _⟩ (b4 ⟨_,rfl,bW _⟩ (b4 ⟨hv,h1⟩ (b4 ⟨_,rfl⟩ (g6 rfl (fun h=> ?_) (fun h=> ?_)))))⟩
 ·have h:=oDt h;refine d4 rfl ?_;simp only[rxs,Ab,Ij,Ce];rw[if_neg aA]
 ·have h:=oDf h;have vL:=hz aA;obtain⟨p,q,hf⟩:=il z;have ht:=JG z aA;rw[hf]at ht⊢;refine Db ht ?_ (b4 ⟨_,rfl,eM _⟩ (b4 ⟨_,rfl,bW _⟩ (b4 ⟨words_size _,words_one _⟩ (d4 rfl rfl))));show[Value.agg v]=_;rw[vL]
def P1 (a b:Nat):Det prog 32 [wd a,wd b] (Ce (toI a+toI b)):=by
 obtain⟨v,hd,hs,h1,hv⟩:=N7 (toI a) (toI b) (Vk a) (Vk b);have hb:=P0 a b 43 0 _ _ v rfl aB hd hs h1 hv;obtain⟨p,q,hf⟩:=il (toI a+toI b);rw[hf]at hb⊢;exact Dk mixed M0 aB rfl (i6 ⟨words_size a,words_one a⟩ (i6 ⟨words_size b,words_one b⟩ (Dl hb rfl (i6 ⟨_,rfl,eM _⟩ (i6 ⟨_,rfl,bW _⟩ (i6 ⟨words_size _,words_one _⟩ (Ah rfl rfl)))))))
def JQ (n:Int):wQ .u64 n=((n%18446744073709551616).toNat:Int):=by
 rw[IntKind.wrap_u64];omega
def JR (u:Nat):spl (words 0) 0 [.int .u64 (u:Int)]=wf fun j=>if j=0 then u else 0:=by
 refine Eq.trans (Zb (dig 0) (show 0<8 by omega) u) (Le fun i _=> ?_);rw[Za]
def iy (n:Int) (h0: -9223372036854775808<=n) (h1:n<9223372036854775808):Det prog 33 [.int .i64 n] (iw n):=by
 have hw:=O1 (n:=n) aA aA;refine Dk mixed L9 aB rfl (i6 ⟨n,rfl⟩ (Ap (b:=decide (n<0)) rfl (fun h=> ?_) (fun h=> ?_)))
 ·have hn:=oDt h;refine⟨fun l=>∃k,1<=k/\k<=8/\l=[.int .i64 (k:Nat),.agg (wf fun j=>if j<k then(if j=0 then(n%18446744073709551616).toNat else 18446744073709551615)else 0)],fun l=>(8-intOf (l.getD 0 undef)).toNat,⟨1,aA,aA,?_⟩,?_⟩
  ·simp only[rxs,Ij,JQ,JR];congr 3
  ·rintro vals-⟨k,hk1,hk,rfl⟩;refine i6 ⟨_,rfl⟩ (Ap (b:=decide ((k:Int)<8)) rfl (fun h=> ?_) (fun h=> ?_))
   ·have hk:k<8:=by simp at h;omega
    have e3:wQ .i64 ((k:Int)+1)=((k+1:Nat):Int):=Ry (k+1) aA;refine i6 ⟨_,_,rfl⟩ (i6 ⟨?_,?_⟩ ?_)
    ·show(0:Int)<=(k:Int);omega
    ·show(k:Int)<8;omega
    ·refine⟨⟨k+1,aA,aA,?_⟩,?_⟩
     ·have:=Zb (fun j=>if j<k then(if j=0 then(n%18446744073709551616).toNat else 18446744073709551615)else 0) hk 18446744073709551615;simp only[rxs,e3];rw[show(18446744073709551615:Int)=((18446744073709551615:Nat):Int)from rfl,this];congr 3;refine Le fun i _=> ?_;by_cases e:i=k
      ·subst e;rw[if_pos rfl,if_pos (show i<i+1 by omega),if_neg (show ¬i=0 by omega)]
      ·rw[if_neg e];by_cases e':i<k
       ·rw[if_pos e',if_pos (show i<k+1 by omega)]
       ·rw[if_neg e',if_neg (show ¬i<k+1 by omega)]
     ·simp only[rxs,e3];omega
   ·have hk:k=8:=by simp at h;omega
    subst hk;refine Ah rfl ?_;simp only[rxs,Ab,iw,wd,hw];congr 1;exact Le fun i hi=>by rw[if_pos hi,if_pos hn]
 ·have hn:=oDf h;refine Ah rfl ?_;simp only[rxs,Ab,Ij,JQ,JR,iw,wd,hw];congr 1;exact Le fun i hi=>by rw[if_neg hn]
def Zj {a b:Nat} (h:a+b<9223372036854775808):wQ .i64 ((a:Int)+(b:Int))=((a+b:Nat):Int):=by rw[IntKind.wrap_i64];omega
def Ll {a:Nat} (h:a+1<9223372036854775808):wQ .i64 ((a:Int)+1)=((a+1:Nat):Int):=by rw[IntKind.wrap_i64];omega
def JS {a:Nat} (h:a<9223372036854775808) (hb:1<=a):wQ .i64 ((a:Int)-1)=((a-1:Nat):Int):=by rw[IntKind.wrap_i64];omega
def Ln {z:Int} (h: -9223372036854775808<=z) (h2:z<9223372036854775808):wQ .i64 z=z:=by rw[IntKind.wrap_i64];omega
section
variable {H:PH} {v:Value} {l:List Nat}
def sn (b:Bool) (n:Nat):Int:=if b then -(n:Int)else n
end
open Go.RowKit Go.RX Go.WD
def wu {a:Nat} (h:a<18446744073709551616):wQ .u64 (a:Int)=(a:Int):=by rw[IntKind.wrap_u64];omega
def uvL (d:Nat):Value:= .int .u64 (d:Nat)
def P2 (f:Nat->Value) (d:Nat):Instr.fill (fun j=>some (j*1,1)) ((Array.range (1*1)).map f) [(0,uvL d)]=some #[uvL d]:=by
 rw[M9];simp[Instr.fill,uvL,IE]
def Es (H:PH) (v:Value) (l:List Nat):Prop:=Sl H 1 v l.length (l.map uvL)/\Eg l
def Eo (H0 H:PH) (v:Value) (l:List Nat):Prop:=OwS H0 H 49 1 v l.length (l.map uvL)/\Eg l
def Es.mono {H H':PH} {v:Value} {l:List Nat} (h:Es H v l) (hl:Pl H H'):Es H' v l:=⟨h.1.mono hl,h.2⟩
def Eo.mono {H0 H H':PH} {v:Value} {l:List Nat} (h:Eo H0 H v l) (hl:Pl H H'):Eo H0 H' v l:=⟨h.1.mono hl,h.2⟩
def Eo.es {H0 H:PH} {v:Value} {l:List Nat} (h:Eo H0 H v l):Es H v l:=⟨h.1.sl,h.2⟩
def Mu (H:PH) (v:Value) (n:Nat):Prop:=∃l,Es H v l/\Um l/\ul l=n
def Mu.mono {H H':PH} {v:Value} {n:Nat} (h:Mu H v n) (hl:Pl H H'):Mu H' v n:=by
 obtain⟨l,h1,h2⟩:=h;exact⟨l,h1.mono hl,h2⟩
def Es.cells {H:PH} {v:Value} {l:List Nat} (h:Es H v l):v.cells= #[v]:=by
 obtain⟨⟨_,a,c,h2,_⟩,_⟩:=h;rw[h2];rfl
def Es.one {H:PH} {v:Value} {l:List Nat} (h:Es H v l):v.cells.size=1/\j0 v.cells:=by
 rw[h.cells];obtain⟨⟨_,a,c,h2,_⟩,_⟩:=h;refine⟨rfl,fun c hc=> ?_⟩;simp at hc;rw[hc,h2];rfl
def P3 {l:List Nat} {i:Nat} (h:i<l.length):((l.map uvL).drop (i*1)).take 1=[uvL (l.getD i 0)]:=by
 rw[fY,<-List.map_drop,ij h];rfl
def Vo:prog.cellsOf 49=1:=aB
def Lo:r9 prog 49=true:=aB
def JU:r8 prog 49=false:=aB
def Lq:prog.underlying 104=some (.slice 49):=aB
def iz:∃i,prog.info? 49=some i/\i.zero=some (.int .u64 0)/\i.size=1/\i.bytes=8:=by
 refine⟨(prog.info? 49).getD default,aB,aB,aB,aB⟩
section
variable {G Xp:Value->PH->Prop} {nx:List (List Value->PH->Prop)} {ρ:List Value} {H H0:PH} {o o1 o2:Oper} {x y x2 y2:Operand} {id i id2 i2:Nat} {args args2:List SV} {t:Tree} {v:Value} {l:List Nat}
def Ak (ho:o.op= .call ⟨.builtin .len,#[x],#[104]⟩) (hx:e8 [x] [v] x=v) (h:Es H v l) (ha:args.map (D prog ρ)=[v]) (n:den prog G Xp t nx (ρ++[iv l.length]) H):den prog G Xp (.prim id i o args t) nx ρ H:=
 j8 ((vi ho hx Lq h.1).rds H) ha n
def Do {k:IntKind} {j:Nat} (tU:o1.op= .indexAddr 104 x y) (tV:o2.op= .load 49 x2) (hx:e8 [x,y] [v,.int k (j:Nat)] x=v) (hy:e8 [x,y] [v,.int k (j:Nat)] y= .int k (j:Nat)) (sD:∀p,e8 [x2] [p] x2=p) (h:Es H v l) (hj:j<l.length)
  (ha:args.map (D prog ρ)=[v,.int k (j:Nat)]) (sV:∀p,args2.map (D prog (ρ++[p]))=[p]) (n:∀p,den prog G Xp t nx (ρ++[p]++[uvL (l.getD j 0)]) H):den prog G Xp (.prim id i o1 args (.prim id2 i2 o2 args2 t)) nx ρ H:=by
 obtain⟨b,q,cs,T',fz,h1,h2,h3,h4⟩:=vj (P:=prog) tU hx hy Lq Lo Vo Nat.zero_lt_one h.1 hj;rw[P3 hj]at h4;exact j8 (h1.rds H) ha (j8 (vo tV (sD _) h2 Lo JU Vo h3 h4) (sV _) (n _))
def Lr {k:IntKind} {j d:Nat} {pf:Bool} (tU:o1.op= .indexAddr 104 x y) (tV:o2.op= .store 49 x2 y2) (hx:e8 [x,y] [v,.int k (j:Nat)] x=v) (hy:e8 [x,y] [v,.int k (j:Nat)] y= .int k (j:Nat)) (sD:∀p,e8 [x2,y2] [p,uvL d] x2=p) (hy2:∀p,e8 [x2,y2] [p,uvL d] y2=uvL d)
  (pY:Pl H0 H) (h:Eo H0 H v l) (hj:j<l.length) (hd:d<18446744073709551616) (ha:args.map (D prog ρ)=[v,.int k (j:Nat)]) (sV:∀p,args2.map (D prog (ρ++[p]))=[p,uvL d]) (vC:pf=false)
  (n:∀p u H',Pl H0 H'->Eo H0 H' v (l.set j d)->(∃g ob,H0 g=none/\H'=H.put g ob)->den prog G Xp t nx (ρ++[p]++[u]) H'):den prog G Xp (.prim id i o1 args (.eff pf id2 i2 o2 args2 t)) nx ρ H:=by
 obtain⟨⟨qC,hv⟩,hD⟩:=h;rcases hv with⟨_,h0⟩|⟨g,cap,cur,rfl,vX,hg,hnc,uW,qR,htk⟩
 ·omega
 rw[fY]at qR htk;have hix:=vd (P:=prog) (m:=(j:Int)) (n:=l.length) tU hx hy Lq Lo aA aA;rw[bU,Vo,bJ,fY]at hix;refine j8 (hix.rds H) ha (j1 (Yy tV (sD _) (hy2 _) hg Lo (by rw[Vo];omega) (by rw[Vo];rfl) (wi _ _)) (sV _) ?_);rintro u H' ⟨rfl,rfl⟩;subst vC;have sR:(uvL d).cells.toList=[uvL d]:=rfl;rw[sR];refine⟨fun h=>(nomatch h),n _ _ _ ?_ ⟨⟨aD,.inr ⟨g,cap,_,by rw[cX],vX,PH.put_self _ _ _,by rw[cX];exact hnc,uW,?_,?_⟩⟩,hD.set j hd⟩ ⟨g,_,vX,rfl⟩⟩
 ·intro k ob hk;rw[PH.put_ne _ _ (fun e=>by rw[e,vX]at hk;cases hk)];exact pY _ _ hk
 ·show(cur.setIfInBounds j (uvL d)).size=_;rw[Array.size_setIfInBounds,qR,fY]
 ·show(cur.setIfInBounds j (uvL d)).toList.take _=_;rw[Array.toList_setIfInBounds,fY,cX,List.take_set,htk,List.map_set]
def JV {g n:Nat} {cs:Array Value} {l:List Nat} (hg:H g=none) (hl:l.length=n) (hn:n<=maxLen) (hc:cs.toList=l.map uvL) (hD:Eg l):Eo H (H.put g (.cells cs 49 (0,0))) (.slice (some ⟨g,0,none⟩) n n) l:=by
 have hs:cs.size=n:=by rw[<-bA,hc,aR,hl]
 refine⟨⟨aD,.inr ⟨g,n,cs,by rw[hl],hg,PH.put_self _ _ _,aA,hn,aA,?_⟩⟩,hD⟩;rw[hc,aI aD]
def Zl {kl kc:IntKind} {pf:Bool} {m:Nat} (ho:o.op= .makeSlice 104 x y) (hx:e8 [x,y] [.int kl (m:Nat),.int kc (m:Nat)] x= .int kl (m:Nat)) (hy:e8 [x,y] [.int kl (m:Nat),.int kc (m:Nat)] y= .int kc (m:Nat)) (hm:m<=1000000) (ha:args.map (D prog ρ)=[.int kl (m:Nat),.int kc (m:Nat)])
  (n:∀v H',Pl H H'->Eo H H' v (eS m 0)->den prog G Xp t nx (ρ++[v]) H'):den prog G Xp (.eff pf id i o args t) nx ρ H:=by
 obtain⟨ti,h1,h2,h3,h4⟩:=iz;refine j1 (vu ho hx hy Lq h1 h2 h3 (by rw[h4];omega) (by simp only[maxLen];omega)) ha ?_;rintro v H' ⟨g,hg,rfl,rfl⟩;refine⟨fun _=>PH.le_put hg _,n _ _ (PH.le_put hg _) (JV hg aD (by simp only[maxLen];omega) ?_ (Eg.zeros m))⟩;rw[fY];show(madeCells #[.int .u64 0] m).toList=_;apply bP;intro j;rw[aX,dI];simp only[madeCells,dR,aX,Array.toList_range];by_cases hj:j<m
 ·simp[hj,Nat.mod_one,uvL]
 ·simp[hj]
def JW {d:Nat} {pf:Bool} (ho:o.op= .buildSlice 104 1 #[(0,x)]) (hx:e8 [x] [uvL d] x=uvL d) (hd:d<18446744073709551616) (ha:args.map (D prog ρ)=[uvL d])
  (n:∀v H',Pl H H'->Eo H H' v [d]->den prog G Xp t nx (ρ++[v]) H'):den prog G Xp (.eff pf id i o args t) nx ρ H:=by
 obtain⟨ti,h1,h2,h3,h4⟩:=iz;refine j1 (vw (cells:= #[uvL d]) ho Lq h1 h2 (by rw[h3];decide) (by rw[h3];decide) (by rw[h3];simp only[bI,bR,hx];exact P2 _ d)) ha ?_;rintro v H' ⟨g,hg,rfl,rfl⟩;exact⟨fun _=>PH.le_put hg _,n _ _ (PH.le_put hg _) (JV hg rfl (by simp only[maxLen];omega) rfl (Eg.one hd))⟩
end
def P4:d9 prog [] [] [⟨3,2,[17],[]⟩,⟨0,2,[],[]⟩] [] 140=some (.pm f140 1 1 [V1]
(.loop [V2]
(.join 1
(.ri V3
(.br (.io .gtr V3 (.ki 0))
(.pm f140 2 6 [V1,(.io .sub V3 (.ki 1))]
(.pm f140 2 7 [V4]
(.ru V5
(.next 1 [(.uo .eql V5 (kU 0))])))) (.next 1 [(.k (.bool false))]))) (.rq (.bool V4) (.br V4
(.ri V3
(.next 0 [(.io .sub V3 (.ki 1))])) (.rq (.bool V0) (.br V0
(.ri V3
(.pm f140 4 7 [V1,V3]
(.rq (.cells 1 V5) (.ret [(.cat (.io .gtr V3 (.ki 0)) 1 V5)]))))
(.pm f140 4 7 [V1,V3]
(.rq (.cells 1 V5) (.ret [(.cat (.k (.bool false)) 1 V5)])))))))))):=aB
def P5:(opr f140 4 7).op= .slice 104 (.tmp 25) none (some (.tmp 26)) none:=aB
def P6:d9 prog [3] [] [] [⟨2,[0,1,0,0,8,28,63,127],rDx 8 62211211,rPx 7 0++[1],rDx 7 6524310,[7]⟩] 93=some (.rq (.cells 8 V0) (.call false 134 [(.ag V0)]
(.pub 239 (.z 239)
(.ef false f93 1 3 [V2,V1]
(.pm f93 2 0 [V2]
(.pm f93 2 1 [V4]
(.pm f93 2 3 [V2]
(.pm f93 2 4 [V6]
(.ef true f93 2 2 []
(.ef true f93 2 5 [V8,V7]
(.call true 140 [V5,V9]
(.rq (.cells 2 V10) (.ret [(.ag V10)]))))))))))))):=aB
def P7:d9 prog [] [] [] [] 90=some (.call false 33 [V0]
(.call false 93 [V1]
(.rq (.cells 2 V2) (.ret [(.ag V2)])))):=aB
def P8:d9 prog [4] [] [] [⟨4,[0,1,0,4,15],[1,1,1,1,4],[0,0,0,0,0],[0,1,2,3],[4]⟩] 111=some (.rq (.cells 2 V0)
(.pm f111 1 2 [(.cell V0 1 0 noI)]
(.ri V1
(.br (.io .gtr V1 (.ki 8)) (.ret [(.z 51),(.ki 6)]) (.rq (.cells 1 (.cell V0 0 0 noI)) (.pub 239 (.z 239)
(.ef false f111 3 4 [V2,(.cat (.cell V0 0 0 noI) 1 (.z 237))]
(.pm f111 4 0 [V2]
(.pm f111 4 1 [V4]
(.ef false f111 4 4 [V5,(.cell V0 1 0 noI)]
(.pm f111 5 0 [V2]
(.call false 135 [V7]
(.rq (.tup 0 V8) (.rq (.tup 1 V8) (.rq (.cells 8 (.pj V8 0)) (.ret [(.ag (.pj V8 0)),(.pj V8 1)])))))))))))))))):=aB
def P9:(opr f111 3 4).op= .store 239 (.tmp 4) (.tmp 12):=aB
def Q0:d9 prog [] [] [⟨0,4,[],[]⟩] [⟨6,[0,0,3,7,0,0,48,112,255,511],rDx 10 11001100,rPx 10 0,rAx 0 10,[]⟩,⟨8,[0,0,3,7,0,0,48,112,255,511],rDx 10 11001100,rPx 10 0,rAx 0 10,[]⟩] 158=some (.pm f158 1 1 [V0]
(.pm f158 1 3 [V1]
(.ri V2
(.ri V3
(.br (.io .neq V2 V3)
(.pm f158 2 1 [V0]
(.pm f158 2 3 [V1]
(.ri V4
(.ri V5
(.ret [(.io .sub V4 V5)])))))
(.pm f158 3 1 [V0]
(.ri V4
(.loop [(.ki 0),(.io .sub V4 (.ki 1))]
(.ri V6
(.br (.io .geq V6 (.ki 0))
(.pm f158 6 2 [V0,V6]
(.pm f158 6 3 [V7]
(.pm f158 6 6 [V1,V6]
(.pm f158 6 7 [V9]
(.ru V8
(.ru V10
(.br (.uo .lss V8 V10) (.ret [(kI (-1))])
(.pm f158 8 2 [V0,V6]
(.pm f158 8 3 [V11]
(.pm f158 8 6 [V1,V6]
(.pm f158 8 7 [V13]
(.ru V12
(.ru V14
(.br (.uo .gtr V12 V14) (.ret [(.ki 1)]) (.next 0 [V5,(.io .sub V6 (.ki 1))]))))))))))))))) (.ret [(.ki 0)]))))))))))):=aB
def Q1:d9 prog [] [] [⟨2,14,[0,1],[]⟩,⟨2,31,[9],[]⟩,⟨0,6,[],[]⟩] [] 157=some (.pm f157 1 1 [V0]
(.pm f157 1 3 [V1]
(.ri V2
(.ri V3
(.join 2
(.br (.io .lss V2 V3) (.next 0 [V1,V0]) (.next 0 [V0,V1]))
(.pm f157 3 1 [V4]
(.ri V6
(.ef false f157 3 3 [(.io .add V6 (.ki 1)),(.io .add V6 (.ki 1))]
(.pm f157 5 1 [V4]
(.loop [(kU 0),(.ki 0)]
(.ri V10
(.ri V8
(.br (.io .lss V10 V8)
(.pm f157 7 1 [V4,V10]
(.pm f157 7 2 [V11]
(.pm f157 9 2 [V5]
(.ri V13
(.join 1
(.br (.io .lss V10 V13)
(.pm f157 10 2 [V5,V10]
(.pm f157 10 3 [V14]
(.next 1 [V15]))) (.next 1 [(kU 0)])) (.ext 200 [V12,V14,V9]
(.rq (.tup 0 V15) (.rq (.tup 1 V15)
(.pm f157 11 9 [V7,V10]
(.ef false f157 11 10 [V16,(.pj V15 0)]
(.next 0 [(.pj V15 1),(.io .add V10 (.ki 1))])))))))))))
(.pm f157 13 2 [V4]
(.pm f157 13 4 [V7,V11]
(.ef false f157 13 5 [V12,V9]
(.ret [V7]))))))))))))))))):=aB
def Q4:d9 prog [] [] [⟨2,23,[9],[]⟩,⟨0,4,[],[]⟩] [] 159=some (.pm f159 1 1 [V0]
(.ef false f159 1 2 [V2,V2]
(.pm f159 3 1 [V0]
(.loop [(kU 0),(.ki 0)]
(.ri V6
(.ri V4
(.br (.io .lss V6 V4)
(.pm f159 5 1 [V0,V6]
(.pm f159 5 2 [V7]
(.pm f159 7 2 [V1]
(.ri V9
(.join 1
(.br (.io .lss V6 V9)
(.pm f159 8 2 [V1,V6]
(.pm f159 8 3 [V10]
(.next 1 [V11]))) (.next 1 [(kU 0)])) (.ext 218 [V8,V10,V5]
(.rq (.tup 0 V11) (.rq (.tup 1 V11)
(.pm f159 9 9 [V3,V6]
(.ef false f159 9 10 [V12,(.pj V11 0)]
(.next 0 [(.pj V11 1),(.io .add V6 (.ki 1))]))))))))))) (.ret [V3])))))))):=aB
def Q5:d9 prog [] [] [⟨0,3,[],[]⟩,⟨0,7,[],[]⟩] [] 141=some (.pm f141 1 1 [V0]
(.pm f141 1 3 [V1]
(.ri V2
(.ri V3
(.ef false f141 1 5 [(.io .add V2 V3),(.io .add V2 V3)]
(.pm f141 2 1 [V0]
(.loop [(.ki 0)]
(.ri V6
(.ri V5
(.br (.io .lss V6 V5)
(.pm f141 4 1 [V0,V6]
(.pm f141 4 2 [V7]
(.pm f141 6 1 [V1]
(.loop [(kU 0),(.ki 0)]
(.ri V11
(.ri V9
(.br (.io .lss V11 V9)
(.pm f141 8 1 [V1,V11]
(.pm f141 8 2 [V12]
(.call false 199 [V8,V13]
(.rq (.tup 0 V14) (.rq (.tup 1 V14)
(.pm f141 10 4 [V4,(.io .add V6 V11)]
(.pm f141 10 5 [V15]
(.ext 200 [V16,(.pj V14 1),(kU 0)]
(.rq (.tup 0 V17) (.rq (.tup 1 V17) (.ext 200 [(.pj V17 0),V10,(kU 0)]
(.rq (.tup 0 V18) (.rq (.tup 1 V18) (.rq (.int .u64 (.pj V14 0)) (.rq (.int .u64 (.pj V17 1)) (.rq (.int .u64 (.pj V18 1))
(.pm f141 12 10 [V4,(.io .add V6 V11)]
(.ef false f141 12 11 [V19,(.pj V18 0)]
(.next 1 [(.uo .add (.uo .add (.pj V14 0) (.pj V17 1)) (.pj V18 1)),(.io .add V11 (.ki 1))])))))))))))))))))))
(.pm f141 14 3 [V1]
(.ri V12
(.pm f141 14 6 [V4,(.io .add V6 V12)]
(.ef false f141 14 7 [V13,V10]
(.next 0 [(.io .add V6 (.ki 1))])))))))))))) (.ret [V4]))))))))))):=aB
def Q6:d9 prog [] [] [] [] 197=some (.pm f197 1 1 [V0]
(.ri V1
(.br (.io .eql V1 (.ki 0)) (.ret [(.ki 0)])
(.pm f197 3 1 [V0]
(.ri V2
(.pm f197 3 5 [V0]
(.ri V3
(.pm f197 3 7 [V0,(.io .sub V3 (.ki 1))]
(.pm f197 3 8 [V4]
(.call false 256 [V5]
(.ri V6
(.ret [(.io .sub (.io .mul (.ki 64) V2) V6)])))))))))))):=aB
@[reducible] def z5_:SV:= .io .add V5 (.io .quo V1 (.ki 64))
def Q7:d9 prog [] [] [⟨0,3,[],[]⟩] [⟨5,[0,0,0,4,14,31,63,0,0,256,896,2047,4095,8191],rDx 12 1100000++[1,4],rPx 14 0,rAx 0 13,[13]⟩] 198=some (.pm f198 1 1 [V0]
(.ri V1
(.ri V2
(.ef false f198 1 6 [(.io .add (.io .add V2 (.io .quo V1 (.ki 64))) (.ki 1)),(.io .add (.io .add V2 (.io .quo V1 (.ki 64))) (.ki 1))]
(.pm f198 2 1 [V0]
(.loop [(.ki 0)]
(.ri V5
(.ri V4
(.br (.io .lss V5 V4)
(.pm f198 4 1 [V0,V5]
(.pm f198 4 2 [V6]
(.pm f198 5 5 [V3,z5_]
(.pm f198 5 6 [V8]
(.ru V7
(.rq (.nn (.io .rem V1 (.ki 64)))
(.ru V9
(.pm f198 5 12 [V3,z5_]
(.ef false f198 5 13 [V10,(.uo .or V9 (.uo .shl V7 (.io .rem V1 (.ki 64))))]
(.br (.io .gtr (.io .rem V1 (.ki 64)) (.ki 0)) (.rq (.nn (.io .sub (.ki 64) (.io .rem V1 (.ki 64))))
(.pm f198 7 11 [V3,(.io .add z5_ (.ki 1))]
(.ef false f198 7 12 [V12,(.uo .shr V7 (.io .sub (.ki 64) (.io .rem V1 (.ki 64))))]
(.next 0 [(.io .add V5 (.ki 1))])))) (.next 0 [(.io .add V5 (.ki 1))]))))))))))) (.call false 140 [(.k (.bool false)),V3]
(.rq (.agg 2 V6) (.ret [(.cell V6 1 0 noI)])))))))))))):=aB
def Q8:d9 prog [] [] [⟨0,5,[],[]⟩,⟨0,11,[],[]⟩] [⟨7,rPx 5 0++[24,56,0,128,384,1020,2044,4092,4092,8191,24575,65535],rDx 17 4100021101100000,rPx 17 0,rAx 0 15,[15,16]⟩,⟨16,[0,0,2,7,15,0,32,96,255,511,1023],rDx 9 11000++[1,4],rPx 11 0,rAx 0 10,[10]⟩] 138=some (.pm f138 1 1 [V0]
(.ef false f138 1 2 [V2,V2]
(.pm f138 2 1 [V1]
(.ri V4
(.br (.io .eql V4 (.ki 1))
(.pm f138 4 1 [V0]
(.ri V5
(.loop [(kU 0),(.io .sub V5 (.ki 1))]
(.ri V7
(.br (.io .geq V7 (.ki 0))
(.pm f138 7 5 [V0,V7]
(.pm f138 7 6 [V8]
(.pm f138 7 8 [V1,(.ki 0)]
(.pm f138 7 9 [V10]
(.call true 196 [V6,V9,V11]
(.rq (.tup 0 V12) (.rq (.tup 1 V12)
(.pm f138 7 14 [V3,V7]
(.ef false f138 7 15 [V13,(.pj V12 0)]
(.next 0 [(.pj V12 1),(.io .sub V7 (.ki 1))]))))))))))
(.ef false f138 8 2 [V6]
(.call false 140 [(.k (.bool false)),V8]
(.rq (.agg 2 V9) (.ret [V3,(.cell V9 1 0 noI)]))))))))) (.call false 197 [V0]
(.call false 197 [V1]
(.ri V5
(.ri V6
(.loop [V0,(.io .sub V5 V6)]
(.ri V8
(.br (.io .geq V8 (.ki 0)) (.call false 198 [V1,V8]
(.call false 158 [V7,V9]
(.ri V10
(.br (.io .geq V10 (.ki 0)) (.call false 159 [V7,V9]
(.call false 140 [(.k (.bool false)),V11]
(.rq (.agg 2 V12)
(.pm f138 16 3 [V3,(.io .quo V8 (.ki 64))]
(.pm f138 16 4 [V13]
(.rq (.nn (.io .rem V8 (.ki 64)))
(.ru V14
(.pm f138 16 9 [V3,(.io .quo V8 (.ki 64))]
(.ef false f138 16 10 [V15,(.uo .or V14 (.uo .shl (kU 1) (.io .rem V8 (.ki 64))))]
(.next 0 [(.cell V12 1 0 noI),(.io .sub V8 (.ki 1))])))))))))) (.next 0 [V7,(.io .sub V8 (.ki 1))]))))) (.ret [V3,V7]))))))))))))):=aB
def Q9:d9 prog [] [] [] [] 156=some (.rq (.cells 2 V0) (.rq (.bool (.cell V0 0 0 noI)) (.call false 140 [(.nt (.cell V0 0 0 noI)),(.cell V0 1 0 noI)]
(.rq (.cells 2 V1) (.ret [(.ag V1)]))))):=aB
def R0:d9 prog [] [] [] [⟨2,[0,1,0,4,0,16,60,127,255],rDx 9 622111111,rPx 8 0++[2],rAx 0 8,[8]⟩,⟨5,[0,1,0,4,0,16,60,127,255],rDx 9 622111111,rPx 8 0++[2],rAx 0 8,[8]⟩] 110=some (.rq (.cells 2 V0) (.rq (.cells 2 V1) (.rq (.bool (.cell V0 0 0 noI)) (.rq (.bool (.cell V1 0 0 noI)) (.br (.eqb false (.cell V0 0 0 noI) (.cell V1 0 0 noI)) (.call true 157 [(.cell V0 1 0 noI),(.cell V1 1 0 noI)]
(.call true 140 [(.cell V0 0 0 noI),V2]
(.rq (.cells 2 V3) (.ret [(.ag V3)])))) (.call false 158 [(.cell V0 1 0 noI),(.cell V1 1 0 noI)]
(.ri V2
(.br (.io .lss V2 (.ki 0)) (.call true 159 [(.cell V1 1 0 noI),(.cell V0 1 0 noI)]
(.call true 140 [(.cell V1 0 0 noI),V3]
(.rq (.cells 2 V4) (.ret [(.ag V4)])))) (.call true 159 [(.cell V0 1 0 noI),(.cell V1 1 0 noI)]
(.call true 140 [(.cell V0 0 0 noI),V3]
(.rq (.cells 2 V4) (.ret [(.ag V4)])))))))))))):=aB
def R1:d9 prog [] [] [] [⟨1,[0,0,2,7,15],[5,5,2,2,6],[0,1,0,0,2],[0,1,2,3],[4]⟩] 139=some (.rq (.cells 2 V0) (.rq (.cells 2 V1) (.call true 156 [(.ag V1)]
(.call true 110 [(.ag V0),V2]
(.rq (.cells 2 V3) (.ret [(.ag V3)])))))):=aB
def R2:d9 prog [] [] [] [⟨1,[0,1,0,4,15,0,32,0,128,480,1023,2047],rDx 12 622111101111,rPx 11 0++[2],rAx 0 11,[11]⟩] 94=some (.rq (.cells 2 V0) (.rq (.cells 2 V1) (.rq (.bool (.cell V0 0 0 noI)) (.rq (.bool (.cell V1 0 0 noI)) (.call true 141 [(.cell V0 1 0 noI),(.cell V1 1 0 noI)]
(.call true 140 [(.eqb true (.cell V0 0 0 noI) (.cell V1 0 0 noI)),V2]
(.rq (.cells 2 V3) (.ret [(.ag V3)])))))))):=aB
def R3:d9 prog [] [] [] [⟨2,[0,1,0,4,15,0,63,0,128,0,1023,2047,4095],rDx 13 6620112001111,rPx 11 0++[2,3],rAx 0 6++[7,8,9,6,10],[11,12]⟩,⟨8,[0,0,1,7],[5,5,6,6],[2,3,2,3],[0,1],[2,3]⟩] 155=some (.rq (.cells 2 V0) (.rq (.cells 2 V1) (.call false 138 [(.cell V0 1 0 noI),(.cell V1 1 0 noI)]
(.rq (.tup 0 V2) (.rq (.tup 1 V2) (.rq (.bool (.cell V0 0 0 noI)) (.rq (.bool (.cell V1 0 0 noI)) (.call true 140 [(.eqb true (.cell V0 0 0 noI) (.cell V1 0 0 noI)),(.pj V2 0)]
(.call true 140 [(.cell V0 0 0 noI),(.pj V2 1)]
(.rq (.cells 2 V3) (.rq (.cells 2 V4) (.rq (.bool (.cell V4 0 0 noI)) (.br (.cell V4 0 0 noI) (.rq (.cells 1 (.cell V1 1 0 noI)) (.call false 110 [(.ag V4),(.cat (.z 4) 1 (.cell V1 1 0 noI))]
(.rq (.cells 2 V5)
(.ef false f155 6 3 [(kU 1)]
(.rq (.cells 1 V6) (.call false 110 [(.ag V3),(.cat (.nt (.cell V1 0 0 noI)) 1 V6)]
(.rq (.cells 2 V7) (.ret [(.ag V7),(.ag V5)])))))))) (.ret [(.ag V3),(.ag V4)])))))))))))))):=aB
def R4:d9 prog [] [] [⟨0,2,[],[]⟩] [⟨1,[0,1,0,4,3,31],[1,1,1,1,0,0],[0,0,0,0,0,0],[0,1,2,3,4,5],[]⟩] 91=some (.rq (.cells 2 V0) (.rq (.cells 2 V1) (.loop [(.cell V0 1 0 noI),(.cell V1 1 0 noI)]
(.pm f91 2 1 [V3]
(.ri V4
(.br (.io .gtr V4 (.ki 0)) (.call false 138 [V2,V3]
(.rq (.tup 0 V5) (.rq (.tup 1 V5) (.next 0 [V3,(.pj V5 1)])))) (.rq (.cells 1 V2) (.ret [(.cat (.z 4) 1 V2)])))))))):=aB
def R5:d9 prog [] [] [] [] 37=some (.rq (.cells 2 V0) (.rq (.bool (.cell V0 0 0 noI)) (.br (.cell V0 0 0 noI) (.ret [(kI (-1))])
(.pm f37 3 2 [(.cell V0 1 0 noI)]
(.ri V1
(.br (.io .eql V1 (.ki 0)) (.ret [(.ki 0)]) (.ret [(.ki 1)]))))))):=aB
def R6:d9 prog [] [] [] [] 92=some (.rq (.cells 2 V0) (.rq (.cells 2 V1) (.call false 139 [(.ag V0),(.ag V1)]
(.call false 37 [V2]
(.ret [V3]))))):=aB
def R7 (a:Nat):(a:Int).fdiv (2^min (nW 16) (IntKind.bits .u64))=((a/65536:Nat):Int):=Vm a 16 aA
def R8 (a:Nat):(a:Int).fdiv (2^min (nW 8) (IntKind.bits .u64))=((a/256:Nat):Int):=Vm a 8 aA
def len8:ByteArray:=⟨#[0,1,2,2,3,3,3,3,4,4,4,4,4,4,4,4,5,5,5,5,5,5,5,5,5,5,5,5,5,5,5,5,6,6,6,6,6,6,6,6,6,6,6,6,6,6,6,6,6,6,6,6,6,6,6,6,6,6,6,6,6,6,6,6,7,7,7,7,7,7,7,7,7,7,7,7,7,7,7,7,7,7,7,7,7,7,7,7,7,7,7,7,7,7,7,7,7,7,7,7,7,7,7,7,7,7,7,7,7,7,7,7,7,7,7,7,7,7,7,7,7,7,7,7,7,7,7,7,8,8,8,8,8,8,8,8,8,8,8,8,8,8,8,8,8,8,8,8,8,8,8,8,8,8,8,8,8,8,8,8,8,8,8,8,8,8,8,8,8,8,8,8,8,8,8,8,8,8,8,8,8,8,8,8,8,8,8,8,8,8,8,8,8,8,8,8,8,8,8,8,8,8,8,8,8,8,8,8,8,8,8,8,8,8,8,8,8,8,8,8,8,8,8,8,8,8,8,8,8,8,8,8,8,8,8,8,8,8,8,8,8,8,8,8,8,8,8,8,8,8,8,8,8,8,8,8]⟩
def R9:len8.size=256:=aB
def S0:(List.range 256).all (fun b=>(len8.data.getD b 0).toNat==blen b)=true:=aB
def S1 {b:Nat} (h:b<256):(len8.data.getD b 0).toNat=blen b:=by
 have:=cH.1 S0 b (aW.2 h);simpa using this
def ja (x:Nat) (hx:x<18446744073709551616):Det prog 195 [.int .u64 x] (.int .i64 (blen x)):=by
 refine Dk mixed M7 aB rfl (i6 ⟨_,rfl⟩ ⟨fun l=>∃y n,l=[.int .u64 (y:Nat),.int .i64 (n:Nat)]/\y<4294967296/\n<=32/\n+blen y=blen x,?_,?_⟩)
 ·refine Ap (b:=decide ((x:Int)≥4294967296)) rfl (fun h=> ?_) (fun h=> ?_)
  ·have h:=oDt h;exact⟨x/4294967296,32,by simp only[rxs,ir];rfl,aA,aA,(im (k:=32) aA).symm⟩
  ·have h:=oDf h;exact⟨x,0,rfl,aA,aA,aA⟩
 rintro vals-⟨y,n,rfl,hy,hn,hb⟩;refine i6 ⟨_,rfl⟩ ⟨fun l=>∃y n,l=[.int .u64 (y:Nat),.int .i64 (n:Nat)]/\y<65536/\n<=48/\n+blen y=blen x,?_,?_⟩
 ·refine Ap (b:=decide ((y:Int)≥65536)) rfl (fun h=> ?_) (fun h=> ?_)
  ·have h:=oDt h;have e:=im (x:=y) (k:=16) aA;refine i6 ⟨_,rfl⟩ ⟨y/65536,n+16,?_,aA,aA,?_⟩
   ·have e3:wQ .i64 ((n:Int)+16)=((n+16:Nat):Int):=Ry (n+16) aA;simp only[rxs,R7,e3]
   ·rw[show(2:Nat)^16=65536 from rfl]at e;omega
  ·have h:=oDf h;exact⟨y,n,rfl,aA,aA,hb⟩
 rintro vals-⟨y,n,rfl,hy,hn,hb⟩;refine i6 ⟨_,rfl⟩ ⟨fun l=>∃y n,l=[.int .u64 (y:Nat),.int .i64 (n:Nat)]/\y<256/\n<=56/\n+blen y=blen x,?_,?_⟩
 ·refine Ap (b:=decide ((y:Int)≥256)) rfl (fun h=> ?_) (fun h=> ?_)
  ·have h:=oDt h;have e:=im (x:=y) (k:=8) aA;refine i6 ⟨_,rfl⟩ ⟨y/256,n+8,?_,aA,aA,?_⟩
   ·have e3:wQ .i64 ((n:Int)+8)=((n+8:Nat):Int):=Ry (n+8) aA;simp only[rxs,R8,e3]
   ·rw[show(2:Nat)^8=256 from rfl]at e;omega
  ·have h:=oDf h;exact⟨y,n,rfl,aA,aA,hb⟩
 rintro vals-⟨y,n,rfl,hy,hn,hb⟩;have hu8:IntKind.u8.wrap (y:Int)=(y:Int):=by rw[IntKind.wrap_u8];omega
 have hyl:blen y<=8:=blen_le hy;refine i6 ⟨_,rfl⟩ (IC (IF (s:=len8) (k:= .u8) (m:=y) (vs:=[.string len8,.int .u8 y]) rfl rfl rfl aB (by rw[R9];exact hy)) ?_ ?_)
 ·simp only[rxs,hu8];rfl
 ·rw[S1 hy];refine i6 ⟨_,rfl⟩ (i6 ⟨_,rfl⟩ (Ah ?_ rfl));simp only[rxs,Ab];rw[Ry (blen y) aA,O8,Ry (n+blen y) aA,hb]
def JX (x:Nat) (hx:x<18446744073709551616):Det prog 256 [.int .u64 x] (.int .i64 ((64-blen x:Nat):Int)):=by
 have hl:blen x<=64:=blen_le hx;refine Dk mixed M8 aB rfl (Dl (ja x hx) rfl (i6 ⟨_,rfl⟩ (Ah ?_ rfl)));simp only[rxs,Ab];rw[show(64:Int)-(blen x:Int)=((64-blen x:Nat):Int)from aA,Ry _ aA]
def Zm (a s:Nat) (h:s<=64):wQ .u64 ((a:Int)*2^min s (IntKind.bits .u64))=((a*2^s%18446744073709551616:Nat):Int):=by
 rw[show min s (IntKind.bits .u64)=s from cD h,show(2:Int)^s=((2^s:Nat):Int)from aD,Om,JP]
def Fj (a b:Nat) (h:b<=a) (ha:a<18446744073709551616):wQ .u64 ((a:Int)-(b:Int))=((a-b:Nat):Int):=by
 rw[show(a:Int)-(b:Int)=((a-b:Nat):Int)from aA,As _ aA]
def xm (a b:Nat) (ha:a<18446744073709551616):wQ .u64 ((a:Int).tdiv (b:Int))=((a/b:Nat):Int):=by
 rw[<-oR,As];exact bO (Nat.div_le_self _ _) ha
def qt (u n y1 y0:Nat):Nat:=(u*4294967296+n)/(y1*4294967296+y0)
section
variable {y1 y0 u n q r:Nat}
def jb (hy:y1<4294967296) (h0:y0<4294967296) (hp:0<y1) (hu:u=q*y1+r) (hQ:qt u n y1 y0<q) (hq:q<=4294967297):u=(q-1)*y1+(r+y1)/\qt u n y1 y0<=q-1/\(4294967296<=r+y1->q-1=qt u n y1 y0):=by
 obtain⟨p,rfl⟩:∃p,q=p+1:=⟨q-1,aA⟩;have e:u=p*y1+(r+y1):=by rw[hu,dC,cQ];omega
 refine⟨e,aA,fun hb=> ?_⟩;have h1:p<=qt u n y1 y0:=xk (n:=n) (y0:=y0) e hp (by
  have:p*y0<=4294967296*4294967295:=eH aA aA;omega)
 show p=_;omega
end
def JY {q r y0 n:Nat} (hq:q<4294967296) (hr:r<4294967296) (h0:y0<4294967296) (hn:n<4294967296):q*y0<18446744073709551616/\4294967296*r<18446744073709551616/\4294967296*r+n<18446744073709551616:=by
 have:=eH (show q<=4294967295 by omega) (show y0<=4294967295 by omega);omega
def JZ {u n q y:Nat} (pY:q*y<=u*4294967296+n) (qB:u*4294967296+n-q*y<18446744073709551616):wQ .u64 (wQ .u64 (wQ .u64 (((u*4294967296:Nat):Int))+(n:Int))-wQ .u64 ((q*y:Nat):Int))=((u*4294967296+n-q*y:Nat):Int):=by
 simp only[IntKind.wrap_u64];omega
def KA {a c:Nat} (ha:a<4294967296) (hc:c<4294967296):a*4294967296<18446744073709551616/\a*4294967296+c<18446744073709551616:=aA
def S2 (u n1 n0:Nat):u*18446744073709551616+(n1*4294967296+n0)=(u*4294967296+n1)*4294967296+n0:=aA
def b32:(4294967296:Int)=((4294967296:Nat):Int):=rfl
def one1:(1:Int)=((1:Nat):Int):=rfl
set_option maxHeartbeats 4000000 in
def S3 (hi lo y:Nat) (zD:hi<y) (zF:lo<18446744073709551616) (hy:y<18446744073709551616):Det prog 196 [.int .u64 hi,.int .u64 lo,.int .u64 y] (.tuple #[.int .u64 (((hi*18446744073709551616+lo)/y:Nat):Int),.int .u64 (((hi*18446744073709551616+lo)%y:Nat):Int)]):=by
 refine Dk mixed M6 aB rfl (i6 ⟨_,rfl⟩ (i6 ?_ (i6 ⟨_,rfl⟩ (i6 ?_ ?_))))
 ·show Value.bool ((y:Int)==0)= .bool false;congr 1;simp;omega
 ·show Value.bool (decide ((y:Int)<=(hi:Int)))= .bool false;congr 1;simp;omega
 refine Ap (b:=decide (hi=0)) ?_ (fun h=> ?_) (fun h=> ?_)
 ·show Value.bool ((hi:Int)==0)=_;congr 1;rw[bY];simp
 ·have h:=oDt h;subst h;refine i6 ⟨_,rfl⟩ (i6 ?_ (Ah ?_ rfl))
  ·show(y:Int)≠0;omega
  ·simp only[rxs,Ab,xm lo y zF,bV,bJ,<-kJ]
 have h:=oDf h;obtain⟨l0,l1⟩:=Zi (x:=y) aA;have l2:=Zh y;have l3:blen y<=64:=blen_le hy;obtain⟨s,hs⟩:∃s,s=64-blen y:=⟨_,rfl⟩;have a0w:s<=63:=aA;have uH:0<2^s:=jD aA;have hlz:=JX y hy;rw[<-hs]at hlz;have hY1:y*2^s<18446744073709551616:=by
  have:=Nat.mul_lt_mul_of_lt_of_le l2 (aS (2^s)) uH
  rwa[<-fW,show blen y+s=64 from aA]at this
 have hY0:9223372036854775808<=y*2^s:=by
  have:=bC (2^s) l1
  rwa[<-fW,show blen y-1+s=63 from aA]at this
 have hH:hi*2^s+2^s<=y*2^s:=by
  have:=bC (2^s) zD
  rwa[Nat.succ_mul]at this
 have hL:=JO zF (r:=s) aA;have hU:(hi*18446744073709551616+lo)*2^s=(hi*2^s+lo/2^(64-s))*18446744073709551616+lo*2^s%18446744073709551616:=by
  have e1:lo*2^s/18446744073709551616=lo/2^(64-s):=by
   rw[iq (r:=s) aA,mO _ _ uH]
  have e2:=Nat.div_add_mod (lo*2^s) 18446744073709551616;rw[e1]at e2;rw[dC,dC,nN];omega
 have a0b:=cI (lo*2^s) (show 0<18446744073709551616 by omega);have wR:(hi*2^s%18446744073709551616)|||(lo/2^(64-s))=hi*2^s+lo/2^(64-s):=by
  rw[dV aA,JM hL]
 generalize hYd:y*2^s=Y at hY1 hY0 hH;generalize hUd:hi*2^s+lo/2^(64-s)=u at hU wR;have huY:u<Y:=aA;generalize uA:lo*2^s%18446744073709551616=n at hU a0b;have hYs:Y/4294967296*4294967296+Y%4294967296=Y:=aA;have a0x:2147483648<=Y/4294967296:=aA;have vY:Y/4294967296<4294967296:=aA;have tW:Y%4294967296<4294967296:=cI _ aA;generalize a2d:Y/4294967296=y1 at hYs a0x vY;generalize a4e:Y%4294967296=y0 at hYs tW;have hn1:n/4294967296<4294967296:=aA;have xF:n%4294967296<4294967296:=cI _ aA;generalize a4f:n/4294967296=n1 at hn1;generalize a4g:n%4294967296=n0 at xF;have hnn:n=n1*4294967296+n0:=aA;have hcv:wQ .u64 (s:Int)=(s:Int):=As s aA;have sM:wQ .u64 ((64:Int)-(s:Int))=((64-s:Nat):Int):=by
  rw[show(64:Int)-(s:Int)=((64-s:Nat):Int)from aA,As _ aA]
 have a4h:=xm u y1 aA;refine Dl hlz rfl (i6 ⟨_,rfl⟩ (i6 ?_ (i6 ⟨_,rfl⟩ (i6 ?_ (i6 ?_ ?_)))))
 ·show(0:Int)<=wQ .u64 (s:Int);rw[hcv];omega
 ·show(0:Int)<=wQ .u64 (64-wQ .u64 (s:Int));rw[hcv,sM];omega
 ·simp only[Rq.holds,rxs,hcv,Zm y s aA,hYd,dV hY1,ir,a2d];omega
 have a2e:∀a,a-a/y1*y1=a%y1:=fun a=>by have:=iR a y1;omega
 have hdm:∀a,a/y1*y1<=a:=fun a=>Nat.div_mul_le_self a y1;refine⟨fun l=>l=[.int .u64 (Y:Nat),.int .u64 (s:Nat),.int .u64 (y1:Nat),.int .u64 (y0:Nat),.int .u64 (u:Nat),.int .u64 (n1:Nat),.int .u64 (n0:Nat),.int .u64 ((u/y1:Nat):Int),.int .u64 ((u%y1:Nat):Int)],?_,?_⟩
 ·have a2f:=xj (hi*2^s%18446744073709551616) (lo/2^(64-s)) (cI _ aA) (aU hL (by rw[Lj];exact bQ aA aA));rw[wR]at a2f;have hm:=As (u/y1*y1) (by have:=hdm u;omega);have yE:=Fj u (u/y1*y1) (hdm u) aA;rw[a2e]at yE;simp only[pd,dA,mW,rxs,hcv,sM,Zm y s aA,Zm hi s aA,Zm lo s aA,hYd,dV hY1,ir,a2d,Zg Y hY1,a4e,Vm lo (64-s) aA,a2f,uA,Zg n a0b,a4f,a4g,a4h,Om,hm,yE]
 rintro vals-rfl;simp only[cA,nA];refine⟨fun l=>l=[.int .u64 (qt u n1 y1 y0:Nat)],?_,?_⟩
 ·refine⟨fun l=>∃q r,l=[.int .u64 (q:Nat),.int .u64 (r:Nat)]/\u=q*y1+r/\qt u n1 y1 y0<=q/\q<=4294967297/\r<4294967296,fun l=>(intOf (l.getD 0 undef)).toNat,⟨u/y1,u%y1,rfl,(iR _ _).symm,JK hn1 aA,JL a0x aA tW,aU (cI _ aA) (nE vY)⟩,?_⟩;rintro vals-⟨q,r,rfl,hu,hQ,hq,hr⟩;simp only[cA,nA];have hQb:qt u n1 y1 y0<4294967296:=ip hn1 aA;refine i6 ⟨_,rfl⟩ (Ap (b:=decide (4294967296<=q)) ?_ (fun h=> ?_) (fun h=> ?_))
  ·simp only[rxs];congr 1;rw[bY,oDi,oDi];omega
  ·have h:=oDt h;have qB:qt u n1 y1 y0<q:=aA;obtain⟨d1,d2,d3⟩:=jb (n:=n1) vY tW aA hu qB hq;refine i6 ⟨_,rfl⟩ (i6 ⟨_,rfl⟩ (Ap (b:=decide (4294967296<=r+y1)) ?_ (fun h2=> ?_) (fun h2=> ?_)))
   ·simp only[rxs,Hg,As (r+y1) aA];congr 1;rw[bY,oDi,oDi];omega
   ·have h2:=oDt h2;show[Value.int .u64 (wQ .u64 ((q:Int)-1))]=_;rw[one1,Fj q 1 aA aA,d3 h2]
   ·have h2:=oDf h2;refine⟨⟨q-1,r+y1,?_,d1,d2,aA,aA⟩,?_⟩
    ·show[Value.int .u64 (wQ .u64 ((q:Int)-1)),Value.int .u64 (wQ .u64 ((r:Int)+(y1:Int)))]=_;rw[one1,Fj q 1 aA aA,Hg,As (r+y1) aA]
    ·show(intOf (Value.int .u64 (wQ .u64 ((q:Int)-1)))).toNat<(intOf (Value.int .u64 (q:Nat))).toNat;rw[one1,Fj q 1 aA aA];simp only[intOf];omega
  ·have h:=oDf h;obtain⟨w1,w2,w3⟩:=JY (q:=q) (r:=r) (y0:=y0) (n:=n1) aA hr tW hn1;refine i6 ⟨_,rfl⟩ (i6 ⟨_,rfl⟩ (i6 ⟨_,rfl⟩ (Ap (b:=decide (4294967296*r+n1<q*y0)) ?_ (fun h1=> ?_) (fun h1=> ?_))))
   ·simp only[rxs,b32,Om,Hg,As _ w1,As _ w2,As _ w3];congr 1;rw[bY,oDi,oDi];omega
   ·have h1:=oDt h1;have qB:qt u n1 y1 y0<q:=JJ hu h1;obtain⟨d1,d2,d3⟩:=jb (n:=n1) vY tW aA hu qB hq;refine i6 ⟨_,rfl⟩ (Ap (b:=decide (4294967296<=r+y1)) ?_ (fun h2=> ?_) (fun h2=> ?_))
    ·simp only[rxs,Hg,As (r+y1) aA];congr 1;rw[bY,oDi,oDi];omega
    ·have h2:=oDt h2;show[Value.int .u64 (wQ .u64 ((q:Int)-1))]=_;rw[one1,Fj q 1 aA aA,d3 h2]
    ·have h2:=oDf h2;refine⟨⟨q-1,r+y1,?_,d1,d2,aA,aA⟩,?_⟩
     ·show[Value.int .u64 (wQ .u64 ((q:Int)-1)),Value.int .u64 (wQ .u64 ((r:Int)+(y1:Int)))]=_;rw[one1,Fj q 1 aA aA,Hg,As (r+y1) aA]
     ·show(intOf (Value.int .u64 (wQ .u64 ((q:Int)-1)))).toNat<(intOf (Value.int .u64 (q:Nat))).toNat;rw[one1,Fj q 1 aA aA];simp only[intOf];omega
   ·have h1:=oDf h1;have pY:=xk (n:=n1) (y0:=y0) hu aA aA;show[Value.int .u64 (q:Nat)]=_;rw[show q=qt u n1 y1 y0 from oH pY hQ]
 rintro vals-rfl;simp only[cA,nA];have uN:=ip (y1:=y1) (y0:=y0) hn1 (show u<y1*4294967296+y0 by omega);obtain⟨q1,a0y⟩:∃q1,q1=qt u n1 y1 y0:=⟨_,rfl⟩;obtain⟨r1,a2g⟩:∃r1,r1=(u*4294967296+n1)%Y:=⟨_,rfl⟩;have hX:u*4294967296+n1=q1*Y+r1:=by
  rw[a0y,a2g];unfold qt;rw[hYs];exact(iR _ _).symm
 have sX:r1<Y:=by rw[a2g];exact cI _ aA
 have a2h:=JZ (u:=u) (n:=n1) (q:=q1) (y:=Y) aA aA;rw[show u*4294967296+n1-q1*Y=r1 from aA]at a2h;rw[<-a0y];have a2i:=xm r1 y1 aA;refine i6 ⟨_,rfl⟩ (i6 ⟨_,rfl⟩ (i6 ⟨_,rfl⟩ (i6 ⟨_,rfl⟩ (i6 ⟨_,rfl⟩ (i6 ?_ ⟨fun l=>l=[.int .u64 (r1:Nat),.int .u64 ((r1/y1:Nat):Int),.int .u64 ((r1%y1:Nat):Int)],?_,?_⟩)))))
 ·show(y1:Int)≠0;omega
 ·have hm:=As (r1/y1*y1) (by have:=hdm r1;omega);have yE:=Fj r1 (r1/y1*y1) (hdm r1) aA;rw[a2e]at yE;simp only[pd,dA,mW,rxs,b32,Om,a2h,a2i,hm,yE]
 rintro vals-rfl;simp only[cA,nA];refine⟨fun l=>l=[.int .u64 (qt r1 n0 y1 y0:Nat)],?_,?_⟩
 ·refine⟨fun l=>∃q r,l=[.int .u64 (q:Nat),.int .u64 (r:Nat)]/\r1=q*y1+r/\qt r1 n0 y1 y0<=q/\q<=4294967297/\r<4294967296,fun l=>(intOf (l.getD 0 undef)).toNat,⟨r1/y1,r1%y1,rfl,(iR _ _).symm,JK xF aA,JL a0x aA tW,aU (cI _ aA) (nE vY)⟩,?_⟩;rintro vals-⟨q,r,rfl,hu,hQ,hq,hr⟩;simp only[cA,nA];have hQb:qt r1 n0 y1 y0<4294967296:=ip xF aA;refine i6 ⟨_,rfl⟩ (Ap (b:=decide (4294967296<=q)) ?_ (fun h=> ?_) (fun h=> ?_))
  ·simp only[rxs];congr 1;rw[bY,oDi,oDi];omega
  ·have h:=oDt h;have qB:qt r1 n0 y1 y0<q:=aA;obtain⟨d1,d2,d3⟩:=jb (n:=n0) vY tW aA hu qB hq;refine i6 ⟨_,rfl⟩ (Ap (b:=decide (4294967296<=r+y1)) ?_ (fun h2=> ?_) (fun h2=> ?_))
   ·simp only[rxs,Hg,As (r+y1) aA];congr 1;rw[bY,oDi,oDi];omega
   ·have h2:=oDt h2;show[Value.int .u64 (wQ .u64 ((q:Int)-1))]=_;rw[one1,Fj q 1 aA aA,d3 h2]
   ·have h2:=oDf h2;refine⟨⟨q-1,r+y1,?_,d1,d2,aA,aA⟩,?_⟩
    ·show[Value.int .u64 (wQ .u64 ((q:Int)-1)),Value.int .u64 (wQ .u64 ((r:Int)+(y1:Int)))]=_;rw[one1,Fj q 1 aA aA,Hg,As (r+y1) aA]
    ·show(intOf (Value.int .u64 (wQ .u64 ((q:Int)-1)))).toNat<(intOf (Value.int .u64 (q:Nat))).toNat;rw[one1,Fj q 1 aA aA];simp only[intOf];omega
  ·have h:=oDf h;obtain⟨w1,w2,w3⟩:=JY (q:=q) (r:=r) (y0:=y0) (n:=n0) aA hr tW xF;refine i6 ⟨_,rfl⟩ (i6 ⟨_,rfl⟩ (i6 ⟨_,rfl⟩ (Ap (b:=decide (4294967296*r+n0<q*y0)) ?_ (fun h1=> ?_) (fun h1=> ?_))))
   ·simp only[rxs,b32,Om,Hg,As _ w1,As _ w2,As _ w3];congr 1;rw[bY,oDi,oDi];omega
   ·have h1:=oDt h1;have qB:qt r1 n0 y1 y0<q:=JJ hu h1;obtain⟨d1,d2,d3⟩:=jb (n:=n0) vY tW aA hu qB hq;refine Ap (b:=decide (4294967296<=r+y1)) ?_ (fun h2=> ?_) (fun h2=> ?_)
    ·simp only[rxs,Hg,As (r+y1) aA];congr 1;rw[bY,oDi,oDi];omega
    ·have h2:=oDt h2;show[Value.int .u64 (wQ .u64 ((q:Int)-1))]=_;rw[one1,Fj q 1 aA aA,d3 h2]
    ·have h2:=oDf h2;refine⟨⟨q-1,r+y1,?_,d1,d2,aA,aA⟩,?_⟩
     ·show[Value.int .u64 (wQ .u64 ((q:Int)-1)),Value.int .u64 (wQ .u64 ((r:Int)+(y1:Int)))]=_;rw[one1,Fj q 1 aA aA,Hg,As (r+y1) aA]
     ·show(intOf (Value.int .u64 (wQ .u64 ((q:Int)-1)))).toNat<(intOf (Value.int .u64 (q:Nat))).toNat;rw[one1,Fj q 1 aA aA];simp only[intOf];omega
   ·have h1:=oDf h1;have pY:=xk (n:=n0) (y0:=y0) hu aA aA;show[Value.int .u64 (q:Nat)]=_;rw[show q=qt r1 n0 y1 y0 from oH pY hQ]
 rintro vals-rfl;simp only[cA,nA];have zG:=ip (y1:=y1) (y0:=y0) xF (show r1<y1*4294967296+y0 by omega);obtain⟨q0,a0z⟩:∃q0,q0=qt r1 n0 y1 y0:=⟨_,rfl⟩;obtain⟨r0,a2j⟩:∃r0,r0=(r1*4294967296+n0)%Y:=⟨_,rfl⟩;have hX0:r1*4294967296+n0=q0*Y+r0:=by
  rw[a0z,a2j];unfold qt;rw[hYs];exact(iR _ _).symm
 have yW:r0<Y:=by rw[a2j];exact cI _ aA
 have a2k:=JZ (u:=r1) (n:=n0) (q:=q0) (y:=Y) aA aA;rw[show r1*4294967296+n0-q0*Y=r0 from aA]at a2k;obtain⟨f1,f2⟩:=O4 (U:=(hi*18446744073709551616+lo)*2^s) hX (by rw[hU,hnn];exact S2 u n1 n0) hX0 yW;rw[<-hYd,mO _ _ uH]at f1;rw[<-hYd,mN]at f2;have f3:r0/2^s=(hi*18446744073709551616+lo)%y:=by rw[<-f2,Nat.mul_div_cancel _ uH]
 rw[<-a0z];have a4i:s<=64:=Nat.le_succ_of_le a0w;have a2l:q1<4294967296:=by rw[a0y];exact uN
 have a2m:q0<4294967296:=by rw[a0z];exact zG
 refine i6 ⟨_,rfl⟩ (i6 ⟨_,rfl⟩ (i6 ⟨_,rfl⟩ (i6 ⟨_,_,rfl⟩ (i6 ?_ (Ah ?_ rfl)))))
 ·show(0:Int)<=(s:Int);omega
 ·simp only[rxs,Ab,b32,Om,a2k,Hg,As (q1*4294967296) (KA a2l a2m).1,As (q1*4294967296+q0) (KA a2l a2m).2,Vm r0 s a4i,f1,f3]
def KB (k:Nat) (hk:k<=9223372036854775807):wQ .i64 ((k:Int).tdiv 64)=((k/64:Nat):Int):=by
 rw[show(64:Int)=((64:Nat):Int)from rfl,<-oR,Ry _ aA]
def KC (k:Nat):(k:Int).tmod 64=((k%64:Nat):Int):=by
 rw[show(64:Int)=((64:Nat):Int)from rfl,<-kJ]
def S4 (r:Nat) (h:r<64):wQ .u64 ((1:Int)*2^min r (IntKind.bits .u64))=((2^r:Nat):Int):=by
 have:=Zm 1 r aA;rw[cQ,dV (by rw[Lj];exact cU aA h)]at this;exact this
def KD {A k:Nat} (h:A<PW k):blen A<=64*k:=blen_le (by rw[Vn]at h;exact h)
def S5 {x y q r:Int} (hy:y≠0) (he:x=q*y+r) (h0:0<=r) (h1:r<y.natAbs):x/y=q/\x%y=r:=by
 rcases Int.lt_or_lt_of_ne hy with h|h
 ·have:=(mY (a:=x) (b:= -y) (q:= -q) (r:=r) aA).2 ⟨by rw[he,oI,pI];omega,h0,aA⟩;rw[Int.ediv_neg,Int.emod_neg]at this;exact⟨aA,this.2⟩
 ·exact(mY (a:=x) (b:=y) (q:=q) (r:=r) h).2 ⟨by rw[he,pI];omega,h0,aA⟩
def xn {z:Int} (h: -(HM:Int)<=z/\z<HM):Ce z= .tuple #[iw z,.int .i64 0]:=by unfold Ce;rw[if_pos h]
def xo {z:Int} (h:¬(-(HM:Int)<=z/\z<HM)):Ce z= .tuple #[wd 0,.int .i64 6]:=by unfold Ce;rw[if_neg h]
def mnn (a b:Nat):(-(a:Int))*(-(b:Int))=((a*b:Nat):Int):=by rw[oI,eA]
def mnp (a b:Nat):(-(a:Int))*(b:Int)= -((a*b:Nat):Int):=by rw[Int.neg_mul,eA]
def mpn (a b:Nat):(a:Int)*(-(b:Int))= -((a*b:Nat):Int):=by rw[Int.mul_neg,eA]
def S6 (x y:Int) (Q R:Nat) (tW:y≠0) (a4j:R<y.natAbs) (hQR:x.natAbs=Q*y.natAbs+R):
  x/y=(if(decide (x<0) !=decide (y<0))then -((if(decide (x<0)&& !decide (R=0))then Q+1 else Q:Nat):Int)else((if(decide (x<0)&& !decide (R=0))then Q+1 else Q:Nat):Int))/\
  x%y=((if(decide (x<0)&& !decide (R=0))then y.natAbs-R else R:Nat):Int):=by
 obtain⟨Y,hY⟩:=Int.eq_nat_or_neg y;have hYn:y.natAbs=Y:=by rcases hY with h|h<;>rw[h]<;>simp
 rw[hYn]at hQR a4j⊢;have hs:(Q+1)*Y=Q*Y+Y:=by rw[dC,cQ]
 refine S5 tW ?_ ?_ ?_
 ·by_cases hx:x<0
  ·by_cases hR:R=0
   ·rcases hY with hY|hY
    ·have:¬y<0:=aA;simp only[hx,this,hR,decide_true,decide_false,lY,lT,aY,if_false,if_true,bne_self_eq_false,oS,jF];rw[hY,mnp];omega
    ·have:y<0:=aA;simp only[hx,this,hR,decide_true,lY,lT,aY,if_false,bne_self_eq_false];rw[hY,mpn];omega
   ·rcases hY with hY|hY
    ·have:¬y<0:=aA;simp only[hx,this,hR,decide_true,decide_false,jF,jT,if_true,oS];rw[hY,mnp,hs];omega
    ·have:y<0:=aA;simp only[hx,this,hR,decide_true,decide_false,jF,jT,if_true,bne_self_eq_false,aY,if_false];rw[hY,mpn,hs];omega
  ·rcases hY with hY|hY
   ·have:¬y<0:=aA;simp only[hx,this,decide_false,jG,aY,if_false,bne_self_eq_false];rw[hY,Om];omega
   ·have:y<0:=aA;simp only[hx,this,decide_true,decide_false,jG,aY,if_false,Bool.bne_true,jF,if_true];rw[hY,mnn];omega
 ·exact eC _
 ·split
  ·rename_i h;simp at h;omega
  ·omega
end Go.Z
namespace Go.WD
open RX
def take_snoc {l:List UInt8} {p:Nat} (h:p<l.length):l.take (p+1)=l.take p++[l.getD p 0]:=by
 rw[List.take_succ_eq_append_getElem h,aJ,aG h];rfl
def S7 {a b k:Nat} (h:k=a+b):2^a*2^b=2^k:=by rw[h,fW]
def S8 {k:Nat} (h:k=511):HM=2^k:=by
 have e:=Vn 7;rw[Vf,e];generalize hb:64*7=b;exact S7 (a:=63) (b:=b) aA
def S9 {k:Nat} (h:k<=511):2^k<=HM:=by
 obtain⟨n,hn⟩:∃n:Nat,n=511:=⟨_,rfl⟩;rw[S8 hn];exact bQ aA aA
end Go.WD
namespace Go.Z
open Proofs.Tryz RowKit RX WD IntWalk
def xp {o:Oper} {x y:Operand} {t u:TypeId} {a b:Int} {vs:List Value} (ho:o.op= .call ⟨.builtin .max,#[x,y],#[t,u]⟩) (hx:e8 [x,y] vs x= .int .i64 a) (hy:e8 [x,y] vs y= .int .i64 b):Yld prog o vs (.int .i64 (if b>a then b else a)):=fun w=>by
 have qE:o.op.operands.toList=[x,y]:=by simp[ho,Op.operands,Call.operands]
 rw[qE];simp only[execOp,ho,resolve,invoke,eK,Sem.run_pure,eJ,List.map_toArray,bI,bR,hx,hy];simp only[builtin,eK,run_max_int2,eJ];rfl
end Go.Z
namespace Go.RX
open RowKit
def Sl.cells {H:PH} {sz n:Nat} {v:Value} {xs:List Value} (h:Sl H sz v n xs):v.cells= #[v]:=by
 obtain⟨_,a,c,h2,_⟩:=h;rw[h2];rfl
def Sl.one {H:PH} {sz n:Nat} {v:Value} {xs:List Value} (h:Sl H sz v n xs):v.cells.size=1/\j0 v.cells:=by
 rw[h.cells];obtain⟨_,a,c,h2,_⟩:=h;refine⟨rfl,fun c hc=> ?_⟩;simp at hc;rw[hc,h2];rfl
end Go.RX

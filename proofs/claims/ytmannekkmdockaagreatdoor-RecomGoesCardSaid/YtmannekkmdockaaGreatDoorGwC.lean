/- Lemmas: chapter 32. -/
import Derived.Test.YtmannekkmdockaaGreatDoorGwT
import Derived.Test.YtmannekkmdockaaGreatDoorGaD
import Derived.Test.YtmannekkmdockaaGreatDoorRzJ
open Bool renaming false_eq_true->cN
open List renaming length_append->aJ
open Nat renaming lt_of_le_of_lt->aY,mod_lt->bO
open Option.some renaming injEq->aD
open Prod.mk renaming injEq->eB
set_option maxRecDepth 100000
namespace Go.GS
open Go.RowKit Go.RX
def nxS (s:Nat):Nat:=(s+11400714819323198485)%M64
def xj (z:Nat):Nat:=(z^^^z/2^30)*13787848793156543929%M64
def xk (z:Nat):Nat:=(z^^^z/2^27)*10723151780598845931%M64
def KN (z:Nat):Nat:=z^^^z/2^31
def drw (s:Nat):Nat:=KN (xk (xj (nxS s)))
def nxN:Nat->Nat->Nat
 |0,s=>s
 |k+1,s=>nxS (nxN k s)
theorem Jy:0<M64:=by decide
theorem xm (s:Nat):nxS s<M64:=bO _ Jy
theorem d7b {s:Nat} (hs:s<M64):∀k,nxN k s<M64
 |0=>hs
 |k+1=>xm _
theorem c7e {a b:Nat} (ha:a<M64) (hb:b<M64):a^^^b<M64:=Nat.xor_lt_two_pow (n:=64) ha hb
theorem xn {a k:Nat} (ha:a<M64):a/2^k<M64:=aY (Nat.div_le_self _ _) ha
theorem d2M {a b:Nat} (ha:a<M64) (hb:b<M64):IntKind.u64.wrap ((BitVec.ofInt (IntKind.bits .u64) (a:Int)^^^BitVec.ofInt (IntKind.bits .u64) (b:Int)).toNat:Int)=((a^^^b:Nat):Int):=by
 have e:(BitVec.ofInt 64 (a:Int)^^^BitVec.ofInt 64 (b:Int)).toNat=a^^^b:=by rw[BitVec.toNat_xor,Oo ha,Oo hb]
 show IntKind.u64.wrap ((BitVec.ofInt 64 (a:Int)^^^BitVec.ofInt 64 (b:Int)).toNat:Int)=_;rw[e,IntKind.wrap_u64];have:=c7e ha hb;exact Int.emod_eq_of_lt (by omega) (by simp only[M64]at this;omega)
section
variable {P:Program} {ρ:List Value} {a b:SV} {A B:Nat}
theorem xo (ha:D P ρ a=uv A) (hb:D P ρ b=uv B) (hA:A<M64) (hB:B<M64):D P ρ (.op2 .xor .u64 a b)=uv (A^^^B):=by
 show t8 .xor .u64 (intOf (D P ρ a)) (intOf (D P ρ b))=_;rw[ha,hb];show Value.int .u64 _= .int .u64 _;congr 1;exact d2M hA hB
theorem KO (ha:D P ρ a=uv A) (hb:D P ρ b=uv B):D P ρ (.op2 .mul .u64 a b)=uv (A*B%M64):=by
 show t8 .mul .u64 (intOf (D P ρ a)) (intOf (D P ρ b))=_;rw[ha,hb];show Value.int .u64 (IntKind.u64.wrap ((A:Int)*(B:Int)))= .int .u64 _;rw[IntKind.wrap_u64];congr 1
theorem d2N (ha:D P ρ a=uv A) (hb:D P ρ b=uv B):D P ρ (.op2 .add .u64 a b)=uv ((A+B)%M64):=by
 show t8 .add .u64 (intOf (D P ρ a)) (intOf (D P ρ b))=_;rw[ha,hb];show Value.int .u64 (IntKind.u64.wrap ((A:Int)+(B:Int)))= .int .u64 _;rw[IntKind.wrap_u64];congr 1
theorem d7c (ha:D P ρ a=uv A) (hA:A<M64):D P ρ (.op2 .mul .u64 (.op2 .xor .u64 a (.op2 .shr .u64 a (.k (.int .u64 30)))) (.k (.int .u64 13787848793156543929)))=uv (xj A):=
 KO (xo ha (Ja ha rfl (by omega)) hA (xn hA)) rfl
theorem d7d (ha:D P ρ a=uv A) (hA:A<M64):D P ρ (.op2 .mul .u64 (.op2 .xor .u64 a (.op2 .shr .u64 a (.k (.int .u64 27)))) (.k (.int .u64 10723151780598845931)))=uv (xk A):=
 KO (xo ha (Ja ha rfl (by omega)) hA (xn hA)) rfl
theorem d7e (ha:D P ρ a=uv A) (hA:A<M64):D P ρ (.op2 .xor .u64 a (.op2 .shr .u64 a (.k (.int .u64 31))))=uv (KN A):=xo ha (Ja ha rfl (by omega)) hA (xn hA)
end
theorem d2O (z:Nat):xj z<M64:=bO _ Jy
theorem d2P (z:Nat):xk z<M64:=bO _ Jy
end Go.GS
namespace Go.Proofs.Z
open Go.Proofs.Tryz
open Go.RowKit Go.RX Go.GS
theorem KP:FA prog 305 0 0:=⟨by kernel_rfl,oDt (by kernel_rfl),by kernel_rfl,by kernel_rfl,oDt (by kernel_rfl)⟩
theorem iy:FA prog 303 0 0:=⟨by kernel_rfl,oDt (by kernel_rfl),by kernel_rfl,by kernel_rfl,oDt (by kernel_rfl)⟩
theorem xp:FA prog 63 0 0:=⟨by kernel_rfl,oDt (by kernel_rfl),by kernel_rfl,by kernel_rfl,oDt (by kernel_rfl)⟩
section
variable {H:PH} {b s:Nat} {T:TypeId}
theorem d7f {G:Value->PH->Prop} {nx:List (List Value->PH->Prop)} {ρ:List Value} {t:Tree} {id i:Nat} {o:Oper} {x:Operand} {args:List SV} {ad:Addr} (ho:o.op= .nilCheck x) (hx:g9 [x] [.pointer (some ad)] x= .pointer (some ad)) (ha:args.map (D prog ρ)=[.pointer (some ad)]) (n:den prog G t nx (ρ++[.pointer (some ad)]) H):den prog G (.prim id i o args t) nx ρ H:=
 r7 ((ZF ho hx).rds H) ha n
theorem As {G:Value->PH->Prop} {nx:List (List Value->PH->Prop)} {ρ:List Value} {t:Tree} {id i:Nat} {o:Oper} {x:Operand} {args:List SV} {ad:Addr} (n:den prog G t nx (ρ++[.pointer (some ad)]) H) (ho:o.op= .nilCheck x:=by exact rfl) (ha:args.map (D prog ρ)=[.pointer (some ad)]:=by exact rfl) (hx:g9 [x] [.pointer (some ad)] x= .pointer (some ad):=by exact rfl):den prog G (.prim id i o args t) nx ρ H:=d7f ho hx ha n
theorem c7f (hs:s<M64) (hb:H b=some (.cells #[uv s] T (0,0))):Con prog 248 [.pointer (some ⟨b,0,none⟩)] H fun u H'=>u=uv (drw s)/\H'=H.put b (.cells #[uv (nxS s)] T (0,0)):=by
 refine j3 mixed d2J ?_;refine As ?_;refine s6 iy ?_;refine s6 xp ?_;refine w9 Hw rfl rfl hb rfl rfl ?_;refine d4 ?_;refine As ?_;refine s6 iy ?_;refine s6 xp ?_;refine Oq (u:=uv (nxS s)) Hw rfl rfl rfl hb (by simp) rfl rfl (j4 rfl (d2N rfl rfl)) (fun h=>(nomatch h)) ?_;have qR:(H.put b (.cells ((#[uv s]:Array Value).setIfInBounds 0 (uv (nxS s))) T (0,0))) b=some (.cells #[uv (nxS s)] T (0,0)):=PH.put_self _ _ _;refine As ?_;refine s6 iy ?_;refine s6 xp ?_;refine w9 Hw rfl rfl qR rfl rfl ?_;have hn:=xm s;refine d4 ?_;refine g8 (v:=uv (drw s)) ?_ ⟨rfl,rfl⟩;exact d7e (d7d (d7c rfl hn) (d2O _)) (d2P _)
end
theorem c2b:Au prog 268=true:=by kernel_rfl
theorem c7g:Au prog 248=true:=by kernel_rfl
theorem d9P:Sc prog 286:=⟨by kernel_rfl,by kernel_rfl,by kernel_rfl⟩
def fnx (b:Nat):Value:= .func (.func 248) #[.pointer (some ⟨b,0,none⟩)] #[]
def kbx (c b:Nat) (Tf Ts:TypeId) (s k:Nat):PH:=(PH.nil.put c (.cells #[fnx b] Tf (0,0))).put b (.cells #[uv (nxN k s)] Ts (0,0))
section
variable {c b s:Nat} {Tf Ts:TypeId}
theorem iz (k:Nat):kbx c b Tf Ts s k b=some (.cells #[uv (nxN k s)] Ts (0,0)):=PH.put_self _ _ _
theorem d9Q (h:c≠b) (k:Nat):kbx c b Tf Ts s k c=some (.cells #[fnx b] Tf (0,0)):=by unfold kbx;rw[PH.put_ne _ _ h];exact PH.put_self _ _ _
theorem c7i {X:PH} (k:Nat) (h:X b=none):(X.or (kbx c b Tf Ts s k)).put b (.cells #[uv (nxN (k+1) s)] Ts (0,0))=X.or (kbx c b Tf Ts s (k+1)):=by
 rw[PH.or_put h];unfold kbx;rw[PH.put_put]
theorem xq {X:PH} {k j:Nat} (h:Disj X (kbx c b Tf Ts s k)):Disj X (kbx c b Tf Ts s j):=fun x hx=>by
 have:=h x hx;unfold kbx PH.put at this⊢;split at this
 ·cases this
 ·rename_i e;rw[if_neg e];exact this
theorem c7j {Ro:PH} (hs:s<M64) (hcb:c≠b):ItC prog 268 [.pointer (some ⟨c,0,none⟩)] Ro (kbx c b Tf Ts s 0) (fun pre xs=>pre.length<200/\xs=[uv (drw (nxN pre.length s))])
  (fun xs K'=>xs.length=200/\K'=kbx c b Tf Ts s 200) (fun pre K'=>K'=kbx c b Tf Ts s pre.length):=by
 intro l J Jx vR hr X hX hd w hw;refine(Aa (H:=X.or (kbx c b Tf Ts s 0)) (V:=fun _ H'=>∃X' K',PH.le (X'.or K') H'/\Disj X' K'/\((∃xs,(xs.length=200/\K'=kbx c b Tf Ts s 200)/\J xs X')\/(∃pre,K'=kbx c b Tf Ts s pre.length/\Jx pre X'))) mixed c7d (by kernel_rfl) rfl ?_ w hw).mono fun e w' ⟨v,H',he,qA,hV⟩=>⟨v,H',he,qA,hV⟩;refine s9 (α:=Nat×List (List Value)×PH) (fun a=>[ii (a.1:Nat)]) (fun a H'=>a.1<=200/\H'=a.2.2.or (kbx c b Tf Ts s a.1)/\Disj a.2.2 (kbx c b Tf Ts s a.1)/\a.2.1.length=a.1/\J a.2.1 a.2.2) (fun a=>200-a.1) (0,[],X)
  rfl ⟨Nat.zero_le _,rfl,hd,rfl,hX⟩ fun a H' hQ=> ?_
 obtain⟨k,pre,X'⟩:=a;obtain⟨hk,rfl,qB,pV,hJ⟩:=hQ;simp only at hk qB pV hJ;simp only[cA,nA];refine d4 ?_;refine i0 (b:=decide (((k:Nat):Int)<200)) rfl (fun h=> ?_) (fun h=> ?_)
 ·replace h:=oDt h;have hXb:X' b=none:=Disj.none qB (b:=b) (by rw[iz];exact fun h=>nomatch h);refine w9 d9P rfl rfl (PH.or_right qB (d9Q hcb k)) (u:=fnx b) rfl rfl ?_;have vD:=c7f (b:=b) (d7b hs k) (PH.or_right qB (iz k));refine r4 (Go.RZ.opn_callw (P:=prog) (ws:=[]) (bs:= #[.pointer (some ⟨b,0,none⟩)]) (caps:= #[]) (vs:=[fnx b]) rfl rfl rfl c7g vD) rfl fun u H2 ⟨hu,hH2⟩=>⟨fun h=>(nomatch h),?_⟩;subst hu;rw[show nxS (nxN k s)=nxN (k+1) s from rfl,c7i k hXb]at hH2;subst hH2;simp only[cA,nA];refine Ys (hr _ [uv (drw (nxN pre.length s))] X' (kbx c b Tf Ts s (k+1)) ⟨by omega,rfl⟩ hJ (xq qB)) rfl rfl rfl (by rw[pV];rfl) rfl fun v X2 qE hV=> ?_;obtain⟨bb,rfl,qQ,qR⟩:∃bb,v= .bool bb/\(bb=true->J (pre++[[uv (drw (nxN pre.length s))]]) X2)/\(bb=false->Jx (pre++[[uv (drw (nxN pre.length s))]]) X2):=by
   rcases hV with⟨rfl,h⟩|⟨rfl,h⟩
   ·exact⟨true,rfl,fun _=>h,(fun h=>nomatch h)⟩
   ·exact⟨false,rfl,(fun h=>nomatch h),fun _=>h⟩
  refine d4 ?_;refine i0 (b:= !bb) rfl (fun qZ=> ?_) (fun qZ=> ?_)
  ·exact g8 rfl ⟨X2,_,PH.le.refl _,qE,.inr ⟨_,by rw[aJ,pV];rfl,qR (by simpa using qZ)⟩⟩
  ·exact⟨(k+1,pre++[[uv (drw (nxN pre.length s))]],X2),by show 200-(k+1)<200-k;omega,z8 (i9 rfl (by omega)),⟨by show k+1<=200;omega,rfl,qE,by simp[pV],qQ (by simpa using qZ)⟩⟩
 ·replace h:=oDf h;have sV:k=200:=by omega
  subst sV;exact g8 rfl ⟨X',_,PH.le.refl _,qB,.inl ⟨_,⟨pV,rfl⟩,hJ⟩⟩
end
end Go.Proofs.Z
/- Chapter 32: chance.Below. -/
namespace Go.GS
open Go.RowKit Go.RX
theorem Vg (s:Nat):∀k,nxN k (nxS s)=nxS (nxN k s)
 |0=>rfl
 |k+1=>by show nxS (nxN k (nxS s))=_;rw[Vg s k];rfl
def Rt (n:Nat):Nat:=(M64-n)%M64%n
def Hz (n x:Nat):Bool:=decide (x<=((M64-Rt n)%M64+(M64-1))%M64)||decide (Rt n=0)
def Du (n:Nat):Nat->Nat->Option (Nat×Nat)
 |0,_=>none
 |f+1,s=>if Hz n (drw s)then some (drw s%n,nxS s)else Du n f (nxS s)
theorem d2Q (n:Nat):∀(k f s:Nat),(∀j,j<k->Hz n (drw (nxN j s))=false)->Hz n (drw (nxN k s))=true->k<f->Du n f s=some (drw (nxN k s)%n,nxN (k+1) s):=by
 intro k;induction k with
 |zero=>
  intro f s _ h hf;obtain⟨f,rfl⟩:∃g,f=g+1:=⟨f-1,by omega⟩;have h:Hz n (drw s)=true:=h;rw[show nxN (0+1) s=nxS s from rfl,show nxN 0 s=s from rfl];simp only[Du,h,if_true]
 |succ k ih=>
  intro f s h0 h hf;obtain⟨f,rfl⟩:∃g,f=g+1:=⟨f-1,by omega⟩;have h1:Hz n (drw s)=false:=h0 0 (by omega);simp only[Du,h1,cN,if_false];have:=ih f (nxS s) (fun j hj=>by rw[Vg];exact h0 (j+1) (by omega)) (by rw[Vg];exact h) (by omega);rw[this,Vg s k,Vg s (k+1)];rw[show nxN (k+1) s=nxS (nxN k s)from rfl,show nxN (k+1+1) s=nxS (nxS (nxN k s))from rfl]
theorem KQ (n:Nat):∀(f s:Nat),(∀j,j<f->Hz n (drw (nxN j s))=false)->Du n f s=none
 |0,_,_=>rfl
 |f+1,s,h=>by
  have h1:Hz n (drw s)=false:=h 0 (by omega);simp only[Du,h1,cN,if_false];exact KQ n f (nxS s) fun j hj=>by rw[Vg];exact h (j+1) (by omega)
theorem ja {n x t:Nat} (hn:0<n):∀{f s},Du n f s=some (x,t)->x<n/\t<M64
 |0,s,h=>by simp[Du]at h
 |f+1,s,h=>by
  simp only[Du]at h;split at h
  ·simp only[aD,eB]at h;obtain⟨rfl,rfl⟩:=h;exact⟨bO _ hn,xm s⟩
  ·exact ja hn h
section
variable {P:Program} {ρ:List Value} {a b:SV} {A B:Nat}
theorem KR (ha:D P ρ a=uv A) (hb:D P ρ b=uv B):D P ρ (.op2 .rem .u64 a b)=uv (A%B):=by
 show t8 .rem .u64 (intOf (D P ρ a)) (intOf (D P ρ b))=_;rw[ha,hb];show Value.int .u64 (Int.tmod (A:Int) (B:Int))= .int .u64 _;rw[<-Int.ofNat_tmod]
theorem d9R (ha:D P ρ a=uv A) (hb:D P ρ b=uv B):D P ρ (.op2 .leq .u64 a b)= .bool (decide (A<=B)):=by
 show t8 .leq .u64 (intOf (D P ρ a)) (intOf (D P ρ b))=_;rw[ha,hb];show Value.bool (decide ((A:Int)<=(B:Int)))=_;exact congrArg Value.bool (decide_eq_decide.2 (by omega))
theorem d7g (ha:D P ρ a=uv A) (hb:D P ρ b=uv B):D P ρ (.op2 .eql .u64 a b)= .bool (decide (A=B)):=by
 show t8 .eql .u64 (intOf (D P ρ a)) (intOf (D P ρ b))=_;rw[ha,hb];show Value.bool ((A:Int)==(B:Int))=_;congr 1;rw[Bool.eq_iff_iff,beq_iff_eq,oDi];omega
theorem d9S (ha:D P ρ a=uv A) (hA:A<M64):D P ρ (.op2 .sub .u64 a (.k (.int .u64 1)))=uv ((A+(M64-1))%M64):=by
 show t8 .sub .u64 (intOf (D P ρ a)) 1=_;rw[ha];show Value.int .u64 (IntKind.u64.wrap ((A:Int)-1))= .int .u64 _;rw[IntKind.wrap_u64];congr 1;simp only[M64]at*;omega
end
end Go.GS
namespace Go.Proofs.Z
open Go.Proofs.Tryz
open Go.RowKit Go.RX Go.GS
def j1 (H:PH) (b:Nat):PH:=fun k=>if k=b then none else H k
theorem c7k {H:PH} {b c s:Nat} {Tf Ts:TypeId} (hb:H b=some (.cells #[uv s] Ts (0,0))) (hc:H c=none):H.put c (.cells #[fnx b] Tf (0,0))=(j1 H b).or (kbx c b Tf Ts s 0):=by
 funext k;unfold PH.or j1 kbx PH.put PH.nil;by_cases e:k=b
 ·subst e;have:¬k=c:=fun h=>by subst h;rw[hc]at hb;cases hb
  simp only[if_neg this,if_true];exact hb
 ·by_cases e2:k=c
  ·subst e2;simp only[if_neg e,if_true,hc]
  ·simp only[if_neg e,if_neg e2];cases H k<;>rfl
theorem xr {H:PH} {b c s:Nat} {Tf Ts:TypeId} (hc:H c=none):Disj (j1 H b) (kbx c b Tf Ts s 0):=fun k hk=>by
 unfold j1 at hk;unfold kbx PH.put PH.nil;by_cases e:k=b
 ·rw[if_pos e]at hk;exact absurd rfl hk
 ·rw[if_neg e]at hk;rw[if_neg e,if_neg (fun h=>by subst h;exact hk hc)]
section
variable {H:PH} {b s n:Nat} {Ts:TypeId}
theorem c7l:Con prog 249 [fnx b] H fun u H'=>∃c,H c=none/\H'=H.put c (.cells #[fnx b] 286 (0,0))/\u= .func (.func 268) #[] #[.pointer (some ⟨c,0,none⟩)]:=by
 refine j3 mixed d2K ?_;refine d9 ⟨rfl,fun x hx=>by simp[fnx,Value.cells,D]at hx;subst hx;rfl⟩ ?_;refine Ee (cs:= #[fnx b]) rfl fun c hc=> ?_;refine He (La (vs:=[.pointer (some ⟨c,0,none⟩)]) rfl rfl) rfl ?_;exact g8 rfl ⟨c,hc,rfl,rfl⟩
def jb (n s:Nat) (r:Option (Nat×Nat)):Value×Nat:=match r with
 |some (x,t)=>(.tuple #[uv x,ii 0],t)
 |none=>(.tuple #[uv 0,ii 9],nxN 200 s)
theorem xt:s7 prog 43=ii 0:=by kernel_rfl
set_option maxHeartbeats 1000000 in
theorem c7m (hs:s<M64) (wN:0<n) (hn:n<M64) (hb:H b=some (.cells #[uv s] Ts (0,0))):Con prog 222 [.pointer (some ⟨b,0,none⟩),uv n] H fun u H'=>u=(jb n s (Du n 200 s)).1/\PH.le (j1 H b) H'/\H' b=some (.cells #[uv (jb n s (Du n 200 s)).2] Ts (0,0)):=by
 refine j3 mixed d2I ?_;refine d9 (el_u64.vcells n) ?_;refine As ?_;simp only[cA,nA];refine s6 KP ?_;simp only[cA,nA];refine He (v:=fnx b) (vs:=[.pointer (some ⟨b,0,none⟩)]) (fun w=> ?_) rfl ?_
 ·have pZ:(opr f222 1 3).op.operands.toList=[.tmp 11]:=by rw[KJ];rfl
  unfold Stp;rw[pZ];simp only[execOp,KJ,Sem.run_bind,Instr.makeFunc,Sem.run_pure,Result.andThen_ok];exact⟨by simp[fnx,g9,Ky],Ext.refl _⟩
 simp only[cA,nA];refine d4 ?_;refine d9 (by show((n:Nat):Int)≠0;omega) ?_;refine i6 (c7l (b:=b)) rfl fun u H1 ⟨c,hc,hH1,hu⟩=>⟨fun h=>(nomatch h),?_⟩;subst hu;simp only[cA,nA];rw[c7k hb hc]at hH1;subst hH1;have hcb:c≠b:=fun h=>by subst h;rw[hc]at hb;cases hb
 have hr:Rt n<M64:=aY (Nat.mod_le _ _) (bO _ Jy);have dN:∀{ρ:List Value} {y:SV},D prog ρ y=uv n->D prog ρ (.op2 .rem .u64 (.op1 .neg .u64 y) y)=uv (Rt n):=fun h=>KR (Ve h hn) h;have dL:∀{ρ:List Value} {y:SV},D prog ρ y=uv n->D prog ρ (.op2 .sub .u64 (.op1 .neg .u64 (.op2 .rem .u64 (.op1 .neg .u64 y) y)) (.k (.int .u64 1)))=uv (((M64-Rt n)%M64+(M64-1))%M64):=fun h=>d9S (Ve (dN h) hr) (bO _ Jy);refine Uy (X:=j1 H b) (K:=kbx c b 286 Ts s 0) (Ro:=PH.nil) (fun pre vals X'=>X'=j1 H b/\vals=[uv 0,ii 0]/\∀j,j<pre.length->Hz n (drw (nxN j s))=false)
  (fun pre vals X'=>X'=j1 H b/\∃k,k<200/\pre.length=k+1/\(∀j,j<k->Hz n (drw (nxN j s))=false)/\Hz n (drw (nxN k s))=true/\vals=[uv (drw (nxN k s)%n),ii 0]) (c7j hs hcb) c2b (xr hc) rfl (fun _ _ _ _ x o hx=>by cases hx)
  ⟨rfl,by show[s7 prog _,s7 prog _]=_;rw[wz,xt],fun j hj=>absurd hj (Nat.not_lt_zero _)⟩ ?_ ?_ ?_
 ·intro pre xs vals X' hE hv hI;obtain⟨rfl,rfl,zG⟩:=hI;obtain⟨pO,hE⟩:=hE;subst hE;refine⟨rfl,?_⟩;simp only[cA,nA];refine d4 ?_;have hx:∀{ρ:List Value},D prog ρ (.cell (.v 1) 0 0 noI)=uv n->D prog ρ (.v 6)=uv (drw (nxN pre.length s))->D prog ρ (.op2 .rem .u64 (.v 6) (.cell (.v 1) 0 0 noI))=uv (drw (nxN pre.length s)%n):=fun h1 h2=>KR h2 h1;refine i0 (b:=decide (drw (nxN pre.length s)<=((M64-Rt n)%M64+(M64-1))%M64)) (d9R rfl (dL rfl)) (fun h=> ?_) (fun h=> ?_)
  ·exact⟨rfl,pre.length,pO,by simp,zG,by unfold Hz;rw[h];rfl,j4 (hx rfl rfl) rfl⟩
  ·refine i0 (b:=decide (Rt n=0)) (d7g (dN rfl) rfl) (fun h2=> ?_) (fun h2=> ?_)
   ·exact⟨rfl,pre.length,pO,by simp,zG,by unfold Hz;rw[h2,Bool.or_true],j4 (hx rfl rfl) rfl⟩
   ·refine⟨rfl,rfl,fun j hj=> ?_⟩;simp only[aJ,List.length_cons,List.length_nil]at hj;by_cases e:j=pre.length
    ·subst e;unfold Hz;rw[h,h2];rfl
    ·exact zG j (by omega)
 ·intro xs vals X' K' hS _ _ hI;obtain⟨rfl,rfl,zG⟩:=hI;obtain⟨hl,rfl⟩:=hS;have hf:Du n 200 s=none:=KQ n 200 s fun j hj=>zG j (by omega);rw[hf];refine g8 rfl ⟨rfl,PH.le_or _ _,?_⟩;exact PH.or_right (xq (xr hc)) (iz 200)
 ·intro pre vals X' K' hS _ _ hI;obtain⟨rfl,k,sV,hk,h0,h1,rfl⟩:=hI;subst hS;have hf:=d2Q n k 200 s h0 h1 sV;rw[hf];refine g8 rfl ⟨rfl,PH.le_or _ _,?_⟩;rw[hk];exact PH.or_right (xq (xr hc)) (iz (k+1))
end
end Go.Proofs.Z
/- Chapter 32: chance.Below returns what Du says. -/
namespace Go.Proofs.Z
open Go.Proofs.Tryz
open Go.RowKit Go.RX Go.GS
def chV (s:Nat):Value:= .agg #[uv s]
def Vh (s:Nat) (z:Int):Value:=if z<1 then .tuple #[ii 0,chV 0,ii 2]else match Du z.toNat 200 s with
 |some (x,t)=> .tuple #[ii (x:Nat),chV t,ii 0]
 |none=> .tuple #[ii 0,chV 0,ii 9]
theorem Mc:s7 prog 63=chV 0:=by kernel_rfl
theorem Md:Ag prog 63 1:=⟨by kernel_rfl,by kernel_rfl,by kernel_rfl⟩
section
variable {H:PH} {s:Nat} {z:Int}
theorem Hf (s:Nat):(chV s).cells.size=1/\s8 (chV s).cells:=⟨rfl,fun c hc=>by simp[chV,Value.cells]at hc;subst hc;rfl⟩
theorem c7n:Con prog 221 [chV s] H fun u H'=>∃b,H b=none/\H'=H.put b (.cells #[uv s] 305 (0,0))/\u= .pointer (some ⟨b,0,none⟩):=by
 refine j3 mixed d2H ?_;refine d9 (Hf s) ?_;refine Ee (cs:= #[uv s]) rfl fun b hb=> ?_;exact g8 rfl ⟨b,hb,rfl,rfl⟩
theorem KT (hs:s<M64) (hz:z<9223372036854775808):Ao prog 180 [chV s,ii z] H (Vh s z):=by
 refine j3 mixed d2G ?_;refine d9 (Hf s) ?_;refine d4 ?_;refine i0 (b:=decide (z<1)) rfl (fun h=> ?_) (fun h=> ?_)
 ·replace h:=oDt h;refine g8 ?_ ⟨PH.le.refl _,by unfold Vh;rw[if_pos h]⟩;show Value.tuple #[ii 0,s7 prog _,ii 2]=_;rw[Mc]
 ·replace h:=oDf h;obtain⟨n,rfl⟩:∃n:Nat,z=(n:Int):=⟨z.toNat,by omega⟩;have wN:0<n:=by omega
  have hn:n<M64:=by simp only[M64];omega
  refine i6 c7n rfl fun u H1 ⟨b,hb,hH1,hu⟩=>⟨fun h=>(nomatch h),?_⟩;subst hu;simp only[cA,nA];have qQ:H1 b=some (.cells #[uv s] 305 (0,0)):=by rw[hH1];exact PH.put_self _ _ _
  have pP:PH.le H (j1 H1 b):=fun k o hk=>by
   unfold j1;rw[if_neg (fun e=>by subst e;rw[hb]at hk;cases hk),hH1,PH.put_ne _ _ (fun e=>by subst e;rw[hb]at hk;cases hk)];exact hk
  refine i6 (c7m (b:=b) hs wN hn qQ) (j4 rfl (gy rfl hn)) fun u H2 ⟨hu,tI,qR⟩=>⟨fun h=>(nomatch h),?_⟩;have hl:=pP.trans tI;have hbv:Vh s ((n:Nat):Int)=match Du n 200 s with|some (x,t)=> .tuple #[ii (x:Nat),chV t,ii 0]|none=> .tuple #[ii 0,chV 0,ii 9]:=by
   unfold Vh;rw[if_neg h,Int.toNat_natCast]
  rw[hbv];cases hf:Du n 200 s with
  |none=>
   rw[hf]at hu;subst hu;simp only[cA,nA];refine d9 ⟨_,rfl,by decide⟩ ?_;refine d9 ⟨_,rfl,by decide⟩ ?_;refine d4 ?_;refine Gn rfl ?_;refine g8 ?_ ⟨hl,rfl⟩;show Value.tuple #[ii 0,s7 prog _,ii 9]=_;rw[Mc]
  |some p=>
   obtain⟨x,t⟩:=p;obtain⟨hx,ht⟩:=ja wN hf;rw[hf]at hu qR;subst hu;simp only[cA,nA];refine d9 ⟨_,rfl,by simp[jb]⟩ ?_;refine d9 ⟨_,rfl,by simp[jb]⟩ ?_;refine d4 ?_;refine t6 rfl ?_;refine d4 ?_;refine As ?_;refine s6 KP ?_;refine s6 iy ?_;refine Fj (vs:=[uv t]) Md rfl rfl qR rfl (by simp) rfl ?_;refine d9 (Hf t) ?_;refine g8 ?_ ⟨hl,rfl⟩;show Value.tuple #[.int .i64 (IntKind.i64.wrap ((x:Nat):Int)),chV t,ii 0]=_;rw[we (by omega)];rfl
end
end Go.Proofs.Z

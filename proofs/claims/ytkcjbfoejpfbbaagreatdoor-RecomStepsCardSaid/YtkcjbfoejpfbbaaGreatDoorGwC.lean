/- Chapter 32: draws of chance.Below. -/
import Derived.Test.YtkcjbfoejpfbbaaGreatDoorGwT
import Derived.Test.YtkcjbfoejpfbbaaGreatDoorGaD
import Derived.Test.YtkcjbfoejpfbbaaGreatDoorRzL
namespace Go.GS
open Go.RowKit Go.RX
def nxS (s:Nat):Nat:=(s+11400714819323198485)%M64
def d2b (z:Nat):Nat:=(z^^^z/2^30)*13787848793156543929%M64
def d2H (z:Nat):Nat:=(z^^^z/2^27)*10723151780598845931%M64
def d8q (z:Nat):Nat:=z^^^z/2^31
def drw (s:Nat):Nat:=d8q (d2H (d2b (nxS s)))
def nxN:Nat->Nat->Nat
 |0,s=>s
 |k+1,s=>nxS (nxN k s)
theorem a2s:0<M64:=by decide
theorem b5x (s:Nat):nxS s<M64:=Nat.mod_lt _ a2s
theorem c9r {s:Nat} (hs:s<M64):∀k,nxN k s<M64
 |0=>hs
 |k+1=>b5x _
theorem b5y {a b:Nat} (ha:a<M64) (hb:b<M64):a^^^b<M64:=Nat.xor_lt_two_pow (n:=64) ha hb
theorem a2X {a k:Nat} (ha:a<M64):a/2^k<M64:=Nat.lt_of_le_of_lt (Nat.div_le_self _ _) ha
theorem d2c {a b:Nat} (ha:a<M64) (hb:b<M64):IntKind.u64.wrap ((BitVec.ofInt (IntKind.bits .u64) (a:Int)^^^BitVec.ofInt (IntKind.bits .u64) (b:Int)).toNat:Int)=((a^^^b:Nat):Int):=by
 have e:(BitVec.ofInt 64 (a:Int)^^^BitVec.ofInt 64 (b:Int)).toNat=a^^^b:=by rw[BitVec.toNat_xor,b0S ha,b0S hb]
 show IntKind.u64.wrap ((BitVec.ofInt 64 (a:Int)^^^BitVec.ofInt 64 (b:Int)).toNat:Int)=_
 rw[e,IntKind.wrap_u64]
 have:=b5y ha hb
 exact Int.emod_eq_of_lt (by omega) (by simp only[M64]at this;omega)
section
variable {P:Program} {ρ:List Value} {a b:SV} {A B:Nat}
theorem a8J (ha:D P ρ a=uv A) (hb:D P ρ b=uv B) (hA:A<M64) (hB:B<M64):D P ρ (.op2 .xor .u64 a b)=uv (A^^^B):=by
 show a1y .xor .u64 (intOf (D P ρ a)) (intOf (D P ρ b))=_
 rw[ha,hb]
 show Value.int .u64 _= .int .u64 _
 congr 1
 exact d2c hA hB
theorem b5z (ha:D P ρ a=uv A) (hb:D P ρ b=uv B):D P ρ (.op2 .mul .u64 a b)=uv (A*B%M64):=by
 show a1y .mul .u64 (intOf (D P ρ a)) (intOf (D P ρ b))=_
 rw[ha,hb]
 show Value.int .u64 (IntKind.u64.wrap ((A:Int)*(B:Int)))= .int .u64 _
 rw[IntKind.wrap_u64]
 congr 1
theorem c3S (ha:D P ρ a=uv A) (hb:D P ρ b=uv B):D P ρ (.op2 .add .u64 a b)=uv ((A+B)%M64):=by
 show a1y .add .u64 (intOf (D P ρ a)) (intOf (D P ρ b))=_
 rw[ha,hb]
 show Value.int .u64 (IntKind.u64.wrap ((A:Int)+(B:Int)))= .int .u64 _
 rw[IntKind.wrap_u64]
 congr 1
theorem d4W (ha:D P ρ a=uv A) (hA:A<M64):D P ρ (.op2 .mul .u64 (.op2 .xor .u64 a (.op2 .shr .u64 a (.k (.int .u64 30)))) (.k (.int .u64 13787848793156543929)))=uv (d2b A):=
 b5z (a8J ha (a3c ha rfl (by omega)) hA (a2X hA)) rfl
theorem d4X (ha:D P ρ a=uv A) (hA:A<M64):D P ρ (.op2 .mul .u64 (.op2 .xor .u64 a (.op2 .shr .u64 a (.k (.int .u64 27)))) (.k (.int .u64 10723151780598845931)))=uv (d2H A):=
 b5z (a8J ha (a3c ha rfl (by omega)) hA (a2X hA)) rfl
theorem d4Y (ha:D P ρ a=uv A) (hA:A<M64):D P ρ (.op2 .xor .u64 a (.op2 .shr .u64 a (.k (.int .u64 31))))=uv (d8q A):=a8J ha (a3c ha rfl (by omega)) hA (a2X hA)
end
theorem c3T (z:Nat):d2b z<M64:=Nat.mod_lt _ a2s
theorem a9X (z:Nat):d2H z<M64:=Nat.mod_lt _ a2s
theorem d4Z (s:Nat):drw s<M64:=b5y (a9X _) (a2X (a9X _))
end Go.GS
namespace Go.Proofs.YtkcjbfoejpfbbaaGreatDoor
open Go.Proofs.Tryz
open Go.RowKit Go.RX Go.GS
theorem c9s:FA prog 300 0 0:=⟨by kernel_rfl,of_decide_eq_true (by kernel_rfl),by kernel_rfl,by kernel_rfl,of_decide_eq_true (by kernel_rfl)⟩
theorem b5A:FA prog 298 0 0:=⟨by kernel_rfl,of_decide_eq_true (by kernel_rfl),by kernel_rfl,by kernel_rfl,of_decide_eq_true (by kernel_rfl)⟩
theorem c3U:FA prog 66 0 0:=⟨by kernel_rfl,of_decide_eq_true (by kernel_rfl),by kernel_rfl,by kernel_rfl,of_decide_eq_true (by kernel_rfl)⟩
section
variable {H:PH} {b s:Nat} {T:TypeId}
theorem d5a {G:Value->PH->Prop} {nx:List (List Value->PH->Prop)} {ρ:List Value} {t:Tree} {id i:Nat} {o:Oper} {x:Operand} {args:List SV} {ad:Addr} (ho:o.op= .nilCheck x) (hx:a0h [x] [.pointer (some ad)] x= .pointer (some ad)) (ha:args.map (D prog ρ)=[.pointer (some ad)]) (n:den prog G t nx (ρ++[.pointer (some ad)]) H):den prog G (.prim id i o args t) nx ρ H:=
 a0u ((b0O ho hx).rds H) ha n
theorem a1a {G:Value->PH->Prop} {nx:List (List Value->PH->Prop)} {ρ:List Value} {t:Tree} {id i:Nat} {o:Oper} {x:Operand} {args:List SV} {ad:Addr} (n:den prog G t nx (ρ++[.pointer (some ad)]) H) (ho:o.op= .nilCheck x:=by exact rfl) (ha:args.map (D prog ρ)=[.pointer (some ad)]:=by exact rfl) (hx:a0h [x] [.pointer (some ad)] x= .pointer (some ad):=by exact rfl):den prog G (.prim id i o args t) nx ρ H:=d5a ho hx ha n
theorem c7E (hs:s<M64) (hb:H b=some (.cells #[uv s] T (0,0))):Con prog 247 [.pointer (some ⟨b,0,none⟩)] H fun u H'=>u=uv (drw s)/\H'=H.put b (.cells #[uv (nxS s)] T (0,0)):=by
 refine a0j a0n c2N ?_
 refine a1a ?_
 refine a0z b5A ?_
 refine a0z c3U ?_
 refine a0D a2K rfl rfl hb rfl rfl ?_
 refine a0a ?_
 refine a1a ?_
 refine a0z b5A ?_
 refine a0z c3U ?_
 refine a6J (u:=uv (nxS s)) a2K rfl rfl rfl hb (by simp) rfl rfl (a0F rfl (c3S rfl rfl)) (fun h=>(nomatch h)) ?_
 have hb2:(H.put b (.cells ((#[uv s]:Array Value).setIfInBounds 0 (uv (nxS s))) T (0,0))) b=some (.cells #[uv (nxS s)] T (0,0)):=PH.put_self _ _ _
 refine a1a ?_
 refine a0z b5A ?_
 refine a0z c3U ?_
 refine a0D a2K rfl rfl hb2 rfl rfl ?_
 have hn:=b5x s
 refine a0a ?_
 refine a0b (v:=uv (drw s)) ?_ ⟨rfl,rfl⟩
 exact d4Y (d4X (d4W rfl hn) (c3T _)) (a9X _)
end
theorem c3V:a4w prog 264=true:=by kernel_rfl
theorem c7F:a4w prog 247=true:=by kernel_rfl
theorem d7y:Sc prog 309:=⟨by kernel_rfl,by kernel_rfl,by kernel_rfl⟩
def fnx (b:Nat):Value:= .func (.func 247) #[.pointer (some ⟨b,0,none⟩)] #[]
def kbx (c b:Nat) (Tf Ts:TypeId) (s k:Nat):PH:=(PH.nil.put c (.cells #[fnx b] Tf (0,0))).put b (.cells #[uv (nxN k s)] Ts (0,0))
section
variable {c b s:Nat} {Tf Ts:TypeId}
theorem c7G (k:Nat):kbx c b Tf Ts s k b=some (.cells #[uv (nxN k s)] Ts (0,0)):=PH.put_self _ _ _
theorem d7z (h:c≠b) (k:Nat):kbx c b Tf Ts s k c=some (.cells #[fnx b] Tf (0,0)):=by unfold kbx;rw[PH.put_ne _ _ h];exact PH.put_self _ _ _
theorem c7H {X:PH} (k:Nat) (h:X b=none):(X.or (kbx c b Tf Ts s k)).put b (.cells #[uv (nxN (k+1) s)] Ts (0,0))=X.or (kbx c b Tf Ts s (k+1)):=by
 rw[PH.or_put h];unfold kbx;rw[PH.put_put]
theorem a9Y {X:PH} {k j:Nat} (h:Disj X (kbx c b Tf Ts s k)):Disj X (kbx c b Tf Ts s j):=fun x hx=>by
 have:=h x hx
 unfold kbx PH.put at this⊢
 split at this
 ·cases this
 ·rename_i e;rw[if_neg e];exact this
theorem c7I {Ro:PH} (hs:s<M64) (hcb:c≠b):ItC prog 264 [.pointer (some ⟨c,0,none⟩)] Ro (kbx c b Tf Ts s 0) (fun pre xs=>pre.length<200/\xs=[uv (drw (nxN pre.length s))])
  (fun xs K'=>xs.length=200/\K'=kbx c b Tf Ts s 200) (fun pre K'=>K'=kbx c b Tf Ts s pre.length):=by
 intro l J Jx hRo hr X hX hd w hw
 refine(a0r (H:=X.or (kbx c b Tf Ts s 0)) (V:=fun _ H'=>∃X' K',PH.le (X'.or K') H'/\Disj X' K'/\((∃xs,(xs.length=200/\K'=kbx c b Tf Ts s 200)/\J xs X')\/(∃pre,K'=kbx c b Tf Ts s pre.length/\Jx pre X'))) a0n b5g (by kernel_rfl) rfl ?_ w hw).mono fun e w' ⟨v,H',he,hst,hV⟩=>⟨v,H',he,hst,hV⟩
 refine a0i (α:=Nat×List (List Value)×PH) (fun a=>[ii (a.1:Nat)]) (fun a H'=>a.1<=200/\H'=a.2.2.or (kbx c b Tf Ts s a.1)/\Disj a.2.2 (kbx c b Tf Ts s a.1)/\a.2.1.length=a.1/\J a.2.1 a.2.2) (fun a=>200-a.1) (0,[],X)
  rfl ⟨Nat.zero_le _,rfl,hd,rfl,hX⟩ fun a H' hQ=> ?_
 obtain⟨k,pre,X'⟩:=a
 obtain⟨hk,rfl,hd',hpre,hJ⟩:=hQ
 simp only at hk hd' hpre hJ
 simp only[cA,nA]
 refine a0a ?_
 refine a0e (b:=decide (((k:Nat):Int)<200)) rfl (fun h=> ?_) (fun h=> ?_)
 ·replace h:=of_decide_eq_true h
  have hXb:X' b=none:=Disj.none hd' (b:=b) (by rw[c7G];exact fun h=>nomatch h)
  refine a0D d7y rfl rfl (PH.or_right hd' (d7z hcb k)) (u:=fnx b) rfl rfl ?_
  have hcon:=c7E (b:=b) (c9r hs k) (PH.or_right hd' (c7G k))
  refine a0H (Go.RZ.opn_callw (P:=prog) (ws:=[]) (bs:= #[.pointer (some ⟨b,0,none⟩)]) (caps:= #[]) (vs:=[fnx b]) rfl rfl rfl c7F hcon) rfl fun u H2 ⟨hu,hH2⟩=>⟨fun h=>(nomatch h),?_⟩
  subst hu
  rw[show nxS (nxN k s)=nxN (k+1) s from rfl,c7H k hXb]at hH2
  subst hH2
  simp only[cA,nA]
  refine a3o (hr _ [uv (drw (nxN pre.length s))] X' (kbx c b Tf Ts s (k+1)) ⟨by omega,rfl⟩ hJ (a9Y hd')) rfl rfl rfl (by rw[hpre];rfl) rfl fun v X2 hd2 hV=> ?_
  obtain⟨bb,rfl,hb1,hb2⟩:∃bb,v= .bool bb/\(bb=true->J (pre++[[uv (drw (nxN pre.length s))]]) X2)/\(bb=false->Jx (pre++[[uv (drw (nxN pre.length s))]]) X2):=by
   rcases hV with⟨rfl,h⟩|⟨rfl,h⟩
   ·exact⟨true,rfl,fun _=>h,(fun h=>nomatch h)⟩
   ·exact⟨false,rfl,(fun h=>nomatch h),fun _=>h⟩
  refine a0a ?_
  refine a0e (b:= !bb) rfl (fun hbb=> ?_) (fun hbb=> ?_)
  ·exact a0b rfl ⟨X2,_,PH.le.refl _,hd2,.inr ⟨_,by rw[List.length_append,hpre];rfl,hb2 (by simpa using hbb)⟩⟩
  ·exact⟨(k+1,pre++[[uv (drw (nxN pre.length s))]],X2),by show 200-(k+1)<200-k;omega,a2S (a0k rfl (by omega)),⟨by show k+1<=200;omega,rfl,hd2,by simp[hpre],hb1 (by simpa using hbb)⟩⟩
 ·replace h:=of_decide_eq_false h
  have hk2:k=200:=by omega
  subst hk2
  exact a0b rfl ⟨X',_,PH.le.refl _,hd',.inl ⟨_,⟨hpre,rfl⟩,hJ⟩⟩
end
end Go.Proofs.YtkcjbfoejpfbbaaGreatDoor
/- Chapter 32: chance.Below. -/
namespace Go.GS
open Go.RowKit Go.RX
theorem a8K (s:Nat):∀k,nxN k (nxS s)=nxS (nxN k s)
 |0=>rfl
 |k+1=>by show nxS (nxN k (nxS s))=_;rw[a8K s k];rfl
def a9Z (n:Nat):Nat:=(M64-n)%M64%n
def a8L (n x:Nat):Bool:=decide (x<=((M64-a9Z n)%M64+(M64-1))%M64)||decide (a9Z n=0)
def a7B (n:Nat):Nat->Nat->Option (Nat×Nat)
 |0,_=>none
 |f+1,s=>if a8L n (drw s)then some (drw s%n,nxS s)else a7B n f (nxS s)
theorem c3W (n:Nat):∀(k f s:Nat),(∀j,j<k->a8L n (drw (nxN j s))=false)->a8L n (drw (nxN k s))=true->k<f->a7B n f s=some (drw (nxN k s)%n,nxN (k+1) s):=by
 intro k
 induction k with
 |zero=>
  intro f s _ h hf
  obtain⟨f,rfl⟩:∃g,f=g+1:=⟨f-1,by omega⟩
  have h:a8L n (drw s)=true:=h
  rw[show nxN (0+1) s=nxS s from rfl,show nxN 0 s=s from rfl]
  simp only[a7B,h,if_true]
 |succ k ih=>
  intro f s h0 h hf
  obtain⟨f,rfl⟩:∃g,f=g+1:=⟨f-1,by omega⟩
  have h1:a8L n (drw s)=false:=h0 0 (by omega)
  simp only[a7B,h1,Bool.false_eq_true,if_false]
  have:=ih f (nxS s) (fun j hj=>by rw[a8K];exact h0 (j+1) (by omega)) (by rw[a8K];exact h) (by omega)
  rw[this,a8K s k,a8K s (k+1)]
  rw[show nxN (k+1) s=nxS (nxN k s)from rfl,show nxN (k+1+1) s=nxS (nxS (nxN k s))from rfl]
set_option maxRecDepth 100000 in
theorem a7s (n:Nat):∀(f s:Nat),(∀j,j<f->a8L n (drw (nxN j s))=false)->a7B n f s=none
 |0,_,_=>rfl
 |f+1,s,h=>by
  have h1:a8L n (drw s)=false:=h 0 (by omega)
  simp only[a7B,h1,Bool.false_eq_true,if_false]
  exact a7s n f (nxS s) fun j hj=>by rw[a8K];exact h (j+1) (by omega)
set_option maxRecDepth 100000 in
theorem b0a {n x t:Nat} (hn:0<n):∀{f s},a7B n f s=some (x,t)->x<n/\t<M64
 |0,s,h=>by simp[a7B]at h
 |f+1,s,h=>by
  simp only[a7B]at h
  split at h
  ·simp only[Option.some.injEq,Prod.mk.injEq]at h
   obtain⟨rfl,rfl⟩:=h
   exact⟨Nat.mod_lt _ hn,b5x s⟩
  ·exact b0a hn h
section
variable {P:Program} {ρ:List Value} {a b:SV} {A B:Nat}
theorem c3X (ha:D P ρ a=uv A) (hb:D P ρ b=uv B):D P ρ (.op2 .rem .u64 a b)=uv (A%B):=by
 show a1y .rem .u64 (intOf (D P ρ a)) (intOf (D P ρ b))=_
 rw[ha,hb]
 show Value.int .u64 (Int.tmod (A:Int) (B:Int))= .int .u64 _
 rw[<-Int.ofNat_tmod]
theorem d7A (ha:D P ρ a=uv A) (hb:D P ρ b=uv B):D P ρ (.op2 .leq .u64 a b)= .bool (decide (A<=B)):=by
 show a1y .leq .u64 (intOf (D P ρ a)) (intOf (D P ρ b))=_
 rw[ha,hb]
 show Value.bool (decide ((A:Int)<=(B:Int)))=_
 exact congrArg Value.bool (decide_eq_decide.2 (by omega))
theorem d5b (ha:D P ρ a=uv A) (hb:D P ρ b=uv B):D P ρ (.op2 .eql .u64 a b)= .bool (decide (A=B)):=by
 show a1y .eql .u64 (intOf (D P ρ a)) (intOf (D P ρ b))=_
 rw[ha,hb]
 show Value.bool ((A:Int)==(B:Int))=_
 congr 1
 rw[Bool.eq_iff_iff,beq_iff_eq,decide_eq_true_iff]
 omega
theorem d7B (ha:D P ρ a=uv A) (hA:A<M64):D P ρ (.op2 .sub .u64 a (.k (.int .u64 1)))=uv ((A+(M64-1))%M64):=by
 show a1y .sub .u64 (intOf (D P ρ a)) 1=_
 rw[ha]
 show Value.int .u64 (IntKind.u64.wrap ((A:Int)-1))= .int .u64 _
 rw[IntKind.wrap_u64]
 congr 1
 simp only[M64]at*
 omega
end
end Go.GS
namespace Go.Proofs.YtkcjbfoejpfbbaaGreatDoor
open Go.Proofs.Tryz
open Go.RowKit Go.RX Go.GS
def a1W (H:PH) (b:Nat):PH:=fun k=>if k=b then none else H k
theorem c7J {H:PH} {b c s:Nat} {Tf Ts:TypeId} (hb:H b=some (.cells #[uv s] Ts (0,0))) (hc:H c=none):H.put c (.cells #[fnx b] Tf (0,0))=(a1W H b).or (kbx c b Tf Ts s 0):=by
 funext k
 unfold PH.or a1W kbx PH.put PH.nil
 by_cases e:k=b
 ·subst e
  have:¬k=c:=fun h=>by subst h;rw[hc]at hb;cases hb
  simp only[if_neg this,if_true];exact hb
 ·by_cases e2:k=c
  ·subst e2;simp only[if_neg e,if_true,hc]
  ·simp only[if_neg e,if_neg e2];cases H k<;>rfl
theorem a7t {H:PH} {b c s:Nat} {Tf Ts:TypeId} (hc:H c=none):Disj (a1W H b) (kbx c b Tf Ts s 0):=fun k hk=>by
 unfold a1W at hk
 unfold kbx PH.put PH.nil
 by_cases e:k=b
 ·rw[if_pos e]at hk;exact absurd rfl hk
 ·rw[if_neg e]at hk
  rw[if_neg e,if_neg (fun h=>by subst h;exact hk hc)]
section
variable {H:PH} {b s n:Nat} {Ts:TypeId}
theorem c7K:Con prog 248 [fnx b] H fun u H'=>∃c,H c=none/\H'=H.put c (.cells #[fnx b] 309 (0,0))/\u= .func (.func 264) #[] #[.pointer (some ⟨c,0,none⟩)]:=by
 refine a0j a0n c2P ?_
 refine a0c ⟨rfl,fun x hx=>by simp[fnx,Value.cells,D]at hx;subst hx;rfl⟩ ?_
 refine a2i (cs:= #[fnx b]) rfl fun c hc=> ?_
 refine a3p (a2e (vs:=[.pointer (some ⟨c,0,none⟩)]) rfl rfl) rfl ?_
 exact a0b rfl ⟨c,hc,rfl,rfl⟩
def d6a (n s:Nat) (r:Option (Nat×Nat)):Value×Nat:=match r with
 |some (x,t)=>(.tuple #[uv x,ii 0],t)
 |none=>(.tuple #[uv 0,ii 9],nxN 200 s)
theorem d5c:a0O prog 47=ii 0:=by kernel_rfl
set_option maxHeartbeats 1000000 in
theorem c7L (hs:s<M64) (hn0:0<n) (hn:n<M64) (hb:H b=some (.cells #[uv s] Ts (0,0))):Con prog 224 [.pointer (some ⟨b,0,none⟩),uv n] H fun u H'=>u=(d6a n s (a7B n 200 s)).1/\PH.le (a1W H b) H'/\H' b=some (.cells #[uv (d6a n s (a7B n 200 s)).2] Ts (0,0)):=by
 refine a0j a0n c2L ?_
 refine a0c (el_u64.vcells n) ?_
 refine a1a ?_
 simp only[cA,nA]
 refine a0z c9s ?_
 simp only[cA,nA]
 refine a3p (v:=fnx b) (vs:=[.pointer (some ⟨b,0,none⟩)]) (fun w=> ?_) rfl ?_
 ·have hos:(opr f224 1 3).op.operands.toList=[.tmp 11]:=by rw[a7n];rfl
  unfold Stp
  rw[hos]
  simp only[execOp,a7n,Sem.run_bind,Instr.makeFunc,Sem.run_pure,Result.andThen_ok]
  exact⟨by simp[fnx,a0h,a5e],Ext.refl _⟩
 simp only[cA,nA]
 refine a0a ?_
 refine a0c (by show((n:Nat):Int)≠0;omega) ?_
 refine a0f (c7K (b:=b)) rfl fun u H1 ⟨c,hc,hH1,hu⟩=>⟨fun h=>(nomatch h),?_⟩
 subst hu
 simp only[cA,nA]
 rw[c7J hb hc]at hH1
 subst hH1
 have hcb:c≠b:=fun h=>by subst h;rw[hc]at hb;cases hb
 have hr:a9Z n<M64:=Nat.lt_of_le_of_lt (Nat.mod_le _ _) (Nat.mod_lt _ a2s)
 have dN:∀{ρ:List Value} {y:SV},D prog ρ y=uv n->D prog ρ (.op2 .rem .u64 (.op1 .neg .u64 y) y)=uv (a9Z n):=fun h=>c3X (a8d h hn) h
 have dL:∀{ρ:List Value} {y:SV},D prog ρ y=uv n->D prog ρ (.op2 .sub .u64 (.op1 .neg .u64 (.op2 .rem .u64 (.op1 .neg .u64 y) y)) (.k (.int .u64 1)))=uv (((M64-a9Z n)%M64+(M64-1))%M64):=fun h=>d7B (a8d (dN h) hr) (Nat.mod_lt _ a2s)
 refine b8m (X:=a1W H b) (K:=kbx c b 309 Ts s 0) (Ro:=PH.nil) (fun pre vals X'=>X'=a1W H b/\vals=[uv 0,ii 0]/\∀j,j<pre.length->a8L n (drw (nxN j s))=false)
  (fun pre vals X'=>X'=a1W H b/\∃k,k<200/\pre.length=k+1/\(∀j,j<k->a8L n (drw (nxN j s))=false)/\a8L n (drw (nxN k s))=true/\vals=[uv (drw (nxN k s)%n),ii 0]) (c7I hs hcb) c3V (a7t hc) rfl (fun _ _ _ _ x o hx=>by cases hx)
  ⟨rfl,by show[a0O prog _,a0O prog _]=_;rw[d1e,d5c],fun j hj=>absurd hj (Nat.not_lt_zero _)⟩ ?_ ?_ ?_
 ·intro pre xs vals X' hE hv hI
  obtain⟨rfl,rfl,hacc⟩:=hI
  obtain⟨hlt,hE⟩:=hE
  subst hE
  refine⟨rfl,?_⟩
  simp only[cA,nA]
  refine a0a ?_
  have hx:∀{ρ:List Value},D prog ρ (.cell (.v 1) 0 0 noI)=uv n->D prog ρ (.v 6)=uv (drw (nxN pre.length s))->D prog ρ (.op2 .rem .u64 (.v 6) (.cell (.v 1) 0 0 noI))=uv (drw (nxN pre.length s)%n):=fun h1 h2=>c3X h2 h1
  refine a0e (b:=decide (drw (nxN pre.length s)<=((M64-a9Z n)%M64+(M64-1))%M64)) (d7A rfl (dL rfl)) (fun h=> ?_) (fun h=> ?_)
  ·exact⟨rfl,pre.length,hlt,by simp,hacc,by unfold a8L;rw[h];rfl,a0F (hx rfl rfl) rfl⟩
  ·refine a0e (b:=decide (a9Z n=0)) (d5b (dN rfl) rfl) (fun h2=> ?_) (fun h2=> ?_)
   ·exact⟨rfl,pre.length,hlt,by simp,hacc,by unfold a8L;rw[h2,Bool.or_true],a0F (hx rfl rfl) rfl⟩
   ·refine⟨rfl,rfl,fun j hj=> ?_⟩
    simp only[List.length_append,List.length_cons,List.length_nil]at hj
    by_cases e:j=pre.length
    ·subst e;unfold a8L;rw[h,h2];rfl
    ·exact hacc j (by omega)
 ·intro xs vals X' K' hS _ _ hI
  obtain⟨rfl,rfl,hacc⟩:=hI
  obtain⟨hl,rfl⟩:=hS
  have hf:a7B n 200 s=none:=a7s n 200 s fun j hj=>hacc j (by omega)
  rw[hf]
  refine a0b rfl ⟨rfl,PH.le_or _ _,?_⟩
  exact PH.or_right (a9Y (a7t hc)) (c7G 200)
 ·intro pre vals X' K' hS _ _ hI
  obtain⟨rfl,k,hk2,hk,h0,h1,rfl⟩:=hI
  subst hS
  have hf:=c3W n k 200 s h0 h1 hk2
  rw[hf]
  refine a0b rfl ⟨rfl,PH.le_or _ _,?_⟩
  rw[hk]
  exact PH.or_right (a9Y (a7t hc)) (c7G (k+1))
end
end Go.Proofs.YtkcjbfoejpfbbaaGreatDoor
/- Chapter 32: chance.Below returns what a7B says. -/
namespace Go.Proofs.YtkcjbfoejpfbbaaGreatDoor
open Go.Proofs.Tryz
open Go.RowKit Go.RX Go.GS
def chV (s:Nat):Value:= .agg #[uv s]
def a8M (s:Nat) (z:Int):Value:=if z<1 then .tuple #[ii 0,chV 0,ii 2]else match a7B z.toNat 200 s with
 |some (x,t)=> .tuple #[ii (x:Nat),chV t,ii 0]
 |none=> .tuple #[ii 0,chV 0,ii 9]
theorem a3e:a0O prog 66=chV 0:=by kernel_rfl
theorem a4U:Ag prog 66 1:=⟨by kernel_rfl,by kernel_rfl,by kernel_rfl⟩
section
variable {H:PH} {s:Nat} {z:Int}
theorem a0W (s:Nat):(chV s).cells.size=1/\a0J (chV s).cells:=⟨rfl,fun c hc=>by simp[chV,Value.cells]at hc;subst hc;rfl⟩
theorem c7M:Con prog 223 [chV s] H fun u H'=>∃b,H b=none/\H'=H.put b (.cells #[uv s] 300 (0,0))/\u= .pointer (some ⟨b,0,none⟩):=by
 refine a0j a0n c2J ?_
 refine a0c (a0W s) ?_
 refine a2i (cs:= #[uv s]) rfl fun b hb=> ?_
 exact a0b rfl ⟨b,hb,rfl,rfl⟩
theorem b1T (hs:s<M64) (hz:z<9223372036854775808):a3Z prog 183 [chV s,ii z] H (a8M s z):=by
 refine a0j a0n c2H ?_
 refine a0c (a0W s) ?_
 refine a0a ?_
 refine a0e (b:=decide (z<1)) rfl (fun h=> ?_) (fun h=> ?_)
 ·replace h:=of_decide_eq_true h
  refine a0b ?_ ⟨PH.le.refl _,by unfold a8M;rw[if_pos h]⟩
  show Value.tuple #[ii 0,a0O prog _,ii 2]=_
  rw[a3e]
 ·replace h:=of_decide_eq_false h
  obtain⟨n,rfl⟩:∃n:Nat,z=(n:Int):=⟨z.toNat,by omega⟩
  have hn0:0<n:=by omega
  have hn:n<M64:=by simp only[M64];omega
  refine a0f c7M rfl fun u H1 ⟨b,hb,hH1,hu⟩=>⟨fun h=>(nomatch h),?_⟩
  subst hu
  simp only[cA,nA]
  have hb1:H1 b=some (.cells #[uv s] 300 (0,0)):=by rw[hH1];exact PH.put_self _ _ _
  have hle:PH.le H (a1W H1 b):=fun k o hk=>by
   unfold a1W
   rw[if_neg (fun e=>by subst e;rw[hb]at hk;cases hk),hH1,PH.put_ne _ _ (fun e=>by subst e;rw[hb]at hk;cases hk)]
   exact hk
  refine a0f (c7L (b:=b) hs hn0 hn hb1) (a0F rfl (b3a rfl hn)) fun u H2 ⟨hu,hl2,hb2⟩=>⟨fun h=>(nomatch h),?_⟩
  have hl:=hle.trans hl2
  have hbv:a8M s ((n:Nat):Int)=match a7B n 200 s with|some (x,t)=> .tuple #[ii (x:Nat),chV t,ii 0]|none=> .tuple #[ii 0,chV 0,ii 9]:=by
   unfold a8M;rw[if_neg h,Int.toNat_natCast]
  rw[hbv]
  cases hf:a7B n 200 s with
  |none=>
   rw[hf]at hu
   subst hu
   simp only[cA,nA]
   refine a0c ⟨_,rfl,by decide⟩ ?_
   refine a0c ⟨_,rfl,by decide⟩ ?_
   refine a0a ?_
   refine a4D rfl ?_
   refine a0b ?_ ⟨hl,rfl⟩
   show Value.tuple #[ii 0,a0O prog _,ii 9]=_
   rw[a3e]
  |some p=>
   obtain⟨x,t⟩:=p
   obtain⟨hx,ht⟩:=b0a hn0 hf
   rw[hf]at hu hb2
   subst hu
   simp only[cA,nA]
   refine a0c ⟨_,rfl,by simp[d6a]⟩ ?_
   refine a0c ⟨_,rfl,by simp[d6a]⟩ ?_
   refine a0a ?_
   refine a0l rfl ?_
   refine a0a ?_
   refine a1a ?_
   refine a0z c9s ?_
   refine a0z b5A ?_
   refine a1D (vs:=[uv t]) a4U rfl rfl hb2 rfl (by simp) rfl ?_
   refine a0c (a0W t) ?_
   refine a0b ?_ ⟨hl,rfl⟩
   show Value.tuple #[.int .i64 (IntKind.i64.wrap ((x:Nat):Int)),chV t,ii 0]=_
   rw[b4y (by omega)];rfl
end
end Go.Proofs.YtkcjbfoejpfbbaaGreatDoor

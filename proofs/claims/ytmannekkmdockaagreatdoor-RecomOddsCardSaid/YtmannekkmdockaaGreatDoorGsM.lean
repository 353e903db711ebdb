/- What can be reached. -/
import Derived.Test.YtmannekkmdockaaGreatDoorGaD
open Classical renaming propDecidable->gR
open List renaming any_append->oD,any_eq_true->jV,filter_cons->eO,range->eP
namespace Go.GS
def adj (es:List (Nat×Nat)) (y z:Nat):Prop:=∃e∈es,(e.1=y/\e.2=z)\/(e.2=y/\e.1=z)
theorem adj.symm {es:List (Nat×Nat)} {y z:Nat} (h:adj es y z):adj es z y:=by
 obtain⟨e,he,h|h⟩:=h
 ·exact⟨e,he,.inr ⟨h.2,h.1⟩⟩
 ·exact⟨e,he,.inl ⟨h.2,h.1⟩⟩
inductive Rch (es:List (Nat×Nat)) (set x:Nat):Nat->Prop
 |base:Rch es set x x
 |step {y z:Nat}:Rch es set x y->adj es y z->bit set z=true->Rch es set x z
theorem Rch.trans {es:List (Nat×Nat)} {set x y z:Nat} (h1:Rch es set x y) (h2:Rch es set y z):Rch es set x z:=by
 induction h2 with
 |base=>exact h1
 |step _ ha hz ih=>exact ih.step ha hz
theorem Rch.mem {es:List (Nat×Nat)} {set x y:Nat} (h:Rch es set x y) (hx:bit set x=true):bit set y=true:=by
 cases h with
 |base=>exact hx
 |step _ _ hz=>exact hz
theorem Rch.symm {es:List (Nat×Nat)} {set x y:Nat} (h:Rch es set x y) (hx:bit set x=true):Rch es set y x:=by
 induction h with
 |base=>exact .base
 |step h1 ha hz ih=>exact((Rch.base.step ha.symm (h1.mem hx)).trans ih)
def CL (es:List (Nat×Nat)) (set x c:Nat):Prop:=c<M64/\∀y,bit c y=true↔Rch es set x y
theorem CL.uniq {es:List (Nat×Nat)} {set x c d:Nat} (h:CL es set x c) (k:CL es set x d):c=d:=Ao fun y=>by
 rw[bC,h.2,k.2]
def Cn (es:List (Nat×Nat)) (set:Nat):Prop:=∃x,bit set x=true/\∀y,bit set y=true->Rch es set x y
theorem Cn.all {es:List (Nat×Nat)} {set x y:Nat} (h:Cn es set) (hx:bit set x=true) (hy:bit set y=true):Rch es set x y:=by
 obtain⟨z,hz,h⟩:=h;exact((h x hx).symm hz).trans (h y hy)
theorem MJ {n:Nat} {es:List (Nat×Nat)} (h:∀e∈es,e.1<e.2/\e.2<n) {x y:Nat}:bit (nb es x) y=true↔adj es x y:=by
 rw[d7u];constructor
 ·rintro⟨e,he,h1|h1⟩
  ·exact⟨e,he,.inl h1⟩
  ·exact⟨e,he,.inr h1.2⟩
 ·rintro⟨e,he,h1|h1⟩
  ·exact⟨e,he,.inl h1⟩
  ·exact⟨e,he,.inr ⟨by have:=h e he;omega,h1⟩⟩
def grow (es:List (Nat×Nat)) (set part:Nat) (l:List Nat):Nat:=l.foldl (fun s n=>s|||(nb es n&&&set)) part
theorem zc (es:List (Nat×Nat)) (set part:Nat) (l:List Nat) (x:Nat):grow es set part (l++[x])=grow es set part l|||(nb es x&&&set):=by
 unfold grow;rw[dZ];rfl
theorem Zm {es:List (Nat×Nat)} {set part:Nat} (l:List Nat) (y:Nat):bit (grow es set part l) y=true↔bit part y=true\/∃x∈l,bit (nb es x) y=true/\bit set y=true:=by
 induction l using Po with
 |nil=>simp[grow]
 |snoc l x ih=>
  rw[zc,Ac,Gl,dB,ih,bA];simp only[aQ,aL];constructor
  ·rintro((h|⟨a,h1,h2⟩)|h)
   ·exact .inl h
   ·exact .inr ⟨a,.inl h1,h2⟩
   ·exact .inr ⟨x,.inr rfl,h⟩
  ·rintro(h|⟨a,h1|rfl,h2⟩)
   ·exact .inl (.inl h)
   ·exact .inl (.inr ⟨a,h1,h2⟩)
   ·exact .inr h2
theorem MM {es:List (Nat×Nat)} {set part:Nat} (hs:set<M64) (hp:part<M64) (l:List Nat):grow es set part l<M64:=by
 induction l using Po with
 |nil=>exact hp
 |snoc l x ih=>rw[zc];exact Hy ih (d3A hs)
theorem c8M {n:Nat} {es:List (Nat×Nat)} (h:∀e∈es,e.1<e.2/\e.2<n) {set part x:Nat} (hp:part<M64) (hx:bit part x=true) (hr:∀y,bit part y=true->Rch es set x y) (he:grow es set part (els part)=part):CL es set x part:=by
 refine⟨hp,fun y=>⟨hr y,fun hy=> ?_⟩⟩;induction hy with
 |base=>exact hx
 | @step u v _ ha hz ih=>
  rw[<-he,Zm];exact .inr ⟨u,(Jj hp).2 ih,(MJ h).2 ha,hz⟩
theorem c8N {n:Nat} {es:List (Nat×Nat)} (h:∀e∈es,e.1<e.2/\e.2<n) {set part x:Nat} (hp:part<M64) (hr:∀y,bit part y=true->Rch es set x y):∀y,bit (grow es set part (els part)) y=true->Rch es set x y:=by
 intro y hy;rw[Zm]at hy;rcases hy with hy|⟨z,h1,h2,h3⟩
 ·exact hr y hy
 ·exact(hr z ((Jj hp).1 h1)).step ((MJ h).1 h2) h3
theorem c2Z {p q:Nat->Bool} (hpq:∀y,p y=true->q y=true) {x:Nat} (hq:q x=true) (hp:p x=false):∀l:List Nat,x∈l->(l.filter p).length<(l.filter q).length:=by
 have pY:∀l:List Nat,(l.filter p).length<=(l.filter q).length:=by
  intro l;induction l with
  |nil=>exact aS _
  |cons a l ih=>
   rw[eO,eO];split
   ·rename_i h;rw[if_pos (hpq a h)];simp;exact ih
   ·split
    ·simp;omega
    ·exact ih
 intro l;induction l with
 |nil=>intro h;cases h
 |cons a l ih=>
  intro h;rw[eO,eO];rcases aP.1 h with rfl|h
  ·rw[if_neg (by simp[hp]),if_pos hq];have:=pY l;simp;omega
  ·have:=ih h;split
   ·rename_i h;rw[if_pos (hpq a h)];simp;exact this
   ·split
    ·simp;omega
    ·exact this
theorem kz {a b x:Nat} (h:∀y,bit a y=true->bit b y=true) (hb:bit b x=true) (ha:bit a x=false) (hx:x<64):card a<card b:=
 c2Z h hb ha _ (bR.2 hx)
theorem Jk (a:Nat):card a<=64:=by
 have:=cC (bit a) (eP 64);simpa[card,els]using this
theorem Zn {a b:Nat} (h:a≠b) (uD:∀y,bit a y=true->bit b y=true):∃x,bit b x=true/\bit a x=false:=by
 apply bB;intro hn;apply h;apply Ao;intro y;cases hy:bit a y with
 |true=>rw[uD y hy]
 |false=>
  cases hb:bit b y with
  |false=>rfl
  |true=>exact absurd ⟨y,hb,hy⟩ hn
def CS (es:List (Nat×Nat)) (set rest k:Nat):Prop:=(k=0/\rest=set)\/(k=1/\∃x c,bit set x=true/\CL es set x c/\rest=sdf set c)\/(2<=k/\¬Cn es set)
theorem CS.end {es:List (Nat×Nat)} {set k:Nat} (h:CS es set 0 k):k=1↔Cn es set:=by
 rcases h with⟨rfl,h⟩|⟨rfl,x,c,hx,hc,h⟩|⟨h1,h2⟩
 ·subst h;constructor
  ·intro h;cases h
  ·rintro⟨x,hx,_⟩;rw[Dc]at hx;cases hx
 ·refine⟨fun _=>⟨x,hx,fun y hy=> ?_⟩,fun _=>rfl⟩;have:bit (sdf set c) y=false:=by rw[<-h,Dc]
  rw[z6,hy]at this;exact(hc.2 y).1 (by simpa using this)
 ·exact⟨fun h=>aA,fun h=>absurd h h2⟩
theorem CS.next {es:List (Nat×Nat)} {set rest k x c:Nat} (h:CS es set rest k) (hx:bit rest x=true) (hxs:bit set x=true) (hc:CL es set x c):CS es set (sdf rest c) (k+1):=by
 rcases h with⟨rfl,rfl⟩|⟨rfl,y,d,hy,hd,rfl⟩|⟨h1,h2⟩
 ·exact .inr (.inl ⟨rfl,x,c,hxs,hc,rfl⟩)
 ·refine .inr (.inr ⟨aA,fun hn=> ?_⟩);rw[z6,(hd.2 x).2 (hn.all hy hxs)]at hx;simp at hx
 ·exact .inr (.inr ⟨aA,h2⟩)
end Go.GS
namespace Go.RX
open RowKit
theorem Vg {P:Program} {ρ:List Value} {x:SV} {v:Value} (h:D P ρ x=v) (hc:v.cells= #[v]):D P ρ (.cell x 0 0 noI)=v:=by
 show(D P ρ x).cells.getD (0+0*t6 (D P ρ noI)) undef=v;rw[h,hc,cD];rfl
end Go.RX
namespace Go.Z
open Proofs.Tryz RowKit RX GS
section
variable {H:PH} {n:Nat} {w:Value} {es:List (Nat×Nat)} {set:Nat}
theorem By {n:Nat} (h:n<=64) {s:Nat} (hs:s<2^n):s<M64:=aU hs (aR (n:=2) aC h)
theorem zd {n s x:Nat} (hs:s<2^n) (h:bit s x=true):x<n:=by
 apply Nat.lt_of_not_le;intro hn;have:=Nat.testBit_lt_two_pow (aU hs (aR (n:=2) aC hn));rw[bit,this]at h;cases h
set_option maxHeartbeats 1000000 in
theorem c3a (hT:Tb H) (hw:SG H w es) (hg:GV n es) (hs:set<2^n):Con prog 182 [gv n w,uv set] H fun u H'=>Pl H H'/\∃l,SU H' u l/\(l.length=1↔Cn es set):=by
 refine i9 mixed c8t ?_;have hn:=hg.n64;have qV:=By hn hs;refine d4 (t8 hw) ?_;refine d4 (el_u64.vcells set) ?_;refine g9 (d3H hw hg) rfl ?_;rintro u H1 ⟨l1,o1⟩;refine nmI ?_;have hu:=o1.se;refine d4 hu.one ?_;refine s8 (α:=Value×Nat×List Nat) (fun⟨v,rest,l⟩=>[v,uv rest,gv n w,uv set,u]) (fun⟨v,rest,l⟩=>fun H'=>Pl H1 H'/\SO H1 H' 54 1 (fun s:Nat=>[uv s]) v l/\rest<M64/\(∀y,bit rest y=true->bit set y=true)/\CS es set rest l.length/\l.length+card rest<=64) (fun⟨v,rest,l⟩=>card rest) ((.slice none 0 0,set,[])) rfl (⟨Pl.refl _,SO.nil _ _ _ _ _,qV,fun _ h=>h,.inl ⟨rfl,rfl⟩,by simpa using Jk set⟩) fun⟨v,rest,l⟩ H' hQ=> ?_;obtain⟨l2,o2,hr,hrs,hC,uH⟩:=hQ;refine d9 ?_;refine j8 (p:=(rest≠0)) (bN0 rest) (fun h=> ?_) fun h=> ?_
 ·obtain⟨x,r,tB⟩:∃x r,els rest=x::r:=by
   cases tB:els rest with
   |nil=>exact absurd (Yz hr tB) h
   |cons x r=>exact⟨x,r,rfl⟩
  obtain⟨hx,uL,_⟩:=Za tB;have hxs:=hrs x hx;refine s8 (α:=Nat) (fun part=>[uv part,gv n w,uv set,u]) (fun part=>fun H''=>Pl H' H''/\part<M64/\bit part x=true/\∀y,bit part y=true->Rch es set x y) (fun part=>64-card part) (2^x) (Hz (by rw[Gn (B:=(M64-rest)%M64) rfl (yp rfl hr) hr (cO _ aC),kf hr tB]) rfl rfl rfl) (⟨Pl.refl _,Aq uL,by rw[Ah];simp,fun y hy=>by rw[Ah]at hy;simp at hy;subst hy;exact .base⟩) fun part H2 xQ=> ?_;obtain⟨l3,hp,hpx,qF⟩:=xQ;refine d4 (el_u64.vcells part) ?_;refine g9 (c8E (H:=H2) (s:=part)) rfl ?_;rintro _ _ ⟨b,hb,rfl,rfl⟩;refine nmI ?_;have l4:Pl H1 H2:=l2.trans l3;have rQ:SU H2 u (nbs n es):=hu.mono l4;have wY:∀y,bit part y=true->y<n:=fun y hy=>zd hs ((qF y hy).mem hxs);refine jx (X:=H2) (K:=Df b part) (Ro:=H2) (fun pre vals X'=>X'=H2/\vals=[uv (grow es set part ((els part).take pre.length))]) (fun _ _ _=>False) (c2P hp ((hT.mono l1).mono l4)) c2N (yr _ hb) rfl (fun _ _ _ h=>by rw[h.1];exact Pl.refl _) ⟨rfl,rfl⟩ ?_ ?_ ?_
  ·rintro pre xs vals X' ⟨y,hy,rfl,qG⟩ _ ⟨rfl,rfl⟩;refine⟨rfl,?_⟩;have hyp:bit part y=true:=(Jj hp).1 (aG hy);refine Ey el_u64 rfl rfl rfl rfl aE rQ (Zi es (wY y hyp)) (i7 (Vg rfl rQ.cells) rfl) aE fun _=> ?_;have hgl:=MM (es:=es) qV hp ((els part).take pre.length);have sG:=LS hg.ed hn y;refine d9 (d9 (d9 ?_));exact⟨rfl,by rw[aM];simp only[aO,bX];rw[take_snoc hy,zc];exact z8 (Du rfl (Gn rfl rfl sG qV) hgl (jy sG))⟩
  ·rintro xs vals X' K' rfl hd _ ⟨rfl,rfl⟩;rw[aX,List.take_length];simp only[cA,nA];have hgl:=MM (es:=es) qV hp (els part);have l5:Pl X' (X'.or K'):=PH.le_or _ _;refine d9 (d9 ?_);refine j8 (p:=(grow es set part (els part)=part)) (by show Value.bool (((grow es set part (els part):Nat):Int)==((part:Nat):Int))=_;rw[bE];congr 1;apply decide_eq_decide.2;omega) (fun h2=> ?_) fun h2=> ?_
   ·have a5i:=c8M hg.ed hp hpx qF h2;refine Dk el_u64 rfl rfl rfl aE aE (l4.trans l5) (o2.mono (l3.trans l5)) aA rfl aE rfl fun p v2 H3 l6 o3=> ?_;have pX:card (sdf rest part)<card rest:=kz (fun y hy=>by rw[z6]at hy;exact(bA _ _ ▸ hy).1) hx (by rw[z6,hpx];simp) uL;exact⟨(v2,sdf rest part,l++[part]),pX,(by simp only[aN,bJ];rw[Uy rfl rfl hr hp];rfl),⟨l6,o3,sdf_lt hr,fun y hy=>hrs y (by rw[z6]at hy;exact(bA _ _ ▸ hy).1),by rw[aM];exact hC.next hx hxs a5i,by rw[aM];simp only[aO,bX];omega⟩⟩
   ·obtain⟨z,yG,uI⟩:=Zn (fun e=>h2 e.symm) (fun y hy=>by rw[Zm];exact .inl hy);have pX:card part<card (grow es set part (els part)):=kz (fun y hy=>by rw[Zm];exact .inl hy) yG uI (Bz hgl yG);have vP:=Jk (grow es set part (els part));exact⟨grow es set part (els part),aA,rfl,⟨l3.trans l5,hgl,by rw[Zm];exact .inl hpx,c8N hg.ed hp qF⟩⟩
  ·exact fun _ _ _ _ _ _ _ h=>h.elim
 ·have h0:rest=0:=aA;subst h0;exact g6 rfl ⟨l1.trans l2,l,o2.se,hC.end⟩
end
end Go.Z
namespace Go.GS
def LabOk (p:List Int) (k:Int):Prop:=(∀x∈p,0<=x/\x<k)/\0<p.length/\p.length<=64
instance (p:List Int) (k:Int):Decidable (LabOk p k):=inferInstanceAs (Decidable (_/\_/\_))
def mkN (p:List Int) (d:Int) (m:Nat):Nat:=(eP m).foldl (fun s i=>if p[i]? =some d then s|||2^i else s) 0
theorem lj (p:List Int) (d:Int) (m:Nat):mkN p d (m+1)=if p[m]? =some d then mkN p d m|||2^m else mkN p d m:=by
 unfold mkN;rw[List.range_succ,dZ];rfl
theorem ll (p:List Int) (d:Int) (m i:Nat):bit (mkN p d m) i=(decide (i<m)&&decide (p[i]? =some d)):=by
 induction m with
 |zero=>simp[mkN,bit]
 |succ m ih=>
  rw[lj];split
  ·rename_i h;rw[Ac,Ah,ih];by_cases e:m=i
   ·subst e;simp[h]
   ·simp[e,show(i<m+1)=(i<m)from by apply propext;omega]
  ·rename_i h;rw[ih];by_cases e:i=m
   ·subst e;simp[h]
   ·simp[show(i<m+1)=(i<m)from by apply propext;omega]
theorem Si (p:List Int) (d:Int) {m:Nat} (h:m<=64):mkN p d m<2^m:=by
 apply Nat.lt_pow_two_of_testBit;intro i hi;have:=ll p d m i;unfold bit at this;rw[this];simp[show ¬i<m by omega]
theorem lp (p:List Int) (d:Int) {m:Nat} (h:m<=64):mkN p d m<M64:=aU (Si p d h) (aR (n:=2) aC h)
def j0 (p:List Int) (d:Int):Nat:=mkN p d p.length
def Hi (p:List Int) (k m:Nat):List Nat:=(eP k).map fun d:Nat=>mkN p d m
theorem lu (p:List Int) (k m:Nat):(Hi p k m).length=k:=by simp[Hi]
theorem Zo (p:List Int) (m:Nat) {k d:Nat} (h:d<k):(Hi p k m)[d]? =some (mkN p d m):=by simp[Hi,h]
theorem c3b (p:List Int) (k:Nat):Hi p k 0=List.replicate k 0:=by
 apply List.ext_getElem
 ·simp[Hi]
 ·intro i h1 h2;simp[Hi,mkN]
theorem c3c (p:List Int) (k:Nat) {m d:Nat} (h:p[m]? =some (d:Int)):(Hi p k m).set d (mkN p d m|||2^m)=Hi p k (m+1):=by
 apply bG;intro i;by_cases hi:i<k
 ·rw[Zo _ _ hi,lj];by_cases e:d=i
  ·subst e;rw[List.getElem?_set_self (by simp[lu,hi]),if_pos h]
  ·rw[List.getElem?_set_ne e,Zo _ _ hi,if_neg (by rw[h];simp;omega)]
 ·rw[aW (by simp[lu];omega),aW (by simp[lu];omega)]
def masks (p:List Int) (k:Nat):List Nat:=Hi p k p.length
def Ai (p:List Int) (k:Nat):Prop:=∀d,d<k->j0 p (d:Nat)≠0
instance (p:List Int) (k:Nat):Decidable (Ai p k):=inferInstanceAs (Decidable (∀d,d<k->_))
def plE (n:Nat) (p:List Int) (k:Int):Int:=if k<1\/k>8 then 2 else if p.length=n/\LabOk p k/\Ai p k.toNat then 0 else 210
theorem LabOk.at {p:List Int} {k:Int} (h:LabOk p k) {i:Nat} {x:Int} (hx:p[i]? =some x):0<=x/\x<k:=h.1 x (aG hx)
noncomputable def cnB (es:List (Nat×Nat)) (set:Nat):Bool:= @decide (Cn es set) (gR _)
theorem cnB_iff {es:List (Nat×Nat)} {set:Nat}:cnB es set=true↔Cn es set:= @decide_eq_true_iff _ (gR _)
theorem ze {n:Nat} {p:List Int} {k:Int} (h:plE n p k=0):1<=k/\k<=8/\p.length=n/\LabOk p k/\Ai p k.toNat:=by
 unfold plE at h;split at h
 ·cases h
 ·split at h
  ·rename_i h1 h2;exact⟨aA,aA,h2⟩
  ·cases h
theorem zf {p:List Int} {k s:Nat} (h:s∈masks p k) (hp:p.length<=64):s<2^p.length:=by
 simp only[masks,Hi,aY]at h;obtain⟨d,_,rfl⟩:=h;exact Si p d hp
end Go.GS
namespace Go.Z
open Proofs.Tryz RowKit RX GS
section
variable {H:PH} {u v:Value} {l:List Int}
theorem c8O {f:FuncId} {caps:List Value} {q:Int->Bool} (hu:SI H u l) (sJ:Da prog f=true) (hf:∀H' x,Pl H H'->x∈l->Ae prog f (ii x::caps) H' (.bool (q x))):Con prog 175 [u,.func (.func f) #[] caps.toArray] H fun r H'=>Pl H H'/\∃z:Int,r=ii z/\decide (z≥0)=l.any q:=by
 refine i9 mixed d3k ?_;have hl:=hu.len;refine j1 el_int hu ?_;refine s8 (α:=Nat×Int) (fun⟨i,p⟩=>[ii p,ii (i:Nat)]) (fun⟨i,p⟩=>fun H'=>i<=l.length/\Pl H H'/\(l.take i).any q=false) (fun⟨i,p⟩=>l.length-i) ((0,0)) rfl (⟨bI _,Pl.refl _,rfl⟩) fun⟨i,p⟩ H' hQ=> ?_;obtain⟨hi,l1,hq⟩:=hQ;refine d9 (d9 ?_);refine g7 (b:=decide (((i:Nat):Int)<(l.length:Nat))) rfl (fun h=> ?_) (fun h=> ?_)
 ·replace h:=oDt h;have qB:i<l.length:=aA;obtain⟨x,hx,tK⟩:=m7 qB;refine j4 el_int (hu.mono l1) hx fun _=> ?_;refine t7 (fy (f:=f) (caps:=caps.toArray) (vs:=[ii x]) rfl rfl rfl sJ (hf _ x l1 (aG hx))) rfl ?_;rintro _ H2 ⟨l2,rfl⟩;refine nmI ?_;refine d9 ?_;refine g7 (b:=q x) rfl (fun hqx=> ?_) (fun hqx=> ?_)
  ·skip
   exact g6 rfl ⟨l1.trans l2,_,rfl,by rw[jV.2 ⟨x,aG hx,hqx⟩];exact oDd aA⟩
  ·skip
   exact⟨(i+1,p),by show l.length-(i+1)<l.length-i;omega,(i7 rfl (i6 rfl aA)),⟨qB,l1.trans l2,by rw[take_snoc hx,oD,hq];simp[hqx]⟩⟩
 ·replace h:=oDf h;rw[aF aA]at hq;exact g6 rfl ⟨l1,_,rfl,by rw[hq];rfl⟩
theorem c3e {f:FuncId} {caps:List Value} {q:Int->Bool} (hu:SI H u l) (sJ:Da prog f=true) (hf:∀H' x,Pl H H'->x∈l->Ae prog f (ii x::caps) H' (.bool (q x))):Ae prog 104 [u,.func (.func f) #[] caps.toArray] H (.bool (l.any q)):=by
 refine i9 mixed d3h ?_;refine g9 (c8O hu sJ hf) rfl ?_;rintro _ H1 ⟨l1,z,rfl,hz⟩;refine nmI ?_;refine d9 ?_;exact g6 rfl ⟨l1,hz ▸ rfl⟩
theorem c8P (hu:SI H u l) (y:Int):Con prog 230 [u,ii y] H fun r H'=>H'=H/\∃z:Int,r=ii z/\decide (z≥0)=l.contains y:=by
 refine i9 mixed d3n ?_;have hl:=hu.len;refine j1 el_int hu ?_;refine Bf (α:=Nat×Int) (fun⟨i,p⟩=>[ii p,ii (i:Nat)]) (fun⟨i,p⟩=>i<=l.length/\(l.take i).contains y=false) (fun⟨i,p⟩=>l.length-i) ((0,0)) rfl (⟨bI _,rfl⟩) fun⟨i,p⟩ hQ=> ?_;obtain⟨hi,hq⟩:=hQ;refine d9 (d9 ?_);refine g7 (b:=decide (((i:Nat):Int)<(l.length:Nat))) rfl (fun h=> ?_) (fun h=> ?_)
 ·replace h:=oDt h;have qB:i<l.length:=aA;obtain⟨x,hx,tK⟩:=m7 qB;refine j4 el_int hu hx fun _=> ?_;refine d9 (d9 ?_);refine j8 (p:=(y=x)) (bE y x) (fun hyx=> ?_) fun hyx=> ?_
  ·exact g6 rfl ⟨rfl,_,rfl,by rw[List.contains_iff_mem.2 (hyx ▸ aG hx)];exact oDd aA⟩
  ·exact⟨(i+1,p),by show l.length-(i+1)<l.length-i;omega,(i7 rfl (i6 rfl aA)),⟨⟨qB,by rw[take_snoc hx,b2c,hq];simp[hyx]⟩,rfl⟩⟩
 ·replace h:=oDf h;rw[aF aA]at hq;exact g6 rfl ⟨rfl,_,rfl,by rw[hq];rfl⟩
theorem d3O (hu:SI H u l) (y:Int):Asks prog 188 [u,ii y] H (.bool (l.contains y)):=by
 refine i9 mixed d7m ?_;refine g9 (c8P hu y) rfl ?_;rintro _ _ ⟨rfl,z,rfl,hz⟩;refine nmI ?_;refine d9 ?_;exact g6 rfl ⟨rfl,hz ▸ rfl⟩
theorem MN {m:List Int} (hu:SI H u l) (hv:SI H v m):Asks prog 38 [u,v] H (.bool (decide (l=m))):=by
 refine i9 mixed d3g ?_;have hl:=hu.len;have hm:=hv.len;refine j1 el_int hu ?_;refine j1 el_int hv ?_;refine d9 (d9 ?_);refine j8 (p:=(l.length≠m.length)) (by show Value.bool (((l.length:Nat):Int) !=((m.length:Nat):Int))=_;rw[bN];congr 1;apply decide_eq_decide.2;omega) (fun h=> ?_) fun h=> ?_
 ·exact g6 rfl ⟨rfl,by rw[decide_eq_false (fun e=>h (by rw[e]))];rfl⟩
 ·have hlm:l.length=m.length:=aA;refine j1 el_int hu ?_;refine Bf (α:=Nat×Value) (fun⟨i,p⟩=>[p,ii (i:Nat)]) (fun⟨i,p⟩=>i<=l.length/\l.take i=m.take i) (fun⟨i,p⟩=>l.length-i) ((0,.bool false)) rfl (⟨bI _,rfl⟩) fun⟨i,p⟩ hQ=> ?_;obtain⟨hi,hq⟩:=hQ;refine d9 (d9 ?_);refine g7 (b:=decide (((i:Nat):Int)<(l.length:Nat))) rfl (fun h2=> ?_) (fun h2=> ?_)
  ·replace h2:=oDt h2;have qB:i<l.length:=aA;obtain⟨x,hx,tK⟩:=m7 qB;refine j4 el_int hu hx fun _=> ?_;obtain⟨y,hy,wO⟩:=m7 (l:=m) (i:=i) aA;refine j4 el_int hv hy fun _=> ?_;refine d9 (d9 ?_);refine j8 (p:=(x≠y)) (bN x y) (fun uB=> ?_) fun uB=> ?_
   ·exact g6 rfl ⟨rfl,by rw[decide_eq_false (fun e=>uB (by subst e;rw[hx]at hy;exact Option.some.inj hy))];rfl⟩
   ·have uB:x=y:=bB uB;exact⟨(i+1,p),by show l.length-(i+1)<l.length-i;omega,(i7 rfl (i6 rfl aA)),⟨⟨qB,by rw[take_snoc hx,take_snoc hy,hq,uB]⟩,rfl⟩⟩
  ·replace h2:=oDf h2;rw[aF aA,aF aA]at hq;exact g6 rfl ⟨rfl,by rw[oDd hq];rfl⟩
end
section
variable {H:PH} {u v:Value} {l:List Nat}
theorem c8Q {f:FuncId} {caps:List Value} {q:Nat->Bool} (hu:SU H u l) (sJ:Da prog f=true) (hf:∀H' x,Pl H H'->x∈l->Ae prog f (uv x::caps) H' (.bool (q x))):Con prog 177 [u,.func (.func f) #[] caps.toArray] H fun r H'=>Pl H H'/\∃z:Int,r=ii z/\decide (z≥0)=l.any q:=by
 refine i9 mixed d3l ?_;have hl:=hu.len;refine j1 el_u64 hu ?_;refine s8 (α:=Nat×Int) (fun⟨i,p⟩=>[ii p,ii (i:Nat)]) (fun⟨i,p⟩=>fun H'=>i<=l.length/\Pl H H'/\(l.take i).any q=false) (fun⟨i,p⟩=>l.length-i) ((0,0)) rfl (⟨bI _,Pl.refl _,rfl⟩) fun⟨i,p⟩ H' hQ=> ?_;obtain⟨hi,l1,hq⟩:=hQ;refine d9 (d9 ?_);refine g7 (b:=decide (((i:Nat):Int)<(l.length:Nat))) rfl (fun h=> ?_) (fun h=> ?_)
 ·replace h:=oDt h;have qB:i<l.length:=aA;obtain⟨x,hx,tK⟩:=m7 qB;refine j4 el_u64 (hu.mono l1) hx fun _=> ?_;refine t7 (fy (f:=f) (caps:=caps.toArray) (vs:=[uv x]) rfl rfl rfl sJ (hf _ x l1 (aG hx))) rfl ?_;rintro _ H2 ⟨l2,rfl⟩;refine nmI ?_;refine d9 ?_;refine g7 (b:=q x) rfl (fun hqx=> ?_) (fun hqx=> ?_)
  ·skip
   exact g6 rfl ⟨l1.trans l2,_,rfl,by rw[jV.2 ⟨x,aG hx,hqx⟩];exact oDd aA⟩
  ·skip
   exact⟨(i+1,p),by show l.length-(i+1)<l.length-i;omega,(i7 rfl (i6 rfl aA)),⟨qB,l1.trans l2,by rw[take_snoc hx,oD,hq];simp[hqx]⟩⟩
 ·replace h:=oDf h;rw[aF aA]at hq;exact g6 rfl ⟨l1,_,rfl,by rw[hq];rfl⟩
theorem c3f {f:FuncId} {caps:List Value} {q:Nat->Bool} (hu:SU H u l) (sJ:Da prog f=true) (hf:∀H' x,Pl H H'->x∈l->Ae prog f (uv x::caps) H' (.bool (q x))):Ae prog 107 [u,.func (.func f) #[] caps.toArray] H (.bool (l.any q)):=by
 refine i9 mixed d3i ?_;refine g9 (c8Q hu sJ hf) rfl ?_;rintro _ H1 ⟨l1,z,rfl,hz⟩;refine nmI ?_;refine d9 ?_;exact g6 rfl ⟨l1,hz ▸ rfl⟩
end
section
variable {H:PH} {n:Nat} {w:Value} {es:List (Nat×Nat)} {set:Nat}
theorem c8R (hw:SG H w es) (hg:GV n es) (hs:set<M64):Ae prog 181 [gv n w,uv set] H (ii (if set<2^n then 0 else 2)):=by
 refine i9 mixed d7n ?_;refine d4 (t8 hw) ?_;refine y9 (kr hw hg) rfl fun H1 l1=> ?_;refine d9 ?_;refine r9 (bF (p:=(0:Int)≠0) aD) ?_;refine y8 (wk set hs) rfl ?_;refine d9 (d9 ?_);refine j8 (p:=(set≥2^n)) (by show Value.bool (decide (((Go.WD.blen set:Nat):Int)>((n:Nat):Int)))=_;congr 1;apply decide_eq_decide.2;constructor<;>intro hh<;>first|(have:=Go.WD.blen_ge hh;omega)|(apply Nat.le_of_not_lt;intro h2;have:=Go.WD.blen_le h2;omega)) (fun h=> ?_) fun h=> ?_
 ·exact g6 rfl ⟨l1,by rw[if_neg aA];rfl⟩
 ·exact g6 rfl ⟨l1,by rw[if_pos aA];rfl⟩
noncomputable def lw (n:Nat) (es:List (Nat×Nat)) (set:Nat):Value:=if set<2^n then .tuple #[.bool (cnB es set),ii 0]else .tuple #[.bool false,ii 2]
theorem c3g (hT:Tb H) (hw:SG H w es) (hg:GV n es) (hs:set<M64):Ae prog 112 [gv n w,uv set] H (lw n es set):=by
 refine i9 mixed d3r ?_;have hn:=hg.n64;refine d4 (t8 hw) ?_;refine y9 (c8R hw hg hs) rfl fun H1 l1=> ?_;refine d9 ?_;refine j8 (p:=(¬set<2^n)) (by show Value.bool ((if set<2^n then(0:Int)else 2) !=0)=_;by_cases hh:set<2^n<;>simp[hh]) (fun h=> ?_) fun h=> ?_
 ·exact g6 rfl ⟨l1,by unfold lw;rw[if_neg h,if_neg h];rfl⟩
 ·have h:set<2^n:=bB h;refine g9 (c3a (hT.mono l1) (hw.mono l1) hg h) rfl ?_;rintro u H2 ⟨l2,l,hl,hc⟩;refine nmI ?_;have e:cnB es set=decide (l.length=1):=by rw[bC,cnB_iff,<-hc];simp
  refine j1 el_u64 hl ?_;refine d9 ?_;exact g6 rfl ⟨l1.trans l2,by rw[show lw n es set= .tuple #[.bool (cnB es set),ii 0]from if_pos h,e];show Value.tuple #[.bool (((l.length:Nat):Int)==1),_]=_;rw[bE,show decide (((l.length:Nat):Int)=1)=decide (l.length=1)from decide_eq_decide.2 aA];rfl⟩
end
section
variable {H:PH} {u v w:Value} {p:List Int} {n:Nat} {es:List (Nat×Nat)}
theorem zh (hu:SI H u p) (k:Int):Asks prog 63 [u,ii k] H (.bool (decide (LabOk p k))):=by
 refine i9 mixed d3t ?_;have hl:=hu.len;refine j1 el_plan hu ?_;refine Bf (α:=Nat×Value) (fun⟨i,z⟩=>[z,ii (i:Nat)]) (fun⟨i,z⟩=>i<=p.length/\∀x∈p.take i,0<=x/\x<k) (fun⟨i,z⟩=>p.length-i) ((0,.bool false)) rfl (⟨bI _,fun x hx=>by cases hx⟩) fun⟨i,z⟩ hQ=> ?_;obtain⟨hi,hq⟩:=hQ;refine d9 (d9 ?_);refine g7 (b:=decide (((i:Nat):Int)<(p.length:Nat))) rfl (fun h=> ?_) (fun h=> ?_)
 ·replace h:=oDt h;have qB:i<p.length:=aA;obtain⟨x,hx,tK⟩:=m7 qB;refine j4 el_plan hu hx fun _=> ?_;have yI:=aG hx;refine d9 ?_;refine g7 (b:=decide (x<0)) rfl (fun h2=> ?_) (fun h2=> ?_)
  ·replace h2:=oDt h2;exact g6 rfl ⟨rfl,by rw[decide_eq_false (fun e=>by have:=e.1 x yI;omega)];rfl⟩
  ·replace h2:=oDf h2;refine d9 ?_;refine g7 (b:=decide (x≥k)) rfl (fun h3=> ?_) (fun h3=> ?_)
   ·replace h3:=oDt h3;exact g6 rfl ⟨rfl,by rw[decide_eq_false (fun e=>by have:=e.1 x yI;omega)];rfl⟩
   ·replace h3:=oDf h3;exact⟨(i+1,z),by show p.length-(i+1)<p.length-i;omega,(i7 rfl (i6 rfl aA)),⟨⟨qB,by rw[take_snoc hx];intro y hy;rw[aQ,aL]at hy;rcases hy with hy|rfl;(exact hq y hy);omega⟩,rfl⟩⟩
 ·replace h:=oDf h;rw[aF aA]at hq;refine j1 el_plan hu ?_;refine d9 ?_;refine g7 (b:=decide (((p.length:Nat):Int)>0)) rfl (fun h4=> ?_) (fun h4=> ?_)
  ·replace h4:=oDt h4;refine j1 el_plan hu ?_;refine d9 ?_;exact g6 rfl ⟨rfl,congrArg Value.bool (decide_eq_decide.2 ⟨fun h5=>⟨hq,aA,by have h6:((p.length:Nat):Int)<=64:=h5;omega⟩,fun h5=>by have:=h5.2.2;show((p.length:Nat):Int)<=64;omega⟩)⟩
  ·replace h4:=oDf h4;exact g6 rfl ⟨rfl,by rw[decide_eq_false (fun e=>by have:=e.2.1;omega)];rfl⟩
theorem MP {k:Nat} (hk:k<=8) (hu:SI H u p) (hL:LabOk p (k:Int)):Con prog 68 [u,ii (k:Nat)] H fun r H'=>Pl H H'/\∃z,r= .tuple #[z,.bool (decide (Ai p k))]/\(Ai p k->SU H' z (masks p k)):=by
 refine i9 mixed d3u ?_;have hl:=hu.len;have wM:=hL.2.2;refine Uu el_u64 (z:=(0:Nat)) LU rfl rfl rfl aA rfl fun v H1 l1 o1 _=> ?_;rw[<-c3b p]at o1;refine j1 el_plan (hu.mono l1) ?_;refine s8 (α:=Nat) (fun i=>[ii (i:Nat)]) (fun i=>fun H'=>i<=p.length/\Pl H H'/\SO H H' 54 1 (fun s:Nat=>[uv s]) v (Hi p k i)) (fun i=>p.length-i) (0) rfl (⟨bI _,l1,o1⟩) fun i H' hQ=> ?_;obtain⟨hi,l2,o2⟩:=hQ;refine d9 (d9 ?_);refine g7 (b:=decide (((i:Nat):Int)<(p.length:Nat))) rfl (fun h=> ?_) (fun h=> ?_)
 ·replace h:=oDt h;have qB:i<p.length:=aA;obtain⟨x,hx,tK⟩:=m7 qB;refine j4 el_plan (hu.mono l2) hx fun _=> ?_;have hxk:=hL.at hx;obtain⟨d,rfl⟩:∃d:Nat,x=(d:Int):=⟨x.toNat,aA⟩;refine Ey el_u64 rfl rfl rfl rfl aE o2.se (Zo p i (show d<k by omega)) rfl aE fun _=> ?_;refine d4 ⟨_,_,rfl⟩ ?_;refine d4 (by show(0:Int)<=((i:Nat):Int);omega) ?_;refine d9 ?_;refine Dp el_u64 (a:=mkN p (d:Nat) i|||2^i) rfl rfl rfl rfl aE aE l2 o2 (by rw[lu];omega) rfl (fun _=>i7 rfl (Du rfl (Hg rfl aA) (lp _ _ aA) (Aq aA))) rfl fun p' u' H3 l4 o4 _=> ?_;rw[c3c p k hx]at o4;exact⟨i+1,aA,(z8 (i6 rfl aA)),⟨qB,l4,o4⟩⟩
 ·replace h:=oDf h;have he:i=p.length:=aA;subst he;refine s8 (α:=Nat×Value×Value) (fun⟨d,z1,z2⟩=>[z1,z2,ii (d:Nat)]) (fun⟨d,z1,z2⟩=>fun H2=>H2=H'/\d<=k/\∀j,j<d->j0 p (j:Nat)≠0) (fun⟨d,z1,z2⟩=>k-d) ((0,.slice none 0 0,.bool false)) rfl (⟨rfl,bI _,fun j hj=>by cases hj⟩) fun⟨d,z1,z2⟩ H2 xQ=> ?_;obtain⟨rfl,hd,hq⟩:=xQ;refine d9 (d9 ?_);refine g7 (b:=decide (((d:Nat):Int)<(k:Nat))) rfl (fun h2=> ?_) (fun h2=> ?_)
  ·replace h2:=oDt h2;refine Ey el_u64 rfl rfl rfl rfl aE o2.se (Zo p _ (show d<k by omega)) rfl aE fun _=> ?_;refine d9 ?_;refine j8 (p:=(mkN p (d:Nat) p.length=0)) (bE0 _) (fun h3=> ?_) fun h3=> ?_
   ·exact g6 rfl ⟨l2,_,by rw[decide_eq_false (fun e=>e d aA h3)];rfl,fun e=>absurd h3 (e d aA)⟩
   ·exact⟨(d+1,z1,z2),by show k-(d+1)<k-d;omega,(Bo rfl rfl (i6 rfl aA)),⟨rfl,by show d+1<=k;omega,fun j hj=>by rcases Nat.lt_succ_iff_lt_or_eq.1 hj with hj|rfl;(exact hq j hj);exact h3⟩⟩
  ·replace h2:=oDf h2;have he:d=k:=aA;subst he;exact g6 rfl ⟨l2,v,by rw[oDd (p:=Ai p d) hq];rfl,fun _=>o2.se⟩
theorem c8S (hw:SG H w es) (hg:GV n es) (hu:SI H u p) (k:Int):Con prog 176 [gv n w,u,ii k] H fun r H'=>Pl H H'/\∃q,r= .tuple #[q,ii (plE n p k)]:=by
 refine i9 mixed d3v ?_;refine d4 (t8 hw) ?_;refine y9 (kr hw hg) rfl fun H1 l1=> ?_;refine d9 ?_;refine r9 (bF (p:=(0:Int)≠0) aD) ?_;refine d9 ?_;refine g7 (b:=decide (k<1)) rfl (fun h=> ?_) (fun h=> ?_)
 ·replace h:=oDt h;exact g6 rfl ⟨l1,_,by rw[show plE n p k=2 from if_pos (.inl h)];rfl⟩
 ·replace h:=oDf h;refine g7 (b:=decide (k>8)) rfl (fun h2=> ?_) (fun h2=> ?_)
  ·replace h2:=oDt h2;exact g6 rfl ⟨l1,_,by rw[show plE n p k=2 from if_pos (.inr h2)];rfl⟩
  ·replace h2:=oDf h2;have hk:¬(k<1\/k>8):=aA;obtain⟨m,rfl⟩:∃m:Nat,k=(m:Int):=⟨k.toNat,aA⟩;refine j1 el_plan (hu.mono l1) ?_;refine d9 (d9 ?_);refine j8 (p:=(p.length≠n)) (by show Value.bool (((p.length:Nat):Int) !=((n:Nat):Int))=_;rw[bN];congr 1;apply decide_eq_decide.2;omega) (fun h3=> ?_) fun h3=> ?_
   ·exact g6 rfl ⟨l1,_,by rw[show plE n p (m:Nat)=210 from(if_neg hk).trans (if_neg fun e=>h3 e.1)];rfl⟩
   ·refine s6 (zh (hu.mono l1) (m:Nat)) rfl ?_;refine d9 ?_;refine g7 (b:= !decide (LabOk p (m:Nat))) rfl (fun h4=> ?_) (fun h4=> ?_)
    ·skip
     exact g6 rfl ⟨l1,_,by rw[show plE n p (m:Nat)=210 from(if_neg hk).trans (if_neg fun e=>by simp[e.2.1]at h4)];rfl⟩
    ·skip
     have hL:LabOk p (m:Nat):=by simpa using h4
     refine g9 (MP aA (hu.mono l1) hL) rfl ?_;rintro _ H2 ⟨l2,z,rfl,hz⟩;refine nmI ?_;refine i8 (i8 (d9 ?_));refine g7 (b:= !decide (Ai p m)) rfl (fun h5=> ?_) (fun h5=> ?_)
     ·skip
      exact g6 rfl ⟨l1.trans l2,_,by rw[show plE n p (m:Nat)=210 from(if_neg hk).trans (if_neg fun e=>by have:=e.2.2;rw[aV]at this;simp[this]at h5)];rfl⟩
     ·skip
      have hU:Ai p m:=by simpa using h5
      refine d4 ((hu.mono l1).one) ?_;refine d4 ((hz hU).one) ?_;refine Gm (cs:=_) rfl fun b hb=> ?_;exact g6 rfl ⟨(l1.trans l2).trans (PH.le_put hb _),_,by rw[show plE n p (m:Nat)=0 from(if_neg hk).trans (if_pos ⟨aA,hL,by rw[aV];exact hU⟩)];rfl⟩
theorem c3h (hw:SG H w es) (hg:GV n es) (hu:SI H u p) (k:Int):Ae prog 106 [gv n w,u,ii k] H (ii (plE n p k)):=by
 refine i9 mixed d3w ?_;refine d4 (t8 hw) ?_;refine g9 (c8S hw hg hu k) rfl ?_;rintro _ H1 ⟨l1,q,rfl⟩;refine nmI ?_;refine i8 (i8 ?_);exact g6 rfl ⟨l1,rfl⟩
theorem MQ (hu:SI H u p) (k:Nat) (h1:1<=k) (h8:k<=8) (hL:LabOk p (k:Nat)) (hU:Ai p k):Con prog 25 [u,ii (k:Nat)] H fun r H'=>Pl H H'/\∃z,r= .tuple #[z,ii 0]/\SU H' z (masks p k):=by
 refine i9 mixed d3y ?_;refine d9 ?_;refine r9 (bF (p:=((k:Nat):Int)<1) aA) ?_;refine r9 (bF (p:=((k:Nat):Int)>8) aA) ?_;refine s6 (zh hu (k:Nat)) rfl ?_;refine d9 ?_;refine r9 (by show Value.bool (!decide (LabOk p (k:Nat)))=_;rw[oDd hL];rfl) ?_;refine g9 (MP h8 hu hL) rfl ?_;rintro _ H2 ⟨l2,z,rfl,hz⟩;refine nmI ?_;refine i8 (i8 (d9 ?_));refine r9 (by show Value.bool (!decide (Ai p k))=_;rw[oDd hU];rfl) ?_;exact g6 rfl ⟨l2,z,rfl,hz hU⟩
end
end Go.Z
namespace Go.GS
def Sj (wl:List Int) (s:Nat):Int:=((els s).map fun x=>wl.getD x 0).sum
def Nh (wl:List Int):Prop:=∀x∈wl,0<=x/\x<=1000000000
instance (wl:List Int):Decidable (Nh wl):=inferInstanceAs (Decidable (∀x∈wl,_))
def bdE (n:Nat) (wl:List Int) (lo hi ds:Int):Int:=if wl.length=n/\0<=lo/\lo<=hi/\1<=ds/\ds<=8/\Nh wl then 0 else 320
noncomputable def alB (es:List (Nat×Nat)) (wl:List Int) (lo hi:Int) (set:Nat):Bool:=Go.GS.cnB es set&&(decide (Sj wl set≥lo)&&decide (Sj wl set<=hi))
noncomputable def As (n:Nat) (es:List (Nat×Nat)) (wl:List Int) (lo hi ds:Int) (p:List Int):Bool:=decide (plE n p ds=0)&&(masks p ds.toNat).all (alB es wl lo hi)
theorem Ni {n:Nat} {wl:List Int} {lo hi ds:Int} (h:bdE n wl lo hi ds=0):wl.length=n/\0<=lo/\lo<=hi/\1<=ds/\ds<=8/\Nh wl:=by
 unfold bdE at h;split at h
 ·assumption
 ·cases h
theorem MS:∀(l:List Int),(∀x∈l,0<=x/\x<=1000000000)->0<=l.sum/\l.sum<=1000000000*l.length:=by
 intro l;induction l with
 |nil=>intro _;simp
 |cons a l ih=>
  intro h;have h1:=h a aD;have h2:=ih fun x hx=>h x (cF _ hx);rw[List.sum_cons,aO];omega
end Go.GS

/- Judge: the scene. -/
import Derived.Test.YtlmgkkjgdapnpaaGreatDoorGfH
namespace Go.RX
open Go.RowKit
section
variable {P:Program} {H:PH} {o:Oper} {x y:Operand}
theorem a1c {fn:Fn} {v:Value} (ho:o.op= .makeFunc fn #[x] #[]) (hx:a0k [x] [v] x=v):Run P o [v] (.func fn #[v] #[]):=fun w=>by
 have hos:o.op.operands.toList=[x]:=by simp[ho,Op.operands]
 unfold Stp
 rw[hos]
 simp only[execOp,ho,Sem.run_bind,Instr.makeFunc]
 simp[hx,Ext.refl]
theorem c1p {f:FuncId} {az:Array Operand} {tys:Array TypeId} {fs caps:Array Value} {vs:List Value} {V:Value->PH->Prop} (ho:o.op= .call ⟨.value x,az,tys⟩) (hx:a0k (x::az.toList) (.func (.func f) fs caps::vs) x= .func (.func f) fs caps) (ha':az.toList.map (a0k (x::az.toList) (.func (.func f) fs caps::vs))=vs) (hf:a1q P f=true)
  (hc:Con P f (fs.toList++vs++caps.toList) H V):Opn P o (.func (.func f) fs caps::vs) H V:=fun w hw=>by
 have ha:az.map (a0k (x::az.toList) (.func (.func f) fs caps::vs))=vs.toArray:=by rw[<-Array.toList_inj,Array.toList_map];exact ha'
 have hos:o.op.operands.toList=x::az.toList:=by simp[ho,Op.operands,Call.operands]
 have hr:(execOp (a0k (x::az.toList) (.func (.func f) fs caps::vs)) o).run P w= .ok (.enter f (fs.toList++vs++caps.toList).toArray) w:=by
  simp only[execOp,ho,resolve,hx,ha,Deferred.ofValue,Sem.run_bind,Sem.run_pure,Result.andThen_ok,invoke]
  rw[a2a hf]
  congr 2
  simp
 unfold Stp
 rw[hos,hr]
 exact(hc w hw).mono fun e w' ⟨v,H',he,hs,hV⟩=>⟨v,he,H',hs,hV⟩
end
end Go.RX
namespace Go.Proofs.YtlmgkkjgdapnpaaGreatDoor
open Go.Proofs.Tryz
open Go.RowKit Go.RX Go.GS Go.RZ Go.WD
set_option maxRecDepth 100000
section
variable {H B:PH} {n k:Nat} {es:List (Nat×Nat)} {us:List Un} {w rw pv tv:Value} {u v:Value} {p:List Int} {s:Nat}
theorem b0x:Asks prog 86 [ii 0] H (.tuple #[]):=by
 refine a0b mixed d1r (by kernel_rfl) rfl ?_
 refine a0a ⟨_,rfl⟩ ?_
 refine a0e (bF (p:=(0:Int)≠0) (by simp)) ?_
 exact a0c rfl ⟨rfl,rfl⟩
theorem a6S (e:Int):Asks prog 87 [.bool false,ii e] H (.tuple #[]):=by
 refine a0b mixed d1q (by kernel_rfl) rfl ?_
 refine a0a ⟨_,rfl⟩ ?_
 refine a0e rfl ?_
 exact a0c rfl ⟨rfl,rfl⟩
theorem c6E (v:Value):Asks prog 89 [v,ii 0] H v:=by
 refine a0b mixed d1m (by kernel_rfl) rfl ?_
 refine a0a ⟨_,rfl⟩ ?_
 refine a0e (bF (p:=(0:Int)≠0) (by simp)) ?_
 exact a0c rfl ⟨rfl,rfl⟩
theorem c6F (v:Value):Asks prog 197 [v,ii 0] H v:=by
 refine a0b mixed d1o (by kernel_rfl) rfl ?_
 refine a0a ⟨_,rfl⟩ ?_
 refine a0e (bF (p:=(0:Int)≠0) (by simp)) ?_
 exact a0c rfl ⟨rfl,rfl⟩
theorem b5f (a b:Nat):Asks prog 194 [shv a b,ii 0] H (shv a b):=by
 refine a0b mixed d1n (by kernel_rfl) rfl ?_
 refine a0a (a0s a b) ?_
 refine a0a ⟨_,rfl⟩ ?_
 refine a0e (bF (p:=(0:Int)≠0) (by simp)) ?_
 exact a0c rfl ⟨rfl,rfl⟩
theorem a3a (a b:Int):(Value.agg #[ii a,ii b]).cells.size=2/\a0p (Value.agg #[ii a,ii b]).cells:=⟨rfl,fun c hc=>by
 simp[Value.cells]at hc
 rcases hc with rfl|rfl<;>rfl⟩
theorem b5g (a b:Int):Asks prog 199 [.agg #[ii a,ii b],ii 0] H (.agg #[ii a,ii b]):=by
 refine a0b mixed d1p (by kernel_rfl) rfl ?_
 refine a0a (a3a a b) ?_
 refine a0a ⟨_,rfl⟩ ?_
 refine a0e (bF (p:=(0:Int)≠0) (by simp)) ?_
 exact a0c rfl ⟨rfl,rfl⟩
theorem a6x {z:Int} (h:z.natAbs<2^62):Rg (z:Rat):=d4y h (by decide) (by decide)
theorem a2D {z:Int} (h:z.natAbs<2^62):a1g prog 196 [ii z] H (shR (z:Rat)):=by
 refine a0b mixed d1v (by kernel_rfl) rfl ?_
 have e:a7L z 1= .tuple #[shR (z:Rat),ii 0]:=by unfold a7L;rw[if_neg (by decide),a8m,a5V (a6x h)];rfl
 refine a0h ((show a1g prog 240 [ii z,ii 1] H (.tuple #[shR (z:Rat),ii 0])from(b8X z 1 (by omega) (by omega) (by decide) (by decide)).mono fun u H' h=>⟨h.1,h.2.trans e⟩)) rfl fun H1 l1=> ?_
 simp only[cA,nA]
 refine a0a ⟨_,rfl,by simp⟩ ?_
 refine a0a ⟨_,rfl,by simp⟩ ?_
 refine a0q (b5f _ _) rfl ?_
 simp only[cA,nA]
 refine a0a (a0s _ _) ?_
 exact a0c rfl ⟨l1,rfl⟩
def scC (n k:Nat) (w rw pv tv:Value):Array Value:= #[ii (n:Nat),w,ii 2,ii 3,ii 2,rw,pv,ii (k:Nat),tv]
theorem d2p (h1:a3G w=true) (h2:a3G rw=true) (h3:a3G pv=true) (h4:a3G tv=true):(Value.agg (scC n k w rw pv tv)).cells.size=9/\a0p (Value.agg (scC n k w rw pv tv)).cells:=⟨rfl,fun c hc=>by
 simp[scC,Value.cells]at hc
 rcases hc with rfl|rfl|rfl|rfl|rfl|rfl|rfl|rfl|rfl
 ·rfl
 ·exact h1
 ·rfl
 ·rfl
 ·rfl
 ·exact h2
 ·exact h3
 ·rfl
 ·exact h4⟩
structure Sce (H:PH) (s n:Nat) (w:Value) (es:List (Nat×Nat)) (rw:Value) (us:List Un) (pv:Value) (p:List Int) (k:Nat) (tv:Value):Prop where
 bk:H s=some (.cells (scC n k w rw pv tv) 190 (0,0))
 gr:SG H w es
 gv:GV n es
 ro:RoR H rw us
 rv:RoV n us
 pl:SI H pv p
 po:PlOk n k p
 hk:1<=k/\k<=8
 to:SI H tv (a2j Un.ppl us p k n)
theorem Sce.mono {H':PH} (h:Sce H s n w es rw us pv p k tv) (hl:PH.le H H'):Sce H' s n w es rw us pv p k tv:=⟨hl _ _ h.bk,h.gr.mono hl,h.gv,h.ro.mono hl,h.rv,h.pl.mono hl,h.po,h.hk,h.to.mono hl⟩
theorem a9k {v:Value} (h:a3G v=true) (h2:v.cells= #[v]):v.cells.size=1/\a0p v.cells:=by
 rw[h2];exact⟨rfl,fun c hc=>by simp at hc;subst hc;exact h⟩
theorem d5m:(a0G prog 3).cells= #[ii 0]:=by kernel_rfl
theorem d5n:(a0G prog 38).cells= #[.slice none 0 0]:=by kernel_rfl
def d6m (a b p k t:SV):SV:= .cat (.ag a) 2 (.cat (.ag b) 4 (.cat (.sub (.put (.cat p 1 (.cat (.z 3) 1 (.z 38))) 1 1 k 0 noI) 0 2 0 noI) 2 t))
theorem d5o {a b p' k' t:SV} {ρ:List Value} (ha:D prog ρ a=gv n w) (hb:D prog ρ b=rov rw) (hp:D prog ρ p'=pv) (hk:D prog ρ k'=ii (k:Nat)) (ht:D prog ρ t=tv) (hpc:pv.cells= #[pv]) (htc:tv.cells= #[tv]):(D prog ρ (d6m a b p' k' t)).cells=scC n k w rw pv tv:=by
 show(Value.agg ((Value.agg (D prog ρ a).cells).cells++(Value.agg ((Value.agg (D prog ρ b).cells).cells++(Value.agg ((D prog ρ (.sub (.put (.cat p' 1 (.cat (.z 3) 1 (.z 38))) 1 1 k' 0 noI) 0 2 0 noI)).cells++(D prog ρ t).cells)).cells)).cells)).cells=_
 have e:D prog ρ (.sub (.put (.cat p' 1 (.cat (.z 3) 1 (.z 38))) 1 1 k' 0 noI) 0 2 0 noI)= .agg #[pv,ii (k:Nat)]:=by
  simp only[D,hp,hk,hpc,d5m,d5n]
  rfl
 rw[e,ha,hb,ht,htc]
 rfl
theorem d5p {a b p' k' t:SV} {ρ:List Value} (ha:D prog ρ a=gv n w) (hb:D prog ρ b=rov rw) (hp:D prog ρ p'=pv) (hk:D prog ρ k'=ii (k:Nat)) (ht:D prog ρ t=tv) (hpc:pv.cells= #[pv]) (htc:tv.cells= #[tv]) (h1:a3G w=true) (h2:a3G rw=true) (h3:a3G pv=true) (h4:a3G tv=true):Rq.holds prog ρ (.cells 9 (d6m a b p' k' t)):=by
 show(D prog ρ (d6m a b p' k' t)).cells.size=9/\a0p (D prog ρ (d6m a b p' k' t)).cells
 rw[d5o ha hb hp hk ht hpc htc];exact d2p h1 h2 h3 h4
theorem c6G (hw:SG H w es) (hg:GV n es) (hr:RoR H rw us) (hv:RoV n us) (hp:SI H pv p) (ho:PlOk n k p) (hk:1<=k/\k<=8):Con prog 33 [gv n w,rov rw,pv,ii (k:Nat)] H fun r H'=>PH.le H H'/\∃s tv,r= .pointer (some ⟨s,0,none⟩)/\Sce H' s n w es rw us pv p k tv:=by
 refine a0b mixed d1s (by kernel_rfl) rfl ?_
 have hle:=hv.le
 have h64:=hv.l64
 obtain⟨hL,hU⟩:=ho.ok hg.n1 hg.n64
 have hpE:plE n p (k:Nat)=0:=by
  unfold plE
  rw[if_neg (by omega),if_pos ⟨ho.len,hL,by rw[Int.toNat_natCast];exact hU⟩]
 obtain⟨ul,hwu,hlen,hun⟩:=id hr
 refine a0a (a2e hw) ?_
 refine a0a (a1A hr.one) ?_
 refine a0h (a2f hw hg) rfl fun H1 l1=> ?_
 simp only[cA,nA]
 refine a0q (b0x) rfl ?_
 simp only[cA,nA]
 refine a0h (a3k (hr.mono l1) hv) rfl fun H2 l2=> ?_
 simp only[cA,nA]
 refine a0q (b0x) rfl ?_
 simp only[cA,nA]
 have l02:=l1.trans l2
 refine a0j a0U rfl rfl (hwu.mono l02) rfl ?_
 simp only[cA,nA]
 refine a0W (α:=Nat) (fun i=>[ii (min i n:Nat),ii (i:Nat)]) (fun i=>i<=us.length) (fun i=>us.length-i) (0) (by rw[Nat.zero_min];rfl) ((Nat.zero_le _)) fun i hQ=> ?_
 simp only[cA,nA]
 refine a0a ⟨_,rfl⟩ ?_
 refine a0a ⟨_,rfl⟩ ?_
 refine a0f (b:=decide (((i:Nat):Int)<(ul.length:Nat))) rfl (fun h=> ?_) (fun h=> ?_)
 ·replace h:=of_decide_eq_true h
  have hiu:i<ul.length:=by omega
  obtain⟨u,hu,_⟩:=a0t hiu
  obtain⟨x,hx,_⟩:=a0t (show i<us.length by omega)
  have hwt:u.wat=decide (n<=i):=(hun i u x hu hx).wat.trans (hv.wat i x hx)
  refine a0m a0U rfl rfl rfl rfl (fun _=>rfl) (hwu.mono l02) hu rfl (fun _=>rfl) fun _=> ?_
  simp only[cA,nA]
  refine a0a (a1O u) ?_
  refine a0a ⟨_,rfl⟩ ?_
  refine⟨(fun l H'=>l=[ii (min (i+1) n:Nat)]/\H'=H2),?_,?_⟩
  ·skip
   refine a0f (b:= !u.wat) rfl (fun hb=> ?_) (fun hb=> ?_)
   ·skip
    have hni:¬n<=i:=fun hh=>by rw[hwt,decide_eq_true hh]at hb;cases hb
    refine a0a ⟨_,rfl⟩ ?_
    exact⟨by rw[show min (i+1) n=i+1 by omega];exact a1R (a0J (by rw[show min i n=i by omega];rfl) (by omega)),rfl⟩
   ·skip
    have hni:n<=i:=by rw[hwt]at hb;simpa using hb
    exact⟨by rw[show min (i+1) n=min i n by omega];rfl,rfl⟩
  rintro vals H' _ ⟨rfl,rfl⟩
  simp only[cA,nA]
  exact⟨(i+1),by show us.length-(i+1)<us.length-i;omega,(a0R rfl (a0J rfl (by omega))),⟨by show i+1<=us.length;omega,rfl⟩⟩
 ·replace h:=of_decide_eq_false h
  refine a0a ⟨_,rfl⟩ ?_
  refine a0a ⟨_,rfl⟩ ?_
  refine a0q (a6S 5) (a0R (d2g (a:=((min i n:Nat):Int)) (b:=((n:Nat):Int)) (by omega)) rfl) ?_
  simp only[cA,nA]
  refine a0h (b1P (hw.mono l02) hg (hp.mono l02) (k:Nat)) rfl fun H3 l3=> ?_
  simp only[cA,nA]
  rw[hpE]
  refine a0q (b0x) rfl ?_
  simp only[cA,nA]
  have l03:=l02.trans l3
  refine a0d (c6r (hr.mono l03) hv hk (hp.mono l03) ho) rfl ?_
  rintro _ H4 ⟨l4,t,rfl,ht⟩
  refine⟨(fun _=>l4),?_⟩
  simp only[cA,nA]
  refine a0a ⟨_,rfl,by simp⟩ ?_
  refine a0a ⟨_,rfl,by simp⟩ ?_
  refine a0q (c6E t) rfl ?_
  simp only[cA,nA]
  have l04:=l03.trans l4
  refine a0a (hp.one) ?_
  refine a0a (el_int.vcells _) ?_
  refine a0a (ht.one) ?_
  refine a0a (d5p rfl rfl rfl rfl rfl hp.cells ht.cells (a0I hw) (a0I hwu) (a0I hp) (a0I ht)) ?_
  refine a0A (cs:=scC n k w rw pv t) (d5o rfl rfl rfl rfl rfl hp.cells ht.cells) fun s hs=> ?_
  simp only[cA,nA]
  have ls:=PH.le_put hs (.cells (scC n k w rw pv t) 190 (0,0))
  exact a0c rfl ⟨l04.trans ls,s,_,rfl,PH.put_self _ _ _,hw.mono (l04.trans ls),hg,hr.mono (l04.trans ls),hv,hp.mono (l04.trans ls),ho,hk,ht.mono ls⟩
theorem d5q:FA prog 190 0 0:=⟨by kernel_rfl,of_decide_eq_true (by kernel_rfl),by kernel_rfl,by kernel_rfl,of_decide_eq_true (by kernel_rfl)⟩
theorem a8p:FA prog 190 1 2:=⟨by kernel_rfl,of_decide_eq_true (by kernel_rfl),by kernel_rfl,by kernel_rfl,of_decide_eq_true (by kernel_rfl)⟩
theorem b2l:FA prog 190 2 6:=⟨by kernel_rfl,of_decide_eq_true (by kernel_rfl),by kernel_rfl,by kernel_rfl,of_decide_eq_true (by kernel_rfl)⟩
theorem a9l:FA prog 190 3 7:=⟨by kernel_rfl,of_decide_eq_true (by kernel_rfl),by kernel_rfl,by kernel_rfl,of_decide_eq_true (by kernel_rfl)⟩
theorem b2m:FA prog 190 4 8:=⟨by kernel_rfl,of_decide_eq_true (by kernel_rfl),by kernel_rfl,by kernel_rfl,of_decide_eq_true (by kernel_rfl)⟩
theorem b5h {g:FuncId} {caps:List Value} {f:Un->Int} (hS:Sce H s n w es rw us pv p k tv) (eg:a1q prog g=true) (hf:∀H' x u,PH.le H H'->x∈us->UnR H' u x->Asks prog g (veU u::caps) H' (ii (f x))) (hb:∀x∈us,0<=f x/\f x<=1000000000):Con prog 201 [.pointer (some ⟨s,0,none⟩),.func (.func g) #[] caps.toArray] H fun r H'=>PH.le H H'/\SO H H' 3 1 (fun z:Int=>[ii z]) r (a2j f us p k n):=by
 refine a0b mixed d1t (by kernel_rfl) rfl ?_
 have hk:=hS.hk
 have hv:=hS.rv
 have hle:=hv.le
 have h64:=hv.l64
 have hpl:=hS.po.len
 obtain⟨ul,hwu,hlen,hun⟩:=id hS.ro
 refine a0u (ad:=⟨s,0,none⟩) rfl rfl rfl ?_
 simp only[cA,nA]
 refine a0i a9l rfl rfl rfl ?_
 simp only[cA,nA]
 refine a0g sc_int rfl rfl hS.bk rfl rfl ?_
 simp only[cA,nA]
 refine a2x el_int (m:=k) (z:=0) (by kernel_rfl) rfl rfl rfl (by omega) rfl fun v5 H2 l2 o2 _=> ?_
 simp only[cA,nA]
 refine a0u (ad:=⟨s,0,none⟩) rfl rfl rfl ?_
 simp only[cA,nA]
 refine a0i b2l rfl rfl rfl ?_
 simp only[cA,nA]
 refine a0g a1Q rfl rfl (l2 _ _ hS.bk) rfl rfl ?_
 simp only[cA,nA]
 refine a0j a0S rfl rfl (hS.pl.mono l2) rfl ?_
 simp only[cA,nA]
 refine a0o (α:=Nat) (fun i=>[ii (i:Nat)]) (fun i=>fun H'=>i<=n/\PH.le H H'/\SO H H' 3 1 (fun z:Int=>[ii z]) v5 (a2j f us p k i)) (fun i=>n-i) (0) rfl (⟨Nat.zero_le _,l2,by rw[b1W];exact o2⟩) fun i H' hQ=> ?_
 simp only[cA,nA]
 obtain⟨hi,lX,oX⟩:=hQ
 refine a0a ⟨_,rfl⟩ ?_
 refine a0a ⟨_,rfl⟩ ?_
 refine a0f (b:=decide (((i:Nat):Int)<(p.length:Nat))) rfl (fun h=> ?_) (fun h=> ?_)
 ·replace h:=of_decide_eq_true h
  have hi':i<n:=by omega
  obtain⟨y,hy,_⟩:=a0t (show i<p.length by omega)
  obtain⟨hy0,hyk⟩:=hS.po.lab y (List.mem_of_getElem? hy)
  obtain⟨d,rfl⟩:∃d:Nat,y=((d:Nat):Int):=⟨y.toNat,by omega⟩
  have hdk:d<k:=by omega
  obtain⟨u,hu,_⟩:=a0t (show i<ul.length by omega)
  obtain⟨x,hx,_⟩:=a0t (show i<us.length by omega)
  have hb1:=a9j (p:=p) (f:=f) (by omega) hb d i
  have hxb:=hb x (List.mem_of_getElem? hx)
  refine a0m a0S rfl rfl rfl rfl (fun _=>rfl) (hS.pl.mono lX) hy rfl (fun _=>rfl) fun _=> ?_
  simp only[cA,nA]
  refine a0m el_int rfl rfl rfl rfl (fun _=>rfl) oX.se (a1V (f:=f) (us:=us) (p:=p) (i:=i) hdk) rfl (fun _=>rfl) fun _=> ?_
  simp only[cA,nA]
  refine a0u (ad:=⟨s,0,none⟩) rfl rfl rfl ?_
  simp only[cA,nA]
  refine a0i a8p rfl rfl rfl ?_
  simp only[cA,nA]
  refine a0i c0F rfl rfl rfl ?_
  simp only[cA,nA]
  refine a0g c0G rfl rfl (lX _ _ hS.bk) rfl rfl ?_
  simp only[cA,nA]
  refine a0m a0U rfl rfl rfl rfl (fun _=>rfl) (hwu.mono lX) hu rfl (fun _=>rfl) fun _=> ?_
  simp only[cA,nA]
  refine a0n (a0D (f:=g) (caps:=caps.toArray) (vs:=[veU u]) rfl rfl rfl eg (hf _ x u lX (List.mem_of_getElem? hx) ((hun i u x hu hx).mono lX))) rfl ?_
  rintro _ _ ⟨rfl,rfl⟩
  refine⟨(fun _=>PH.le.refl _),?_⟩
  simp only[cA,nA]
  refine a0a ⟨_,rfl⟩ ?_
  refine a0a ⟨_,rfl⟩ ?_
  refine a1M el_int (a:=a0V f us p i d+f x) rfl rfl rfl rfl (fun _=>rfl) (fun _=>rfl) lX oX (by rw[a1P];exact hdk) rfl (fun _=>a0R rfl (a3I rfl rfl (by omega) (by omega))) rfl fun p5 u5 H5 l5 o5 _=> ?_
  simp only[cA,nA]
  have e5:(a2j f us p k i).set d (a0V f us p i d+f x)=a2j f us p k (i+1):=(b1X hy hx).symm
  rw[e5]at o5
  exact⟨(i+1),by show n-(i+1)<n-i;omega,(a1R (a0J rfl (by omega))),⟨hi',l5,o5⟩⟩
 ·replace h:=of_decide_eq_false h
  obtain rfl:i=n:=by omega
  exact a0c rfl ⟨lX,oX⟩
theorem b5i {g:FuncId} {caps:List Value} {q:Nat->Bool} (hb:∃w rw pv tv T,H s=some (.cells (scC n k w rw pv tv) T (0,0))) (hk:k<=8) (eg:a1q prog g=true) (hf:∀H' d,PH.le H H'->d<k->Asks prog g (ii (d:Nat)::caps) H' (.bool (q d))):Con prog 203 [.pointer (some ⟨s,0,none⟩),.func (.func g) #[] caps.toArray] H fun r H'=>PH.le H H'/\∃l:List Int,SI H' r l/\l.length=(List.range k).countP q:=by
 refine a0b mixed d1u (by kernel_rfl) rfl ?_
 obtain⟨w,rw',pv,tv,T,hb⟩:=hb
 refine a0u (ad:=⟨s,0,none⟩) rfl rfl rfl ?_
 simp only[cA,nA]
 refine a0i a9l rfl rfl rfl ?_
 simp only[cA,nA]
 refine a0g sc_int rfl rfl hb rfl rfl ?_
 simp only[cA,nA]
 refine a0o (α:=Nat×Value×List Int) (fun⟨i,out,l⟩=>[out,ii (i:Nat)]) (fun⟨i,out,l⟩=>fun H'=>i<=k/\PH.le H H'/\SO H H' 3 1 (fun z:Int=>[ii z]) out l/\l.length=(List.range i).countP q) (fun⟨i,out,l⟩=>k-i) ((0,.slice none 0 0,[])) rfl (⟨Nat.zero_le _,PH.le.refl _,SO.nil _ _ _ _ _,rfl⟩) fun⟨i,out,l⟩ H' hQ=> ?_
 simp only[cA,nA]
 obtain⟨hi,l1,o1,hlen⟩:=hQ
 refine a0a ⟨_,rfl⟩ ?_
 refine a0a ⟨_,rfl⟩ ?_
 refine a0f (b:=decide (((i:Nat):Int)<(k:Nat))) rfl (fun h=> ?_) (fun h=> ?_)
 ·replace h:=of_decide_eq_true h
  have hik:i<k:=by omega
  refine a0n (a0D (f:=g) (caps:=caps.toArray) (vs:=[ii (i:Nat)]) rfl rfl rfl eg (hf _ i l1 hik)) rfl ?_
  rintro _ _ ⟨rfl,rfl⟩
  refine⟨fun h=>(nomatch h),?_⟩
  simp only[cA,nA]
  refine a0a ⟨_,rfl⟩ ?_
  refine a0f (b:=q i) rfl (fun hq=> ?_) (fun hq=> ?_)
  ·skip
   have hcl:=List.countP_le_length (p:=q) (l:=List.range i)
   rw[List.length_range]at hcl
   refine a0P el_int rfl rfl rfl (fun _=>rfl) (fun _=>rfl) l1 o1 (by omega) rfl (fun _=>rfl) rfl fun pv2 v11 H7 l7 o7=> ?_
   simp only[cA,nA]
   exact⟨(i+1,v11,l++[((i:Nat):Int)]),by show k-(i+1)<k-i;omega,(a0R rfl (a0J rfl (by omega))),⟨hik,l7,o7,by rw[List.length_append,List.range_succ,List.countP_append,hlen];simp[hq]⟩⟩
  ·skip
   exact⟨(i+1,out,l),by show k-(i+1)<k-i;omega,(a0R rfl (a0J rfl (by omega))),⟨hik,l1,o1,by rw[List.range_succ,List.countP_append,hlen];simp[hq]⟩⟩
 ·replace h:=of_decide_eq_false h
  obtain rfl:i=k:=by omega
  exact a0c rfl ⟨l1,l,o1.se,hlen⟩
end
end Go.Proofs.YtlmgkkjgdapnpaaGreatDoor
/- Judge: measures. -/
namespace Go.GS
def b6D (j:Nat) (x:Un):Int:=(x.grp[j]?).getD 0
def a5a (j:Nat) (x:Un):Int:=(x.vot[j]?).getD 0
def c8l (us:List Un) (p:List Int) (k n j:Nat):Nat:=(List.range k).countP fun d=>decide (2*a0V (b6D j) us p n d>a0V Un.ppl us p n d)
def c8m (us:List Un) (p:List Int) (k n j:Nat):Nat:=(List.range k).countP fun d=>(List.range 3).all fun i=>decide (i=j)||decide (a0V (a5a i) us p n d<a0V (a5a j) us p n d)
end Go.GS
namespace Go.Proofs.YtlmgkkjgdapnpaaGreatDoor
open Go.Proofs.Tryz
open Go.RowKit Go.RX Go.GS Go.RZ Go.WD
set_option maxRecDepth 100000
section
variable {H B:PH} {n k lv who:Nat} {es:List (Nat×Nat)} {us:List Un} {w rw pv tv:Value} {u v:Value} {p:List Int} {s:Nat}
def qV (lv who:Nat):Value:= .agg #[ii (lv:Nat),ii (who:Nat)]
theorem b2n:Ag prog 32 2:=⟨by kernel_rfl,by kernel_rfl,by kernel_rfl⟩
theorem c1q (hS:Sce H s n w es rw us pv p k tv) (hz:a5B us n≠0):a1g prog 134 [.pointer (some ⟨s,0,none⟩),qV lv who] H (shR (c6q us p k n)):=by
 refine a0b mixed d1w (by kernel_rfl) rfl ?_
 refine a0a (a3a _ _) ?_
 refine a0u (ad:=⟨s,0,none⟩) rfl rfl rfl ?_
 simp only[cA,nA]
 refine a0i a8p rfl rfl rfl ?_
 simp only[cA,nA]
 refine a0N (vs:=[ii 2,ii 3,ii 2,rw]) a4d rfl rfl hS.bk rfl (show 2+4<=9 by decide) rfl ?_
 simp only[cA,nA]
 refine a0u (ad:=⟨s,0,none⟩) rfl rfl rfl ?_
 simp only[cA,nA]
 refine a0i b2l rfl rfl rfl ?_
 simp only[cA,nA]
 refine a0g a1Q rfl rfl hS.bk rfl rfl ?_
 simp only[cA,nA]
 refine a0u (ad:=⟨s,0,none⟩) rfl rfl rfl ?_
 simp only[cA,nA]
 refine a0i a9l rfl rfl rfl ?_
 simp only[cA,nA]
 refine a0g sc_int rfl rfl hS.bk rfl rfl ?_
 simp only[cA,nA]
 refine a0h (c0R hS.ro hS.rv hS.hk hS.pl hS.po hz) rfl fun H1 l1=> ?_
 simp only[cA,nA]
 refine a0a ⟨_,rfl,by simp⟩ ?_
 refine a0a ⟨_,rfl,by simp⟩ ?_
 refine a0q (b5f _ _) rfl ?_
 simp only[cA,nA]
 refine a0a (a0s _ _) ?_
 exact a0c rfl ⟨l1,rfl⟩
theorem b3M (hv:RoV n us) (d:Nat):0<=a0V Un.ppl us p n d/\a0V Un.ppl us p n d<=64000000000:=by
 have h1:=hv.l64
 have h2:=hv.le
 have:=a9j (p:=p) (f:=Un.ppl) (by omega) (a8l hv) d n
 omega
theorem a6a (hv:RoV n us):∀x∈a2j Un.ppl us p k n,0<=x/\x<=64000000000:=fun x hx=>by
 obtain⟨d,_,rfl⟩:=List.mem_map.1 hx
 exact b3M hv d
theorem c1r (hS:Sce H s n w es rw us pv p k tv):a1g prog 135 [.pointer (some ⟨s,0,none⟩),qV lv who] H (shR ((b2O (a0V Un.ppl us p n 0) (a2j Un.ppl us p k n):Int):Rat)):=by
 refine a0b mixed d1x (by kernel_rfl) rfl ?_
 have hk:=hS.hk
 have hlen:(a2j Un.ppl us p k n).length=k:=a1P
 have hmx:=b4X _ _ (b3M (p:=p) hS.rv 0) (a6a (p:=p) (k:=k) hS.rv)
 generalize hl:a2j Un.ppl us p k n=l at hlen hmx⊢
 have hto:SI H tv l:=hl ▸ hS.to
 have h0:l[0]? =some (a0V Un.ppl us p n 0):=by rw[<-hl];exact a1V (by omega)
 refine a0a (a3a _ _) ?_
 refine a0u (ad:=⟨s,0,none⟩) rfl rfl rfl ?_
 simp only[cA,nA]
 refine a0i b2m rfl rfl rfl ?_
 simp only[cA,nA]
 refine a0g a1S rfl rfl hS.bk rfl rfl ?_
 simp only[cA,nA]
 refine a0m el_int rfl rfl rfl rfl (fun _=>rfl) hto h0 rfl (fun _=>rfl) fun _=> ?_
 simp only[cA,nA]
 refine a0u (ad:=⟨s,0,none⟩) rfl rfl rfl ?_
 simp only[cA,nA]
 refine a0i b2m rfl rfl rfl ?_
 simp only[cA,nA]
 refine a0g a1S rfl rfl hS.bk rfl rfl ?_
 simp only[cA,nA]
 refine a0j el_int rfl rfl hto rfl ?_
 simp only[cA,nA]
 refine a0W (α:=Nat) (fun i=>[ii (b2O (a0V Un.ppl us p n 0) (l.take i)),ii (i:Nat)]) (fun i=>i<=l.length) (fun i=>l.length-i) (0) rfl ((Nat.zero_le _)) fun i hQ=> ?_
 simp only[cA,nA]
 refine a0a ⟨_,rfl⟩ ?_
 refine a0a ⟨_,rfl⟩ ?_
 refine a0f (b:=decide (((i:Nat):Int)<(l.length:Nat))) rfl (fun h=> ?_) (fun h=> ?_)
 ·replace h:=of_decide_eq_true h
  have hi':i<l.length:=by omega
  obtain⟨x,hx,_⟩:=a0t hi'
  refine a0m el_int rfl rfl rfl rfl (fun _=>rfl) hto hx rfl (fun _=>rfl) fun _=> ?_
  simp only[cA,nA]
  refine a0l ((b4N (vs:=[ii (b2O (a0V Un.ppl us p n 0) (l.take i)),ii x]) rfl rfl rfl).rds _) rfl ?_
  simp only[cA,nA]
  exact⟨(i+1),by show l.length-(i+1)<l.length-i;omega,(a0R (by rw[take_snoc hx,b2b];rfl) (a0J rfl (by omega))),⟨hi',rfl⟩⟩
 ·replace h:=of_decide_eq_false h
  rw[List.take_of_length_le (by omega)]
  refine a0h (a2D (by omega)) rfl fun H1 l1=> ?_
  simp only[cA,nA]
  refine a0a (a0s _ _) ?_
  exact a0c rfl ⟨l1,rfl⟩
theorem c1s (hS:Sce H s n w es rw us pv p k tv):a1g prog 137 [.pointer (some ⟨s,0,none⟩),qV lv who] H (shR ((b2N (a0V Un.ppl us p n 0) (a2j Un.ppl us p k n):Int):Rat)):=by
 refine a0b mixed d1z (by kernel_rfl) rfl ?_
 have hk:=hS.hk
 have hlen:(a2j Un.ppl us p k n).length=k:=a1P
 have hmx:=b4W _ _ (b3M (p:=p) hS.rv 0) (a6a (p:=p) (k:=k) hS.rv)
 generalize hl:a2j Un.ppl us p k n=l at hlen hmx⊢
 have hto:SI H tv l:=hl ▸ hS.to
 have h0:l[0]? =some (a0V Un.ppl us p n 0):=by rw[<-hl];exact a1V (by omega)
 refine a0a (a3a _ _) ?_
 refine a0u (ad:=⟨s,0,none⟩) rfl rfl rfl ?_
 simp only[cA,nA]
 refine a0i b2m rfl rfl rfl ?_
 simp only[cA,nA]
 refine a0g a1S rfl rfl hS.bk rfl rfl ?_
 simp only[cA,nA]
 refine a0m el_int rfl rfl rfl rfl (fun _=>rfl) hto h0 rfl (fun _=>rfl) fun _=> ?_
 simp only[cA,nA]
 refine a0u (ad:=⟨s,0,none⟩) rfl rfl rfl ?_
 simp only[cA,nA]
 refine a0i b2m rfl rfl rfl ?_
 simp only[cA,nA]
 refine a0g a1S rfl rfl hS.bk rfl rfl ?_
 simp only[cA,nA]
 refine a0j el_int rfl rfl hto rfl ?_
 simp only[cA,nA]
 refine a0W (α:=Nat) (fun i=>[ii (b2N (a0V Un.ppl us p n 0) (l.take i)),ii (i:Nat)]) (fun i=>i<=l.length) (fun i=>l.length-i) (0) rfl ((Nat.zero_le _)) fun i hQ=> ?_
 simp only[cA,nA]
 refine a0a ⟨_,rfl⟩ ?_
 refine a0a ⟨_,rfl⟩ ?_
 refine a0f (b:=decide (((i:Nat):Int)<(l.length:Nat))) rfl (fun h=> ?_) (fun h=> ?_)
 ·replace h:=of_decide_eq_true h
  have hi':i<l.length:=by omega
  obtain⟨x,hx,_⟩:=a0t hi'
  refine a0m el_int rfl rfl rfl rfl (fun _=>rfl) hto hx rfl (fun _=>rfl) fun _=> ?_
  simp only[cA,nA]
  refine a0l ((a6I (vs:=[ii (b2N (a0V Un.ppl us p n 0) (l.take i)),ii x]) rfl rfl rfl).rds _) rfl ?_
  simp only[cA,nA]
  exact⟨(i+1),by show l.length-(i+1)<l.length-i;omega,(a0R (by rw[take_snoc hx,b2a];rfl) (a0J rfl (by omega))),⟨hi',rfl⟩⟩
 ·replace h:=of_decide_eq_false h
  rw[List.take_of_length_le (by omega)]
  refine a0h (a2D (by omega)) rfl fun H1 l1=> ?_
  simp only[cA,nA]
  refine a0a (a0s _ _) ?_
  exact a0c rfl ⟨l1,rfl⟩
theorem c1t (hS:Sce H s n w es rw us pv p k tv):a1g prog 136 [.pointer (some ⟨s,0,none⟩),qV lv who] H (shR (((c8e es p:Nat):Int):Rat)):=by
 refine a0b mixed d1y (by kernel_rfl) rfl ?_
 have hel:=hS.gv.len
 have hcl:=b3J (es:=es) (p:=p)
 refine a0a (a3a _ _) ?_
 refine a0u (ad:=⟨s,0,none⟩) rfl rfl rfl ?_
 simp only[cA,nA]
 refine a0i d5q rfl rfl rfl ?_
 simp only[cA,nA]
 refine a0N (vs:=[ii (n:Nat),w]) b2n rfl rfl hS.bk rfl (show 0+2<=9 by decide) rfl ?_
 simp only[cA,nA]
 refine a0u (ad:=⟨s,0,none⟩) rfl rfl rfl ?_
 simp only[cA,nA]
 refine a0i b2l rfl rfl rfl ?_
 simp only[cA,nA]
 refine a0g a1Q rfl rfl hS.bk rfl rfl ?_
 simp only[cA,nA]
 refine a0u (ad:=⟨s,0,none⟩) rfl rfl rfl ?_
 simp only[cA,nA]
 refine a0i a9l rfl rfl rfl ?_
 simp only[cA,nA]
 refine a0g sc_int rfl rfl hS.bk rfl rfl ?_
 simp only[cA,nA]
 refine a0h (c0U hS.gr hS.gv hS.pl hS.hk hS.po) rfl fun H1 l1=> ?_
 simp only[cA,nA]
 refine a0a ⟨_,rfl,by simp⟩ ?_
 refine a0a ⟨_,rfl,by simp⟩ ?_
 refine a0q (c6F _) rfl ?_
 simp only[cA,nA]
 refine a0h (a2D (by omega)) rfl fun H2 l2=> ?_
 simp only[cA,nA]
 refine a0a (a0s _ _) ?_
 exact a0c rfl ⟨l1.trans l2,rfl⟩
theorem c8n:d2o us p lv n<=64:=by
 unfold d2o
 refine Nat.le_trans List.countP_le_length ?_
 unfold nmD
 rw[List.length_map]
 refine Nat.le_trans (List.length_filter_le _ _) ?_
 rw[List.length_range];exact Nat.le_refl _
theorem d7i {l:List Int} {M:Int} (h:∀x∈l,0<=x/\x<=M):0<=l.sum/\l.sum<=(l.length:Nat)*M:=by
 induction l with
 |nil=>simp
 |cons a l ih=>
  have h1:=h a (by simp)
  have h2:=ih (fun x hx=>h x (by simp[hx]))
  rw[List.sum_cons,List.length_cons,Int.natCast_succ,Int.add_mul,Int.one_mul]
  omega
theorem c8o:0<=c8k us p lv n/\c8k us p lv n<=100000:=by
 have hl:(nmD us lv n).length<=64:=by
  unfold nmD
  rw[List.length_map]
  refine Nat.le_trans (List.length_filter_le _ _) ?_
  rw[List.length_range];exact Nat.le_refl _
 have:=d7i (l:=(nmD us lv n).map fun nm=>((ocN (a8x us p lv nm n):Nat):Int)) (M:=256) (fun x hx=>by
  obtain⟨nm,_,rfl⟩:=List.mem_map.1 hx
  have:=c1l (a8x us p lv nm n)
  omega)
 rw[List.length_map]at this
 unfold c8k
 omega
theorem c1u (hS:Sce H s n w es rw us pv p k tv) (hl:lv<2):a1g prog 138 [.pointer (some ⟨s,0,none⟩),qV lv who] H (shR (((d2o us p lv n:Nat):Int):Rat)):=by
 refine a0b mixed d1A (by kernel_rfl) rfl ?_
 have hb:=c8n (us:=us) (p:=p) (lv:=lv) (n:=n)
 refine a0a (a3a _ _) ?_
 refine a0u (ad:=⟨s,0,none⟩) rfl rfl rfl ?_
 simp only[cA,nA]
 refine a0i a8p rfl rfl rfl ?_
 simp only[cA,nA]
 refine a0N (vs:=[ii 2,ii 3,ii 2,rw]) a4d rfl rfl hS.bk rfl (show 2+4<=9 by decide) rfl ?_
 simp only[cA,nA]
 refine a0u (ad:=⟨s,0,none⟩) rfl rfl rfl ?_
 simp only[cA,nA]
 refine a0i b2l rfl rfl rfl ?_
 simp only[cA,nA]
 refine a0g a1Q rfl rfl hS.bk rfl rfl ?_
 simp only[cA,nA]
 refine a0u (ad:=⟨s,0,none⟩) rfl rfl rfl ?_
 simp only[cA,nA]
 refine a0i a9l rfl rfl rfl ?_
 simp only[cA,nA]
 refine a0g sc_int rfl rfl hS.bk rfl rfl ?_
 simp only[cA,nA]
 refine a0h (b2k hS.ro hS.rv hl hS.hk hS.pl hS.po) rfl fun H1 l1=> ?_
 simp only[cA,nA]
 refine a0a ⟨_,rfl,by simp⟩ ?_
 refine a0a ⟨_,rfl,by simp⟩ ?_
 refine a0q (b5g _ _) rfl ?_
 simp only[cA,nA]
 refine a0a ⟨_,rfl,rfl⟩ ?_
 refine a0h (a2D (by omega)) rfl fun H2 l2=> ?_
 simp only[cA,nA]
 refine a0a (a0s _ _) ?_
 exact a0c rfl ⟨l1.trans l2,rfl⟩
theorem c1v (hS:Sce H s n w es rw us pv p k tv) (hl:lv<2):a1g prog 139 [.pointer (some ⟨s,0,none⟩),qV lv who] H (shR ((c8k us p lv n:Int):Rat)):=by
 refine a0b mixed d1B (by kernel_rfl) rfl ?_
 have hb:=c8o (us:=us) (p:=p) (lv:=lv) (n:=n)
 refine a0a (a3a _ _) ?_
 refine a0u (ad:=⟨s,0,none⟩) rfl rfl rfl ?_
 simp only[cA,nA]
 refine a0i a8p rfl rfl rfl ?_
 simp only[cA,nA]
 refine a0N (vs:=[ii 2,ii 3,ii 2,rw]) a4d rfl rfl hS.bk rfl (show 2+4<=9 by decide) rfl ?_
 simp only[cA,nA]
 refine a0u (ad:=⟨s,0,none⟩) rfl rfl rfl ?_
 simp only[cA,nA]
 refine a0i b2l rfl rfl rfl ?_
 simp only[cA,nA]
 refine a0g a1Q rfl rfl hS.bk rfl rfl ?_
 simp only[cA,nA]
 refine a0u (ad:=⟨s,0,none⟩) rfl rfl rfl ?_
 simp only[cA,nA]
 refine a0i a9l rfl rfl rfl ?_
 simp only[cA,nA]
 refine a0g sc_int rfl rfl hS.bk rfl rfl ?_
 simp only[cA,nA]
 refine a0h (b2k hS.ro hS.rv hl hS.hk hS.pl hS.po) rfl fun H1 l1=> ?_
 simp only[cA,nA]
 refine a0a ⟨_,rfl,by simp⟩ ?_
 refine a0a ⟨_,rfl,by simp⟩ ?_
 refine a0q (b5g _ _) rfl ?_
 simp only[cA,nA]
 refine a0a ⟨_,rfl,rfl⟩ ?_
 refine a0h (a2D (by omega)) rfl fun H2 l2=> ?_
 simp only[cA,nA]
 refine a0a (a0s _ _) ?_
 exact a0c rfl ⟨l1.trans l2,rfl⟩
end
end Go.Proofs.YtlmgkkjgdapnpaaGreatDoor

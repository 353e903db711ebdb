/- Balance: what is exported. -/
import Derived.Test.YtcdnhlplkhldbaaGreatDoorGfC
import Derived.Shelf.SlGeneric
import Derived.Ground.SlsfProg
import Derived.Shelf.SlSortCmp.WholeK
import Derived.Shelf.SlSortCmp.Whole1
open Array renaming getElem?_modify->mC
open Go.Value.int renaming injEq->kP
open Int renaming natAbs_mul->jQ,natAbs_natCast->eU
open List renaming filter_eq_self->kG,foldl_append->jL,getElem?_eq_none_iff->lQ,map->kZ,nodup_cons->fM
open List.Nodup renaming length_le_of_subset->jM
open List.Perm renaming append_left->pB,refl->oZ,trans->pA
open Nat renaming beq->gW,le_of_lt->nE,mul_lt_mul_of_lt_of_le->lO,or_lt_two_pow->iY,pow_add->fW,two_pow_pos->iO,zero_or->pU
set_option linter.all false
set_option maxRecDepth 100000
namespace Go.GS
def Em (a:Int) (l:List Int):Int:=l.foldl (fun m x=>if x<m then x else m) a
def Dx (a:Int) (l:List Int):Int:=l.foldl (fun m x=>if x>m then x else m) a
def nj {lo hi:Int}:∀(l:List Int) (a:Int),lo<=a/\a<=hi->(∀x∈l,lo<=x/\x<=hi)->lo<=Em a l/\Em a l<=hi:=by
 intro l;induction l with
 |nil=>intro a h _;exact h
 |cons x l ih=>
  intro a h hl;have hx:=hl x aD;exact ih _ (by dsimp only;split<;>omega) (fun y hy=>hl y (by simp[hy]))
def nl {lo hi:Int}:∀(l:List Int) (a:Int),lo<=a/\a<=hi->(∀x∈l,lo<=x/\x<=hi)->lo<=Dx a l/\Dx a l<=hi:=by
 intro l;induction l with
 |nil=>intro a h _;exact h
 |cons x l ih=>
  intro a h hl;have hx:=hl x aD;exact ih _ (by dsimp only;split<;>omega) (fun y hy=>hl y (by simp[hy]))
def RQ (a x:Int) (l:List Int):Em a (l++[x])=if x<Em a l then x else Em a l:=by
 unfold Em;rw[jL];rfl
def RR (a x:Int) (l:List Int):Dx a (l++[x])=if x>Dx a l then x else Dx a l:=by
 unfold Dx;rw[jL];rfl
def RS {a b:Int} (ha:a≠0) (hb:b≠0):Rat.divInt a b≠0:=fun e=>by
 rw[Rat.divInt_eq_div]at e;have h1:(a:Rat)≠0:=fun h=>ha (Rat.intCast_inj.1 h);have h2:(b:Rat)≠0:=fun h=>hb (Rat.intCast_inj.1 h);have:(a:Rat)=(a:Rat)/b*b:=by grind
 rw[e]at this
 grind
def RU (a:Int):Rat.divInt a 1=(a:Rat):=by rw[Rat.divInt_eq_div];grind
def Nc (us:List Un) (p:List Int) (k n:Nat):Rat:=((Dx (i9 Un.ppl us p n 0) (s0 Un.ppl us p k n)-Em (i9 Un.ppl us p n 0) (s0 Un.ppl us p k n):Int):Rat)/Rat.divInt (Aw us n) (k:Nat)
end Go.GS
namespace Go.Z
open Proofs.Tryz RowKit RX GS RZ WD
section
variable {dm:Dm} {H B:PH} {n k:Nat} {us:List Un} {w:Value} {u v:Value} {p:List Int}
def bz {a:Int} (h:a≠0):Value.bool (a==0)= .bool false:=by rw[beq_eq_false_iff_ne.2 h]
def Pz:Ag prog 36 4:=⟨aB,aB,aB⟩
def Fb:Sc prog 40:=⟨aB,aB,aB⟩
def c3T:n8 prog 207=true:=aB
def c3U:n8 prog 344=true:=aB
def c3V:n8 prog 297=true:=aB
def e3f:Hu prog 206 257 39 45 20 ((prog.funcs[206]?).getD default) ((prog.funcs[257]?).getD default) (Iu ((prog.funcs[257]?).getD default).body):=⟨aB,aB,aB,aB,aB,aB,aB,aB,aB,aB⟩
def e3g:Hu prog 343 351 4 45 20 ((prog.funcs[343]?).getD default) ((prog.funcs[351]?).getD default) (Iu ((prog.funcs[351]?).getD default).body):=⟨aB,aB,aB,aB,aB,aB,aB,aB,aB,aB⟩
def e3h:Hu prog 296 328 53 45 20 ((prog.funcs[296]?).getD default) ((prog.funcs[328]?).getD default) (Iu ((prog.funcs[328]?).getD default).body):=⟨aB,aB,aB,aB,aB,aB,aB,aB,aB,aB⟩
def e4H:CcT prog 39 45 (.slice none 0 0):=⟨aB,aB,aB,aB,aB,aB,aB,fun _=>oDt aB⟩
def e4I:CcT prog 4 45 (.bool false):=⟨aB,aB,aB,aB,aB,aB,aB,fun _=>oDt aB⟩
def RV:CcT prog 53 45 (.agg (Array.replicate 16 (.int .u64 0))):=⟨aB,aB,aB,aB,aB,aB,aB,fun h=>absurd (show r8 prog 53=true by kernel_rfl) (by rw[h];decide)⟩
def RY (a b:Nat):(shv a b).cells.size=prog.cellsOf 53/\j0 (shv a b).cells/\rdV prog 53 (shv a b).cells=shv a b:=by
 have h1:r8 prog 53=true:=aB;have h2:prog.cellsOf 53=16:=aB;refine⟨by rw[h2];exact(j7 a b).1,(j7 a b).2,?_⟩;unfold rdV;rw[h1];rfl
def e4J {H:PH} {v:Value} {l:List Int} (h:SI H v l):v.cells.size=prog.cellsOf 39/\j0 v.cells/\rdV prog 39 v.cells=v:=by
 have h1:r8 prog 39=false:=aB;have h2:prog.cellsOf 39=1:=aB;refine⟨by rw[h2];exact h.one.1,h.one.2,?_⟩;unfold rdV;rw[h1,h.cells];rfl
def e4K (b:Bool):(Value.bool b).cells.size=prog.cellsOf 4/\j0 (Value.bool b).cells/\rdV prog 4 (Value.bool b).cells= .bool b:=by
 have h1:r8 prog 4=false:=aB;have h2:prog.cellsOf 4=1:=aB;refine⟨by rw[h2];rfl,fun c hc=>by simp[Value.cells]at hc;subst hc;rfl,?_⟩;unfold rdV;rw[h1];rfl
structure Xa (dm:Dm) (H:PH) (a b c:Nat) (w v:Value) (k:Nat):Prop where
 ro:H a=some (.cells #[ii (dm.g:Nat),ii (dm.p:Nat),ii (dm.l:Nat),w] 36 (0,0))
 nk:H b=some (.cells #[ii (k:Nat)] 3 (0,0))
 pl:H c=some (.cells #[v] 40 (0,0))
def c3W {a b c:Nat} (hc:Xa dm H a b c w v k) (hr:RoR H w us) (hv:RoV dm n us) (hk:1<=k/\k<=8) (hp:SI H v p) (ho:PlOk n k p):Con prog 207 [.pointer (some ⟨a,0,none⟩),.pointer (some ⟨b,0,none⟩),.pointer (some ⟨c,0,none⟩)] H fun r H'=>Pl H H'/\SI H' r (s0 (·.ppl) us p k n):=by
 refine g5 mixed c9X ?_;refine x5 (vs:=[ii (dm.g:Nat),ii (dm.p:Nat),ii (dm.l:Nat),w]) Pz rfl rfl hc.ro rfl aD rfl ?_;refine g9 sc_int rfl rfl hc.nk rfl rfl ?_;refine g9 Fb rfl rfl hc.pl rfl rfl ?_;refine i8 (BY hr hv hk) rfl fun H1 l1=> ?_;refine f0 (RP (hr.mono l1) hv hk (hp.mono l1) ho) rfl ?_;rintro r H2 ⟨l2,h2⟩;refine⟨(fun _=>l2),?_⟩;exact d4 rfl ⟨l1.trans l2,h2⟩
def d0f (hr:RoR H w us) (hv:RoV dm n us) (hk:1<=k/\k<=8) (hp:SI H v p) (ho:PlOk n k p):Con prog 151 [rov dm w,v,ii (k:Nat)] H fun r H'=>Pl H H'/\∃t,r= .tuple #[t,ii 0]/\SI H' t (s0 (·.ppl) us p k n):=by
 refine g5 mixed d6F ?_;refine b4 (Gp hr.one) ?_;refine o0 (cs:= #[ii (dm.g:Nat),ii (dm.p:Nat),ii (dm.l:Nat),w]) rfl fun a ha=> ?_;refine b4 (hp.one) ?_;refine o0 (cs:= #[v]) hp.cells fun c hc=> ?_;refine b4 (el_int.vcells _) ?_;refine o0 (cs:= #[ii (k:Nat)]) rfl fun b hb=> ?_;refine y8 (Ai (vs:=[.pointer (some ⟨a,0,none⟩),.pointer (some ⟨b,0,none⟩),.pointer (some ⟨c,0,none⟩)]) rfl rfl) rfl ?_;have la:=PH.le_put ha (.cells #[ii (dm.g:Nat),ii (dm.p:Nat),ii (dm.l:Nat),w] 36 (0,0));have lc:=PH.le_put hc (.cells #[v] 40 (0,0));have lb:=PH.le_put hb (.cells #[ii (k:Nat)] 3 (0,0));have l0:=(la.trans lc).trans lb;have tX:Xa dm _ a b c w v k:=⟨lb _ _ (lc _ _ (PH.put_self _ _ _)),PH.put_self _ _ _,lb _ _ (PH.put_self _ _ _)⟩;refine f0 (Px (caps:=[.pointer (some ⟨a,0,none⟩),.pointer (some ⟨b,0,none⟩),.pointer (some ⟨c,0,none⟩)]) mixed e3f e4H c3T (c3W tX (hr.mono l0) hv hk (hp.mono l0) ho) (fun _ _ h=>e4J h.2)) rfl ?_;rintro _ H4 ⟨t,⟨l4,ht⟩,rfl⟩;refine nmI ?_;refine g7 (g7 ?_);exact d4 rfl ⟨l0.trans l4,t,rfl,ht⟩
def b9h {a b c:Nat} (hc:Xa dm H a b c w v k) (hr:RoR H w us) (hv:RoV dm n us) (hk:1<=k/\k<=8) (hp:SI H v p) (ho:PlOk n k p):j4 prog 344 [.pointer (some ⟨a,0,none⟩),.pointer (some ⟨b,0,none⟩),.pointer (some ⟨c,0,none⟩)] H (.bool true):=by
 refine g5 mixed c9Y ?_;refine x5 (vs:=[ii (dm.g:Nat),ii (dm.p:Nat),ii (dm.l:Nat),w]) Pz rfl rfl hc.ro rfl aD rfl ?_;refine g9 sc_int rfl rfl hc.nk rfl rfl ?_;refine g9 Fb rfl rfl hc.pl rfl rfl ?_;refine i8 (BY hr hv hk) rfl fun H1 l1=> ?_;refine i8 (RO (hr.mono l1) hv hk (hp.mono l1) ho) rfl fun H2 l2=> ?_;exact d4 rfl ⟨l1.trans l2,rfl⟩
def c3X (hr:RoR H w us) (hv:RoV dm n us) (hk:1<=k/\k<=8) (hp:SI H v p) (ho:PlOk n k p):j4 prog 331 [rov dm w,v,ii (k:Nat)] H (ii 0):=by
 refine g5 mixed d6G ?_;refine b4 (Gp hr.one) ?_;refine o0 (cs:= #[ii (dm.g:Nat),ii (dm.p:Nat),ii (dm.l:Nat),w]) rfl fun a ha=> ?_;refine b4 (hp.one) ?_;refine o0 (cs:= #[v]) hp.cells fun c hc=> ?_;refine b4 (el_int.vcells _) ?_;refine o0 (cs:= #[ii (k:Nat)]) rfl fun b hb=> ?_;refine y8 (Ai (vs:=[.pointer (some ⟨a,0,none⟩),.pointer (some ⟨b,0,none⟩),.pointer (some ⟨c,0,none⟩)]) rfl rfl) rfl ?_;have la:=PH.le_put ha (.cells #[ii (dm.g:Nat),ii (dm.p:Nat),ii (dm.l:Nat),w] 36 (0,0));have lc:=PH.le_put hc (.cells #[v] 40 (0,0));have lb:=PH.le_put hb (.cells #[ii (k:Nat)] 3 (0,0));have l0:=(la.trans lc).trans lb;have tX:Xa dm _ a b c w v k:=⟨lb _ _ (lc _ _ (PH.put_self _ _ _)),PH.put_self _ _ _,lb _ _ (PH.put_self _ _ _)⟩;refine f0 (Px (caps:=[.pointer (some ⟨a,0,none⟩),.pointer (some ⟨b,0,none⟩),.pointer (some ⟨c,0,none⟩)]) mixed e3g e4I c3U (b9h tX (hr.mono l0) hv hk (hp.mono l0) ho) (fun _ _ h=>by rw[h.2];exact e4K true)) rfl ?_;rintro _ H4 ⟨t,⟨l4,rfl⟩,rfl⟩;refine nmI ?_;refine g7 (g7 ?_);exact d4 rfl ⟨l0.trans l4,rfl⟩
def c3Y {l:List Int} (hu:SI H u l) (hl:l.length<=1000000) (a:Int):j4 prog 302 [ii a,u] H (ii (Dx a l)):=by
 refine g5 mixed d6J ?_;refine m9 el_int hu ?_;refine Df (α:=Nat) (fun i=>[ii (Dx a (l.take i)),ii (i:Nat)]) (fun i=>i<=l.length) (fun i=>l.length-i) (0) rfl ((bK _)) fun i hQ=> ?_;refine b9 (b9 ?_);refine g6 (b:=decide (((i:Nat):Int)<(l.length:Nat))) rfl (fun h=> ?_) (fun h=> ?_)
 ·replace h:=oDt h;have qG:i<l.length:=aA;obtain⟨x,hx,_⟩:=q8 qG;refine n9 el_int hu hx fun _=> ?_;refine j8 ((MP (vs:=[ii (Dx a (l.take i)),ii x]) rfl rfl rfl).rds _) rfl ?_;exact⟨(i+1),by show l.length-(i+1)<l.length-i;omega,(i0 (by rw[take_snoc hx,RR];rfl) (j5 rfl aA)),⟨qG,rfl⟩⟩
 ·replace h:=oDf h;rw[aI aA];exact d4 rfl ⟨Pl.refl _,rfl⟩
def c3Z {l:List Int} (hu:SI H u l) (hl:l.length<=1000000) (a:Int):j4 prog 303 [ii a,u] H (ii (Em a l)):=by
 refine g5 mixed d6I ?_;refine m9 el_int hu ?_;refine Df (α:=Nat) (fun i=>[ii (Em a (l.take i)),ii (i:Nat)]) (fun i=>i<=l.length) (fun i=>l.length-i) (0) rfl ((bK _)) fun i hQ=> ?_;refine b9 (b9 ?_);refine g6 (b:=decide (((i:Nat):Int)<(l.length:Nat))) rfl (fun h=> ?_) (fun h=> ?_)
 ·replace h:=oDt h;have qG:i<l.length:=aA;obtain⟨x,hx,_⟩:=q8 qG;refine n9 el_int hu hx fun _=> ?_;refine j8 ((ic (vs:=[ii (Em a (l.take i)),ii x]) rfl rfl rfl).rds _) rfl ?_;exact⟨(i+1),by show l.length-(i+1)<l.length-i;omega,(i0 (by rw[take_snoc hx,RQ];rfl) (j5 rfl aA)),⟨qG,rfl⟩⟩
 ·replace h:=oDf h;rw[aI aA];exact d4 rfl ⟨Pl.refl _,rfl⟩
def SA (a b:Nat):Asks prog 299 [shv a b,ii 0] H (shv a b):=by
 refine g5 mixed d6x ?_;refine b4 (j7 a b) ?_;refine b9 ?_;refine i7 (bF (p:=(0:Int)≠0) aD) ?_;exact d4 rfl ⟨rfl,rfl⟩
def SB {a b:Int} {r:Rat} (p0: -9223372036854775808<=a) (p1:a<9223372036854775808) (q0: -9223372036854775808<=b) (q1:b<9223372036854775808) (hb:b≠0) (hr:Rat.divInt a b=r) (hg:Rg r):j4 prog 301 [ii a,ii b] H (shR r):=by
 refine g5 mixed e0I ?_;have e:Gi a b= .tuple #[shR r,ii 0]:=by unfold Gi;rw[if_neg hb,hr,Sj hg];rfl
 refine i8 ((show j4 prog 59 [ii a,ii b] H (.tuple #[shR r,ii 0])from(yt a b p0 p1 q0 q1).mono fun u H' h=>⟨h.1,h.2.trans e⟩)) rfl fun H1 l1=> ?_;refine g7 (g7 ?_);refine j9 (SA _ _) rfl ?_;refine b4 (j7 _ _) ?_;exact d4 rfl ⟨l1,rfl⟩
def SC {i j m:Nat} {r q:Rat} (hr:Rb i r) (hq:Rb j q) (h0:q≠0) (hm:i+j<=m):Rb m (r/q):=by
 refine Rb.le (k:=m) (j:=i+j) ?_ hm;rw[<-LA];have hn:q.num≠0:=fun e=>h0 (Rat.num_eq_zero.1 e);have hd:(r.den:Int)≠0:=by have:=r.den_nz;omega
 refine jg (Int.mul_ne_zero hd hn) ?_ ?_
 ·rw[jQ,eU,fW];exact lO hr.1 (nE hq.2) (iO _)
 ·rw[jQ,eU,fW];exact lO hr.2 (nE hq.1) (iO _)
def c4a {r q:Rat} (hr:Rg r) (hq:Rg q) (h0:q≠0) (uZ:Rg (r/q)):j4 prog 300 [shR r,shR q] H (.tuple #[shR (r/q),ii 0]):=
 (c8n _ _ _ _).mono fun u H' h=>⟨h.1,by
  rw[h.2,Zt hr,Zt hq,Vs hr,Vs hq];unfold yu;rw[if_pos (show(true&&true)=true from rfl),if_neg h0,Sj uZ];rfl⟩
def b9i {a b c:Nat} (hc:Xa dm H a b c w v k) (hr:RoR H w us) (hv:RoV dm n us) (hk:1<=k/\k<=8) (hp:SI H v p) (ho:PlOk n k p) (hz:Aw us n≠0):j4 prog 297 [.pointer (some ⟨a,0,none⟩),.pointer (some ⟨b,0,none⟩),.pointer (some ⟨c,0,none⟩)] H (shR (Nc us p k n))/\Rb 100 (Nc us p k n):=by
 have sM:=hv.l64;have pY:=hv.le;have uH:=bn hv.un n;have zO:∀d,0<=i9 Un.ppl us p n d/\i9 Un.ppl us p n d<=64000000000:=fun d=>by
  have:=Wz (p:=p) (f:=Un.ppl) aA (Iy hv) d n;omega
 have rK:∀x∈s0 Un.ppl us p k n,0<=x/\x<=64000000000:=fun x hx=>by
  obtain⟨d,_,rfl⟩:=aZ.1 hx;exact zO d
 have hmx:=nl _ _ (zO 0) rK;have hmn:=nj _ _ (zO 0) rK;generalize hg:Dx (i9 Un.ppl us p n 0) (s0 Un.ppl us p k n)=g at hmx;generalize hl:Em (i9 Un.ppl us p n 0) (s0 Un.ppl us p k n)=l at hmn;have e0:Nc us p k n=((g-l:Int):Rat)/Rat.divInt (Aw us n) (k:Nat):=by unfold Nc;rw[hg,hl]
 have a5l:(2:Nat)^40=1099511627776:=aC;have b1:Rb 40 ((g-l:Int):Rat):=⟨by rw[Rat.num_intCast];omega,by rw[Rat.den_intCast];omega⟩;have b2:Rb 40 (Rat.divInt (Aw us n) (k:Nat)):=jg aA aA aA;have h0:Rat.divInt (Aw us n) (k:Nat)≠0:=RS hz aA;have b3:Rb 100 (((g-l:Int):Rat)/Rat.divInt (Aw us n) (k:Nat)):=SC b1 b2 h0 aC;have e1:Rat.divInt (g-l) 1=((g-l:Int):Rat):=RU _;rw[e0];refine⟨?_,b3⟩;refine g5 mixed c9Z ?_;refine x5 (vs:=[ii (dm.g:Nat),ii (dm.p:Nat),ii (dm.l:Nat),w]) Pz rfl rfl hc.ro rfl aD rfl ?_;simp only[cA,nA];refine g9 sc_int rfl rfl hc.nk rfl rfl ?_;simp only[cA,nA];refine i8 (BY hr hv hk) rfl fun H1 l1=> ?_;simp only[cA,nA];refine b4 (bu hr.one) ?_;refine g9 Fb rfl rfl (l1 _ _ hc.pl) rfl rfl ?_;simp only[cA,nA];refine f0 (RP (hr.mono l1) hv hk (hp.mono l1) ho) rfl ?_;rintro r H2 ⟨l2,h2⟩;refine⟨(fun _=>l2),?_⟩;simp only[cA,nA];refine i8 (c3S (hr.mono (l1.trans l2)) hv) rfl fun H3 l3=> ?_;simp only[cA,nA];refine b9 ?_;refine j9 (bp 7) (i0 (bz hz) rfl) ?_;simp only[cA,nA];refine n9 el_int (h2.mono l3) (Gq (f:=Un.ppl) (us:=us) (p:=p) (i:=n) (show 0<k by omega)) fun _=> ?_;simp only[cA,nA];refine n9 el_int (h2.mono l3) (Gq (f:=Un.ppl) (us:=us) (p:=p) (i:=n) (show 0<k by omega)) fun _=> ?_;simp only[cA,nA];refine g9 sc_int rfl rfl ((l1.trans (l2.trans l3)) _ _ hc.nk) rfl rfl ?_;simp only[cA,nA];refine i8 (c3Y (h2.mono l3) (by rw[Iw];omega) (i9 Un.ppl us p n 0)) rfl fun H4 l4=> ?_;simp only[cA,nA];refine i8 (c3Z (h2.mono (l3.trans l4)) (by rw[Iw];omega) (i9 Un.ppl us p n 0)) rfl fun H5 l5=> ?_;simp only[cA,nA];refine b9 (b9 ?_);refine i8 (SB (a:=g-l) (b:=1) aA aA aC aC aC e1 (Si b1 aC)) (i0 (by rw[hg,hl];exact Tc rfl rfl aA aA) rfl) fun H6 l6=> ?_;simp only[cA,nA];refine i8 (SB (a:=Aw us n) (b:=(k:Nat)) aA aA aA aA aA rfl (Si b2 aC)) rfl fun H7 l7=> ?_;simp only[cA,nA];refine i8 (c4a (Si b1 aC) (Si b2 aC) h0 (Si b3 aC)) rfl fun H8 l8=> ?_;simp only[cA,nA];refine g7 (g7 ?_);refine j9 (SA _ _) rfl ?_;simp only[cA,nA];refine b4 (j7 _ _) ?_;exact d4 rfl ⟨l1.trans (l2.trans (l3.trans (l4.trans (l5.trans (l6.trans (l7.trans l8)))))),rfl⟩
def c4b (hr:RoR H w us) (hv:RoV dm n us) (hk:1<=k/\k<=8) (hp:SI H v p) (ho:PlOk n k p) (hz:Aw us n≠0):j4 prog 263 [rov dm w,v,ii (k:Nat)] H (.tuple #[shR (Nc us p k n),ii 0]):=by
 refine g5 mixed d6H ?_;refine b4 (Gp hr.one) ?_;refine o0 (cs:= #[ii (dm.g:Nat),ii (dm.p:Nat),ii (dm.l:Nat),w]) rfl fun a ha=> ?_;refine b4 (hp.one) ?_;refine o0 (cs:= #[v]) hp.cells fun c hc=> ?_;refine b4 (el_int.vcells _) ?_;refine o0 (cs:= #[ii (k:Nat)]) rfl fun b hb=> ?_;refine y8 (Ai (vs:=[.pointer (some ⟨a,0,none⟩),.pointer (some ⟨b,0,none⟩),.pointer (some ⟨c,0,none⟩)]) rfl rfl) rfl ?_;have la:=PH.le_put ha (.cells #[ii (dm.g:Nat),ii (dm.p:Nat),ii (dm.l:Nat),w] 36 (0,0));have lc:=PH.le_put hc (.cells #[v] 40 (0,0));have lb:=PH.le_put hb (.cells #[ii (k:Nat)] 3 (0,0));have l0:=(la.trans lc).trans lb;have tX:Xa dm _ a b c w v k:=⟨lb _ _ (lc _ _ (PH.put_self _ _ _)),PH.put_self _ _ _,lb _ _ (PH.put_self _ _ _)⟩;refine f0 (Px (caps:=[.pointer (some ⟨a,0,none⟩),.pointer (some ⟨b,0,none⟩),.pointer (some ⟨c,0,none⟩)]) mixed e3h RV c3V (b9i tX (hr.mono l0) hv hk (hp.mono l0) ho hz).1 (fun _ _ h=>by rw[h.2];exact RY _ _)) rfl ?_;rintro _ H4 ⟨t,⟨l4,rfl⟩,rfl⟩;refine nmI ?_;refine g7 (g7 ?_);refine b4 (j7 _ _) ?_;exact d4 rfl ⟨l0.trans l4,rfl⟩
end
end Go.Z
namespace Go.GS
def PlOk.ok {n k:Nat} {p:List Int} (h:PlOk n k p) (h1:1<=n) (sM:n<=64):LabOk p (k:Nat)/\Ez p k:=by
 refine⟨⟨h.lab,by rw[h.len];omega,by rw[h.len];exact sM⟩,fun d hd e=> ?_⟩;obtain⟨i,hi⟩:=List.mem_iff_getElem?.1 (h.all d hd);have qB:=(aH.1 hi).1;have:bit (Dq p d) i=true:=by unfold Dq;rw[Wa,oDd qB,oDd hi];rfl
 rw[e,Gk]at this;cases this
def Qa (es:List (Nat×Nat)) (p:List Int):Nat:=es.countP fun e=>decide (p[e.1]?≠p[e.2]?)
end Go.GS
namespace Go.Z
open Proofs.Tryz RowKit RX GS RZ WD
section
variable {H B:PH} {n k:Nat} {es:List (Nat×Nat)} {w:Value} {u v:Value} {p:List Int}
def c4c (hw:SG H w es) (hg:GV n es) (hu:SI H u p) (hk:1<=k/\k<=8) (ho:PlOk n k p):Con prog 163 [gv n w,u,ii (k:Nat)] H fun r H'=>Pl H H'/\∃b z,r= .tuple #[.pointer (some ⟨b,0,none⟩),ii 0]/\H' b=some (.cells #[ii (n:Nat),w,u,z] 323 (0,0)):=by
 refine g5 mixed LX ?_;obtain⟨hL,hU⟩:=ho.ok hg.n1 hg.n64;refine b4 (Ci hw) ?_;refine i8 (Lu hw hg) rfl fun H1 l1=> ?_;refine b9 ?_;refine i7 (bF (p:=(0:Int)≠0) aD) ?_;refine b9 ?_;refine i7 (bF (p:=((k:Nat):Int)<1) aA) ?_;refine i7 (bF (p:=((k:Nat):Int)>8) aA) ?_;refine m9 z6 (hu.mono l1) ?_;refine b9 (b9 ?_);refine i7 (Py (a:=((p.length:Nat):Int)) (b:=((n:Nat):Int)) (by have:=ho.len;omega)) ?_;refine j9 (zx (hu.mono l1) (k:Nat)) rfl ?_;refine b9 ?_;refine i7 (by show Value.bool (!decide (LabOk p (k:Nat)))=_;rw[oDd hL];rfl) ?_;refine f0 (zy aA (hu.mono l1) hL) rfl ?_;rintro _ H2 ⟨l2,z,rfl,hz⟩;refine nmI ?_;refine g7 (g7 (b9 ?_));refine i7 (by show Value.bool (!decide (Ez p k))=_;rw[oDd hU];rfl) ?_;refine b4 ((hu.mono l1).one) ?_;refine b4 ((hz hU).one) ?_;refine o0 (cs:=_) rfl fun b hb=> ?_;have vL:=hz hU;obtain⟨_,a,c,rfl,_⟩:=id vL;obtain⟨_,a2,c2,rfl,_⟩:=id hu;exact d4 rfl ⟨(l1.trans l2).trans (PH.le_put hb _),b,_,rfl,by rw[PH.put_self];rfl⟩
def e0M:FA prog 323 0 0:=⟨aB,oDt aB,aB,aB,oDt aB⟩
def SD:FA prog 323 1 2:=⟨aB,oDt aB,aB,aB,oDt aB⟩
def e0N:FA prog 33 1 1:=⟨aB,oDt aB,aB,aB,oDt aB⟩
def e0O:Sc prog 31:=⟨aB,aB,aB⟩
def c4d {es:List (Nat×Nat)} {p:List Int} {i:Nat} {e:Nat×Nat} (h:es[i]? =some e):Qa (es.take (i+1)) p=Qa (es.take i) p+if p[e.1]?≠p[e.2]? then 1 else 0:=by
 unfold Qa;rw[take_snoc h,List.countP_append];simp[List.countP_cons]
def CJ {es:List (Nat×Nat)} {p:List Int}:Qa es p<=es.length:=List.countP_le_length
def c4e (hw:SG H w es) (hg:GV n es) (hu:SI H u p) (hk:1<=k/\k<=8) (ho:PlOk n k p):j4 prog 266 [gv n w,u,ii (k:Nat)] H (.tuple #[ii (Qa es p:Nat),ii 0]):=by
 refine g5 mixed d6V ?_;have rY:=hg.len;have tQ:=ho.len;refine b4 (Ci hw) ?_;refine f0 (c4c hw hg hu hk ho) rfl ?_;rintro _ H1 ⟨l1,b,z,rfl,hb⟩;refine nmI ?_;simp only[cA,nA];refine g7 (g7 (b9 ?_));refine i7 (bF (p:=(0:Int)≠0) aD) ?_;refine j6 ?_;simp only[cA,nA];refine g8 e0M ?_;simp only[cA,nA];refine g8 e0N ?_;simp only[cA,nA];refine g9 e0O rfl rfl hb rfl rfl ?_;simp only[cA,nA];refine m9 el_edge (hw.mono l1) ?_;refine Df (α:=Nat) (fun i=>[ii (Qa (es.take i) p:Nat),ii (i:Nat)]) (fun i=>i<=es.length) (fun i=>es.length-i) (0) rfl ((bK _)) fun i hQ=> ?_;simp only[cA,nA];refine b9 (b9 ?_);refine g6 (b:=decide (((i:Nat):Int)<(es.length:Nat))) rfl (fun h=> ?_) (fun h=> ?_)
 ·replace h:=oDt h;have qG:i<es.length:=aA;obtain⟨e,he,_⟩:=q8 qG;have hed:=hg.ed _ (aK he);have sR:=CJ (es:=es.take i) (p:=p);rw[bH]at sR;refine n9 el_edge (hw.mono l1) he fun _=> ?_;simp only[cA,nA];refine b4 (el_edge.vcells e) ?_;refine j6 ?_;simp only[cA,nA];refine g8 SD ?_;simp only[cA,nA];refine g9 Fb rfl rfl hb rfl rfl ?_;simp only[cA,nA];obtain⟨x,hx,_⟩:=q8 (show e.1<p.length by omega);obtain⟨y,hy,_⟩:=q8 (show e.2<p.length by omega);refine n9 z6 (hu.mono l1) hx fun _=> ?_;simp only[cA,nA];refine j6 ?_;simp only[cA,nA];refine g8 SD ?_;simp only[cA,nA];refine g9 Fb rfl rfl hb rfl rfl ?_;simp only[cA,nA];refine n9 z6 (hu.mono l1) hy fun _=> ?_;simp only[cA,nA];have wF:=c4d (p:=p) he;rw[hx,hy]at wF;refine b9 (b9 ?_);refine y5 (p:=(x≠y)) (by show Value.bool (x !=y)=_;rw[bN]) (fun uG=> ?_) fun uG=> ?_
  ·rw[if_pos (by simpa using uG)]at wF;refine b9 ?_;exact⟨(i+1),by show es.length-(i+1)<es.length-i;omega,(i0 (by rw[wF];exact j5 rfl aA) (j5 rfl aA)),⟨qG,rfl⟩⟩
  ·rw[if_neg (by simpa using uG)]at wF;exact⟨(i+1),by show es.length-(i+1)<es.length-i;omega,(i0 (by rw[wF];rfl) (j5 rfl aA)),⟨qG,rfl⟩⟩
 ·replace h:=oDf h;rw[aI aA];exact d4 rfl ⟨l1,rfl⟩
end
end Go.Z
namespace Go.Proofs
open Shelf
def Tryz.srtM_ren:Go.Shelf.Ren:=⟨fun|14=>136|20=>186|21=>187|22=>188|23=>189|24=>190|25=>191|26=>192|27=>193|46=>251|47=>252|48=>253|49=>254|50=>255|15=>137|57=>294|28=>194|29=>195|n=>n,fun|24=>63|22=>43|3=>3|25=>179|4=>4|0=>0|46=>302|45=>301|50=>212|66=>361|39=>207|55=>49|70=>365|76=>412|77=>413|53=>270|5=>5|9=>9|n=>n,fun|n=>n⟩
def Tryz.srtM:Go.Proofs.SlLaysF0.n14 prog Tryz.srtM_ren:={
 mixed:=aB
 f14:=⟨f136.name,aC,Tryz.func136.trans (congrArg some aB)⟩
 f15:=Tryz.func137.trans (congrArg some aB)
 f20:=⟨f186.name,aC,Tryz.func186.trans (congrArg some aB)⟩
 f21:=⟨f187.name,aC,Tryz.func187.trans (congrArg some aB)⟩
 f22:=⟨f188.name,aC,Tryz.func188.trans (congrArg some aB)⟩
 f23:=⟨f189.name,aC,Tryz.func189.trans (congrArg some aB)⟩
 f24:=⟨f190.name,aC,Tryz.func190.trans (congrArg some aB)⟩
 f25:=⟨f191.name,aC,Tryz.func191.trans (congrArg some aB)⟩
 f26:=⟨f192.name,aC,Tryz.func192.trans (congrArg some aB)⟩
 f27:=⟨f193.name,aC,Tryz.func193.trans (congrArg some aB)⟩
 f28:=Tryz.func194.trans (congrArg some aB)
 f29:=Tryz.func195.trans (congrArg some aB)
 f46:=⟨f251.name,aC,Tryz.func251.trans (congrArg some aB)⟩
 f47:=Tryz.func252.trans (congrArg some aB)
 f48:=Tryz.func253.trans (congrArg some aB)
 f49:=⟨f254.name,aC,Tryz.func254.trans (congrArg some aB)⟩
 f50:=⟨f255.name,aC,Tryz.func255.trans (congrArg some aB)⟩
 f57:=⟨f294.name,aC,Tryz.func294.trans (congrArg some aB)⟩
 t0:=Tryz.underlying0
 a0:=Tryz.isAgg0
 z0:=Tryz.sizeOf0
 v0:=Tryz.zeroValue0
 t3:=Tryz.underlying3
 a3:=Tryz.isAgg3
 z3:=Tryz.sizeOf3
 v3:=Tryz.zeroValue3
 t4:=Tryz.underlying4
 a4:=Tryz.isAgg4
 z4:=Tryz.sizeOf4
 v4:=Tryz.zeroValue4
 t5:=Tryz.underlying5
 a5:=Tryz.isAgg5
 z5:=Tryz.sizeOf5
 v5:=Tryz.zeroValue5
 t9:=Tryz.underlying9
 a9:=Tryz.isAgg9
 z9:=Tryz.sizeOf9
 v9:=Tryz.zeroValue9
 t22:=Tryz.underlying43
 a22:=Tryz.isAgg43
 z22:=Tryz.sizeOf43
 v22:=Tryz.zeroValue43
 t25:=Tryz.underlying179
 a25:=Tryz.isAgg179
 z25:=Tryz.sizeOf179
 v25:=Tryz.zeroValue179
 t39:=Tryz.underlying207
 a39:=Tryz.isAgg207
 z39:=Tryz.sizeOf207
 v39:=Tryz.zeroValue207
 t45:=Tryz.underlying301
 a45:=Tryz.isAgg301
 z45:=Tryz.sizeOf301
 v45:=Tryz.zeroValue301
 t46:=Tryz.underlying302
 a46:=Tryz.isAgg302
 z46:=Tryz.sizeOf302
 v46:=Tryz.zeroValue302
 t50:=Tryz.underlying212
 a50:=Tryz.isAgg212
 z50:=Tryz.sizeOf212
 v50:=Tryz.zeroValue212
 t53:=Tryz.underlying270
 a53:=Tryz.isAgg270
 z53:=Tryz.sizeOf270
 v53:=Tryz.zeroValue270
 t55:=Tryz.underlying49
 a55:=Tryz.isAgg49
 z55:=Tryz.sizeOf49
 v55:=Tryz.zeroValue49
 t66:=Tryz.underlying361
 a66:=Tryz.isAgg361
 z66:=Tryz.sizeOf361
 v66:=Tryz.zeroValue361
 t70:=Tryz.underlying365
 a70:=Tryz.isAgg365
 z70:=Tryz.sizeOf365
 v70:=Tryz.zeroValue365
 t76:=Tryz.underlying412
 a76:=Tryz.isAgg412
 z76:=Tryz.sizeOf412
 v76:=Tryz.zeroValue412
 t77:=Tryz.underlying413
 a77:=Tryz.isAgg413
 z77:=Tryz.sizeOf413
 v77:=Tryz.zeroValue413}
def Tryz.srtP_ren:Go.Shelf.Ren:=⟨fun|6=>347|15=>137|14=>353|28=>194|29=>195|20=>355|21=>356|22=>357|23=>358|24=>359|25=>360|26=>361|27=>362|46=>363|47=>252|48=>253|49=>364|50=>365|57=>366|n=>n,fun|22=>418|24=>422|25=>461|3=>3|39=>207|0=>0|53=>270|55=>49|4=>4|46=>302|45=>301|50=>212|5=>5|9=>9|66=>361|70=>365|76=>412|77=>413|n=>n,fun|n=>n⟩
def Tryz.srtP:Go.Proofs.SlLaysF0.n6 prog Tryz.srtP_ren:={
 mixed:=aB
 f6:=⟨f347.name,aC,Tryz.func347.trans (congrArg some aB)⟩
 f14:=⟨f353.name,aC,Tryz.func353.trans (congrArg some aB)⟩
 f15:=Tryz.func137.trans (congrArg some aB)
 f20:=⟨f355.name,aC,Tryz.func355.trans (congrArg some aB)⟩
 f21:=⟨f356.name,aC,Tryz.func356.trans (congrArg some aB)⟩
 f22:=⟨f357.name,aC,Tryz.func357.trans (congrArg some aB)⟩
 f23:=⟨f358.name,aC,Tryz.func358.trans (congrArg some aB)⟩
 f24:=⟨f359.name,aC,Tryz.func359.trans (congrArg some aB)⟩
 f25:=⟨f360.name,aC,Tryz.func360.trans (congrArg some aB)⟩
 f26:=⟨f361.name,aC,Tryz.func361.trans (congrArg some aB)⟩
 f27:=⟨f362.name,aC,Tryz.func362.trans (congrArg some aB)⟩
 f28:=Tryz.func194.trans (congrArg some aB)
 f29:=Tryz.func195.trans (congrArg some aB)
 f46:=⟨f363.name,aC,Tryz.func363.trans (congrArg some aB)⟩
 f47:=Tryz.func252.trans (congrArg some aB)
 f48:=Tryz.func253.trans (congrArg some aB)
 f49:=⟨f364.name,aC,Tryz.func364.trans (congrArg some aB)⟩
 f50:=⟨f365.name,aC,Tryz.func365.trans (congrArg some aB)⟩
 f57:=⟨f366.name,aC,Tryz.func366.trans (congrArg some aB)⟩
 t0:=Tryz.underlying0
 a0:=Tryz.isAgg0
 z0:=Tryz.sizeOf0
 v0:=Tryz.zeroValue0
 t3:=Tryz.underlying3
 a3:=Tryz.isAgg3
 z3:=Tryz.sizeOf3
 v3:=Tryz.zeroValue3
 t4:=Tryz.underlying4
 a4:=Tryz.isAgg4
 z4:=Tryz.sizeOf4
 v4:=Tryz.zeroValue4
 t5:=Tryz.underlying5
 a5:=Tryz.isAgg5
 z5:=Tryz.sizeOf5
 v5:=Tryz.zeroValue5
 t9:=Tryz.underlying9
 a9:=Tryz.isAgg9
 z9:=Tryz.sizeOf9
 v9:=Tryz.zeroValue9
 t22:=Tryz.underlying418
 a22:=Tryz.isAgg418
 z22:=Tryz.sizeOf418
 v22:=Tryz.zeroValue418
 t25:=Tryz.underlying461
 a25:=Tryz.isAgg461
 z25:=Tryz.sizeOf461
 v25:=Tryz.zeroValue461
 t39:=Tryz.underlying207
 a39:=Tryz.isAgg207
 z39:=Tryz.sizeOf207
 v39:=Tryz.zeroValue207
 t45:=Tryz.underlying301
 a45:=Tryz.isAgg301
 z45:=Tryz.sizeOf301
 v45:=Tryz.zeroValue301
 t46:=Tryz.underlying302
 a46:=Tryz.isAgg302
 z46:=Tryz.sizeOf302
 v46:=Tryz.zeroValue302
 t50:=Tryz.underlying212
 a50:=Tryz.isAgg212
 z50:=Tryz.sizeOf212
 v50:=Tryz.zeroValue212
 t53:=Tryz.underlying270
 a53:=Tryz.isAgg270
 z53:=Tryz.sizeOf270
 v53:=Tryz.zeroValue270
 t55:=Tryz.underlying49
 a55:=Tryz.isAgg49
 z55:=Tryz.sizeOf49
 v55:=Tryz.zeroValue49
 t66:=Tryz.underlying361
 a66:=Tryz.isAgg361
 z66:=Tryz.sizeOf361
 v66:=Tryz.zeroValue361
 t70:=Tryz.underlying365
 a70:=Tryz.isAgg365
 z70:=Tryz.sizeOf365
 v70:=Tryz.zeroValue365
 t76:=Tryz.underlying412
 a76:=Tryz.isAgg412
 z76:=Tryz.sizeOf412
 v76:=Tryz.zeroValue412
 t77:=Tryz.underlying413
 a77:=Tryz.isAgg413
 z77:=Tryz.sizeOf413
 v77:=Tryz.zeroValue413}
end Go.Proofs
namespace Go.RX
open Proofs Shelf RowKit Lib Go.Sort
def d0g {w w':World} (h:Ext w w'):∃q os',w'=grow (w.drewN q) os':=by
 refine⟨w'.drawn-w.drawn,w'.heap.extract w.heap.size w'.heap.size,?_⟩;have hs:=h.size;have hd:=h.dr;have hh:w'.heap=w.heap++w'.heap.extract w.heap.size w'.heap.size:=by
  apply Array.ext_getElem?;intro k;by_cases hk:k<w.heap.size
  ·rw[dW hk,h.blk k hk]
  ·rw[Array.getElem?_append_right aA,Array.getElem?_extract];split
   ·congr 1;omega
   ·rw[Array.getElem?_eq_none];omega
 have h1:=h.os;have h2:=h.tape;have h3:=h.output;obtain⟨hp',tp',dr',os',out'⟩:=w';obtain⟨hp,tp,dr,os,out⟩:=w;simp only at h1 h2 h3 hh hd;subst h1 h2 h3;simp only[grow,World.drewN];congr 1;omega
section
variable {P:Program} {α:Type} [Inhabited α] {enc:α->Value} {H B:PH} {blk:Nat} {cur:Array Value} {T:TypeId} {d:Array α}
def CM {w:World} (hw:H.In w) (hb:H blk=some (.cells cur T (0,0))) (n:Nat) (dk:Array α) (os:Array Obj):Step H w (H.put blk (.cells (putCells enc 0 dk cur) T (0,0))) (sortWorld enc w blk 0 n dk os):=by
 have wB:=hw _ _ hb;have qB:=y9 wB;have rN:(w.heap.modify blk (onCells (putCells enc 0 dk))).size=w.heap.size:=aD;have qJ:∀k,k<w.heap.size->k≠blk->(w.heap.modify blk (onCells (putCells enc 0 dk))++os)[k]? =w.heap[k]?:=fun k hk h=>by
  rw[dW aA,mC,if_neg (fun e=>h e.symm)]
 refine⟨rfl,rfl,rfl,by show w.heap.size<=(w.heap.modify blk (onCells (putCells enc 0 dk))++os).size;simp,fun k hk hn=> ?_,fun k ob hk=> ?_,fun k hk=> ?_,Nat.le_add_right _ _⟩
 ·exact qJ k hk (fun e=>by rw[e,hb]at hn;cases hn)
 ·show(w.heap.modify blk (onCells (putCells enc 0 dk))++os)[k]? =_;unfold PH.put at hk;split at hk
  ·rename_i e;subst e;cases hk;rw[dW aA,mC,if_pos rfl,wB];rfl
  ·rename_i e;rw[qJ k (y9 (hw _ _ hk)) e];exact hw _ _ hk
 ·unfold PH.put at hk;split at hk
  ·rename_i e;subst e;left;rw[hb];simp
  ·exact .inl hk
end
def one_of {α:Type} {ce:α->List Value} (h1:∀x,∀v∈ce x,y6 v=true):∀x,∀v∈ce x,v.oneCell'=true:=fun x v hv=>by rw[tw];exact h1 x v hv
section
variable {P:Program} {α:Type} [Inhabited α] {ce:α->List Value} {k:Nat} {H B:PH}
def SH {d:Array α} (hk:∀x,(ce x).length=k):(flatK ce k d).toList=d.toList.flatMap ce:=by
 have hl:(d.toList.flatMap ce).length=d.size*k:=by rw[Jt hk,bA]
 apply bP;intro t;by_cases ht:t<d.size*k
 ·have k0:0<k:=Nat.pos_of_ne_zero fun e=>by subst e;simp at ht
  have hi:t/k<d.size:=Nat.div_lt_of_lt_mul (by rw[eF];exact ht);have hm:t%k<k:=cI _ k0;have e1:(flatK ce k d).toList[t]? =some ((ce d[t/k]!)[t%k]!):=by
   unfold flatK;rw[cY,Array.getElem?_map,Array.getElem?_range];simp[ht]
  rw[e1];have e2:d.toList[t/k]? =some d[t/k]!:=by rw[cY,cG hi,getElem!_pos d _ hi]
  have e3:=LS hk e2;have e4:=congrArg (fun z=>z[t%k]?) e3;change (((d.toList.flatMap ce).drop (t/k*k)).take k)[t%k]? =(ce d[t/k]!)[t%k]? at e4;rw[dD hm,dP,show t/k*k+t%k=t by rw[eF];exact Nat.div_add_mod t k]at e4;rw[e4];have h9:t%k<(ce d[t/k]!).length:=by rw[hk];exact hm
  rw[aG h9,getElem!_pos (ce d[t/k]!) (t%k) h9]
 ·rw[aO (by simp;omega),aO aA]
def c4f {α:Type} [Inhabited α] {enc:α->Value} (d:Array α) (c:Array Value) (h:d.size<=c.size):(putCells enc 0 d c).toList.take d.size=d.toList.map enc:=by
 apply bP;intro i;by_cases hi:i<d.size
 ·rw[dD hi,cY];unfold putCells;rw[Array.getElem?_mapIdx,cG aA];simp[hi]
 ·rw[aO (by simp;omega),aO (by simp;omega)]
def SJ {blk:Nat} {cur:Array Value} {T:TypeId} {g:Nat} {cb:Array Value} {cf:α->α->Int} {size:Nat} {w:World} (hw:H.In w) (hb:H blk=some (.cells cur T (0,0))) (pY:Pl B H) (hn:B blk=none) (h:∀x y,j4 P g (.agg (ce x).toArray:: .agg (ce y).toArray::cb.toList) B (.int .i64 (cf x y))):CmpLays P g cb ce k cf blk 0 size w:=fun m os dk _ x y=>by
 have hs:=CM (enc:=id) hw hb m (flatK ce k dk) os;have hB:B.In (sortWorldK ce k w blk 0 m dk os):=fun b ob hk=>hs.holds b ob (by
  rw[PH.put_ne _ _ (fun e=>by rw[e,hn]at hk;cases hk)];exact pY _ _ hk)
 have h1:=h x y _ hB;have ha:(Value.agg (ce x).toArray:: .agg (ce y).toArray::cb.toList).toArray= #[.agg (ce x).toArray,.agg (ce y).toArray]++cb:=by
  rw[<-bS];simp
 rw[ha]at h1;refine h1.mono fun e w' ⟨v,H',he,rB,hl,hv⟩=>⟨by rw[he,hv],d0g (rB.toExt hB hl)⟩
def SK {blk:Nat} {cur:Array Value} {T:TypeId} {l:List α} {w:World} (hk:∀x,(ce x).length=k) (wB:w.heap[blk]? =some (.cells cur T (0,0))) (a1f:cur.toList.take (l.length*k)=l.flatMap ce):HoldsK ce k w blk 0 l.toArray:=fun j hj=>by
 rw[size_flatK]at hj;have hj0:j<l.length*k:=by simpa using hj
 have hf:(flatK ce k l.toArray).toList=l.flatMap ce:=by rw[SH hk]
 have vM:cur.toList[j]? =some (id (flatK ce k l.toArray)[j]!):=by
  have:(cur.toList.take (l.length*k))[j]? =cur.toList[j]?:=dD hj0;rw[<-this,a1f,<-hf,cY,cG (by rw[size_flatK];exact hj),getElem!_pos _ j (by rw[size_flatK];exact hj)];rfl
 constructor
 ·rw[bJ];unfold World.cell?;simp only[wB];rw[if_neg aD,<-cY,vM]
 ·unfold World.frozen?;simp[wB]
def SN {blk cap:Nat} {cur:Array Value} {e:TypeId} {l:List α} {d':Array α} {cf:α->α->Int} (hk:∀x,(ce x).length=k) (hB:B blk=none) (rX:l.length<=cap) (rR:cap<=maxLen) (uU:cur.size=cap*k) (pY:Pl B H) (hp:PermIn 0 l.length l.toArray d') (hs:SortedIn (ltOf cf) 0 l.length d'):
  Pl B (H.put blk (.cells (putCells id 0 (flatK ce k d') cur) e (0,0)))/\∃m:List α,m.Perm l/\m.Pairwise (fun a b=>¬cf b a<0)/\SO B (H.put blk (.cells (putCells id 0 (flatK ce k d') cur) e (0,0))) e k ce (.slice (some ⟨blk,0,none⟩) l.length cap) m:=by
 have rN:d'.size=l.length:=by have:=hp.1;simpa using this
 have rJ:d'.toList.Perm l:=by
  have:=hp.2.2;have e1:d'.extract 0 l.length=d':=by rw[<-rN];simp
  have e2:l.toArray.extract 0 l.length=l.toArray:=by
   have:l.length=l.toArray.size:=aD;rw[this];simp
  rw[e1,e2]at this;simpa using this
 refine⟨fun i ob hi=> ?_,d'.toList,rJ,?_,?_⟩
 ·rw[PH.put_ne _ _ (fun e=>by rw[e,hB]at hi;cases hi)];exact pY _ _ hi
 ·rw[cV];intro i j hi hj uS;have:=hs i j (bK _) uS (by simp at hj;omega);unfold ltOf at this;rw[decide_eq_false_iff_not]at this;rw[getElem!_pos d' i (by simpa using hi),getElem!_pos d' j (by simpa using hj)]at this;simpa using this
 ·have hln:d'.toList.length=l.length:=by rw[bA,rN]
  refine⟨Jt hk _,.inr ⟨blk,cap,putCells id 0 (flatK ce k d') cur,by rw[hln],hB,PH.put_self _ _ _,by rw[hln];exact rX,rR,by unfold putCells;rw[Array.size_mapIdx,uU],?_⟩⟩;have zH:l.length*k<=cap*k:=bC _ rX;have:=c4f (enc:=id) (flatK ce k d') cur (by rw[size_flatK,rN,uU];exact zH);rw[size_flatK,rN]at this;rw[hln,this,List.map_id,SH hk]
def c4g {ρ:Ren} (L:SlLaysF0.n6 P ρ) (aE:∀w,(isAgg (ρ.t 24)).run P w= .ok true w) (zE:∀w,(Go.sizeOf (ρ.t 24)).run P w= .ok k w) (hk:∀x,(ce x).length=k) (h1:∀x,∀v∈ce x,y6 v=true) {cf:α->α->Int} (hO:SWO (ltOf cf)) {g:Nat} {cb:Array Value} (eg:n8 P g=true)
  {e:TypeId} {v:Value} {l:List α} (pY:Pl B H) (ho:SO B H e k ce v l) (h0:l≠[]) (hl:l.length<4611686018427387904) (h:∀x y,j4 P g (.agg (ce x).toArray:: .agg (ce y).toArray::cb.toList) B (.int .i64 (cf x y))):
  Con P (ρ.f 6) [v,.func (.func g) #[] cb] H fun _ H'=>Pl B H'/\∃m:List α,m.Perm l/\m.Pairwise (fun a b=>¬cf b a<0)/\SO B H' e k ce v m:=by
 obtain⟨h2,⟨_,h3⟩|⟨blk,cap,cur,rfl,hB,hH,rX,rR,uU,hc4⟩⟩:=ho
 ·exact absurd (aT h3) h0
 intro w hw;have wB:=hw _ _ hH;have tI:l.toArray.size=l.length:=aD;have hc:=AnyQ.slices_SortFunc L k aE zE ce hk (one_of h1) cf hO g cb blk 0 cap l.toArray w (La eg) (SJ hw hH pY hB h) (SK hk wB hc4) (y9 wB) (by rw[tI];exact hl);rw[tI]at hc;refine hc.mono fun en w' ⟨he,d',n,os,hp,hs,rU⟩=>⟨.tuple #[],_,he,by rw[rU];exact CM (enc:=id) hw hH n (flatK ce k d') os,SN hk hB rX rR uU pY hp hs⟩
def d0h {ρ:Ren} (L:SlLaysF0.n14 P ρ) (aE:∀w,(isAgg (ρ.t 24)).run P w= .ok true w) (zE:∀w,(Go.sizeOf (ρ.t 24)).run P w= .ok k w) (hk:∀x,(ce x).length=k) (h1:∀x,∀v∈ce x,y6 v=true) {cf:α->α->Int} (hO:SWO (ltOf cf)) {g:Nat} {cb:Array Value} (eg:n8 P g=true)
  {e:TypeId} {v:Value} {l:List α} (pY:Pl B H) (ho:SO B H e k ce v l) (h0:l≠[]) (hl:l.length<4611686018427387904) (h:∀x y,j4 P g (.agg (ce x).toArray:: .agg (ce y).toArray::cb.toList) B (.int .i64 (cf x y))) (lim:Nat) (a5m:lim<4611686018427387904):
  Con P (ρ.f 14) [v,.int .i64 0,.int .i64 (l.length:Nat),.int .i64 (lim:Nat),.func (.func g) #[] cb] H fun _ H'=>Pl B H'/\∃m:List α,m.Perm l/\m.Pairwise (fun a b=>¬cf b a<0)/\SO B H' e k ce v m:=by
 obtain⟨h2,⟨_,h3⟩|⟨blk,cap,cur,rfl,hB,hH,rX,rR,uU,hc4⟩⟩:=ho
 ·exact absurd (aT h3) h0
 intro w hw;have wB:=hw _ _ hH;have tI:l.toArray.size=l.length:=aD;have hHK:=SK hk wB hc4;have hc:=AnyQ.pdqsortCmpFunc_all L k aE zE ce cf g cb hO blk 0 cap l.toArray w (La eg) (SJ hw hH pY hB h) ⟨hk,one_of h1,hHK,y9 wB⟩ (l.length+1) 0 l.length lim l.toArray w aA rfl (SWK.start hHK) (bK _) (by rw[tI];exact aS _) (by rw[tI];exact hl) a5m (.inl rfl);rw[tI]at hc;have hsr:=pdq_sorts (ltOf cf) hO l.toArray 0 l.length lim true true (bK _) (by rw[tI];exact aS _) (Or.inl rfl);refine hc.mono fun en w' ⟨he,n,os,rU⟩=>⟨.tuple #[],_,he,by rw[rU];exact CM (enc:=id) hw hH n (flatK ce k _) os,SN hk hB rX rR uU pY hsr.1 hsr.2⟩
end
def Rds.opn' {P:Program} {o:Oper} {vs:List Value} {H:PH} {v:Value} (h:Rds P o vs H v):Opn P o vs H fun u H'=>u=v/\H'=H:=fun w hw=>by
 unfold Stp;have:=h w hw;rw[this];exact⟨_,Step.refl hw,rfl,rfl⟩
def nxV (b:Bool) (x y:Value):Value:=if b then .tuple #[.bool true,x,y]else .tuple #[.bool false]
def nq (b:Bool) (x y:Value):∃vs,nxV b x y= .tuple vs/\0<vs.size:=by cases b<;>exact⟨_,rfl,aD⟩
def Qb (b:Bool) (x y:Value):(match nxV b x y with| .tuple vs=>vs.getD 0 undef|_=>undef)= .bool b:=by cases b<;>rfl
section
variable {κ:Type} {ok:κ->Prop} {ke:κ->Value}
def nr {H H':PH} {v:Value} {q r clock:Nat} {es:List (κ×Value×Nat)} {seen:List Nat} (h:(left es seen=[]/\v= .tuple #[.bool false]/\H'=H)\/∃p∈left es seen,v= .tuple #[.bool true,ke p.1,p.2.1]/\H'=H.put q (.mapIter (some r) clock (seen++[p.2.2]).toArray clock)):
  ∃b x y,v=nxV b x y/\((b=false/\left es seen=[]/\H'=H)\/(b=true/\∃p∈left es seen,x=ke p.1/\y=p.2.1/\H'=H.put q (.mapIter (some r) clock (seen++[p.2.2]).toArray clock))):=by
 rcases h with⟨h1,h2,h3⟩|⟨p,h1,h2,h3⟩
 ·exact⟨false,undef,undef,h2,.inl ⟨rfl,h1,h3⟩⟩
 ·exact⟨true,_,_,h2,.inr ⟨rfl,p,h1,rfl,rfl,h3⟩⟩
def SQ {a b:Nat} (h:a≠b):gW a b=false:=by
 rw[Bool.eq_false_iff];intro e;exact h (Nat.eq_of_beq_eq_true e)
def ns (es:List (κ×Value×Nat)):left es []=es:=by
 unfold left;exact kG.2 fun x _=>rfl
def c4h (es:List (κ×Value×Nat)) (seen:List Nat) (b:Nat):left es (seen++[b])=(left es seen).filter fun p=> !gW p.2.2 b:=by
 unfold left;rw[List.filter_filter];refine List.filter_congr fun p _=> ?_;rw[List.any_append];simp[Bool.and_comm]
def nu {es:List (κ×Value×Nat)} {seen:List Nat} {p:κ×Value×Nat} (hn:(es.map (·.2.2)).Nodup) (hp:p∈left es seen):∃a b,left es seen=a++p::b/\left es (seen++[p.2.2])=a++b:=by
 obtain⟨a,b,h⟩:=List.append_of_mem hp;refine⟨a,b,h,?_⟩;have hs:(left es seen).map (·.2.2)|>.Nodup:=(List.filter_sublist.map _).nodup hn;rw[c4h,h,List.filter_append,dH aD];rw[h,bM,bI,List.nodup_append,fM]at hs;obtain⟨h1,⟨h2,h3⟩,h4⟩:=hs;congr 1
 ·refine kG.2 fun x hx=> ?_;have:=h4 _ (aZ.2 ⟨x,hx,rfl⟩) p.2.2 aD;rw[SQ this];rfl
 ·refine kG.2 fun x hx=> ?_;have:x.2.2≠p.2.2:=fun e=>h2 (aZ.2 ⟨x,hx,e⟩);rw[SQ this];rfl
end
section
variable {P:Program} {T e e2:TypeId} {sz:Nat} {ag:Bool} {α:Type} {ce:α->List Value} {ve:α->Value} (E:El P T e sz ag ce ve)
variable {G Xp:Value->PH->Prop} {nx:List (List Value->PH->Prop)} {ρ:List Value} {H H0:PH} {o1 o2 o3:Oper} {x y x2 x3 y3:Operand} {id1 i1 id2 i2 id3 i3:Nat} {args1 args2 args3:List SV} {t:Tree} {v c:Value} {l:List α} {a a':α} {k:IntKind} {j f off:Nat} {pf:Bool}
include E
def CN (hF:FA P e f off) (hS:Sc P e2) (hc:(ce a)[off]? =some c) (tU:o1.op= .indexAddr T x y) (tV:o2.op= .fieldAddr e x2 f) (ho3:o3.op= .load e2 x3) (hx:e8 [x,y] [v,.int k (j:Nat)] x=v) (hy:e8 [x,y] [v,.int k (j:Nat)] y= .int k (j:Nat)) (sD:∀p,e8 [x2] [p] x2=p) (hx3:∀p,e8 [x3] [p] x3=p)
  (h:SE H sz ce v l) (hj:l[j]? =some a) (ha:args1.map (D P ρ)=[v,.int k (j:Nat)]) (sV:∀p,args2.map (D P (ρ++[p]))=[p]) (ha3:∀p p',args3.map (D P (ρ++[p]++[p']))=[p'])
  (n:∀p p',den P G Xp t nx (ρ++[p]++[p']++[c]) H):den P G Xp (.prim id1 i1 o1 args1 (.prim id2 i2 o2 args2 (.prim id3 i3 o3 args3 t))) nx ρ H:=by
 refine jm E tU hx hy h hj ha fun p hp=> ?_;obtain⟨b,q,cs,T',fz,rfl,h2,h3,h4⟩:=hp;have qB:=(aH.1 hc).1;refine yz hF tV (sD _) (sV _) ?_;refine g9 hS ho3 (hx3 _) h2 ?_ (ha3 _ _) (n _ _);rw[<-cY];rw[<-h4,dD qB,dP]at hc;exact hc
def CO {ws:List Value} (hF:FA P e f off) (hA:Ag P e2 ws.length) (hw:((ce a).drop off).take ws.length=ws) (hlw:off+ws.length<=sz) (tU:o1.op= .indexAddr T x y) (tV:o2.op= .fieldAddr e x2 f) (ho3:o3.op= .load e2 x3) (hx:e8 [x,y] [v,.int k (j:Nat)] x=v) (hy:e8 [x,y] [v,.int k (j:Nat)] y= .int k (j:Nat)) (sD:∀p,e8 [x2] [p] x2=p) (hx3:∀p,e8 [x3] [p] x3=p)
  (h:SE H sz ce v l) (hj:l[j]? =some a) (ha:args1.map (D P ρ)=[v,.int k (j:Nat)]) (sV:∀p,args2.map (D P (ρ++[p]))=[p]) (ha3:∀p p',args3.map (D P (ρ++[p]++[p']))=[p'])
  (n:∀p p',den P G Xp t nx (ρ++[p]++[p']++[.agg ws.toArray]) H):den P G Xp (.prim id1 i1 o1 args1 (.prim id2 i2 o2 args2 (.prim id3 i3 o3 args3 t))) nx ρ H:=by
 refine jm E tU hx hy h hj ha fun p hp=> ?_;obtain⟨b,q,cs,T',fz,rfl,h2,h3,h4⟩:=hp;rw[E.len]at h3 h4;refine yz hF tV (sD _) (sV _) ?_;refine x5 hA ho3 (hx3 _) h2 ?_ aA (ha3 _ _) (n _ _);rw[<-h4,List.drop_take,List.take_take,cD aA,List.drop_drop]at hw;exact hw
end
end Go.RX
namespace Go.GS
def y7 (lv:Nat) (x:Un):Int:=(x.par[lv]?).getD 0
def Cc (us:List Un) (p:List Int) (lv:Nat) (nm:Int):Nat->Nat
 |0=>0
 |i+1=>Cc us p lv nm i|||(match us[i]?,p[i]? with|some u,some x=>if y7 lv u=nm then 2^x.toNat else 0|_,_=>0)
def SR {us:List Un} {p:List Int} {lv:Nat} {nm:Int} (h:∀x∈p,0<=x/\x<8):∀i,Cc us p lv nm i<256:=by
 intro i;induction i with
 |zero=>show(0:Nat)<256;decide
 |succ i ih=>
  refine iY (n:=8) ih ?_;split
  ·rename_i u x h1 h2;have:=h x (aK h2);split
   ·exact cU aC aA
   ·decide
  ·decide
def SS {us:List Un} {p:List Int} {lv:Nat} {i:Nat} {x:Un} {d:Nat} (hx:us[i]? =some x) (hp:p[i]? =some ((d:Nat):Int)) (nm:Int):Cc us p lv nm (i+1)=Cc us p lv nm i|||if y7 lv x=nm then 2^d else 0:=by
 show _|||_=_;rw[hx,hp];rfl
def Br (us:List Un) (lv i:Nat):List Int:=(us.take i).map (y7 lv)
def SX {us:List Un} {lv i:Nat} {x:Un} (hx:us[i]? =some x):Br us lv (i+1)=Br us lv i++[y7 lv x]:=by
 unfold Br;rw[dE,hx,bM];rfl
def d6W {us:List Un} {p:List Int} {lv:Nat} {nm:Int}:∀i,nm∉Br us lv i->Cc us p lv nm i=0:=by
 intro i;induction i with
 |zero=>intro _;rfl
 |succ i ih=>
  intro h;show _|||_=0;cases hx:us[i]? with
  |none=>
   have e:Br us lv (i+1)=Br us lv i:=by
    unfold Br;rw[aI (by have:=lQ.1 hx;omega),aI (lQ.1 hx)]
   rw[e]at h;rw[ih h];cases p[i]?<;>exact pU 0
  |some x=>
   rw[SX hx,aV,bB]at h;rw[ih (fun hh=>h (.inl hh))];cases p[i]? with
   |none=>exact pU 0
   |some y=>
    show 0|||(if y7 lv x=nm then _ else 0)=0;rw[if_neg (fun e=>h (.inr e.symm))];rfl
end Go.GS
namespace Go.Z
open Proofs.Tryz RowKit RX GS RZ WD
section
variable {dm:Dm} {H B:PH} {n k lv:Nat} {us:List Un} {w:Value} {u v:Value} {p:List Int}
def viB (dm:Dm) (w:Value) (lv:Nat):Array Value:= #[ii (dm.g:Nat),ii (dm.p:Nat),ii (dm.l:Nat),w,ii (lv:Nat)]
def viV (dm:Dm) (w:Value) (lv:Nat):Value:= .agg (viB dm w lv)
def CP (h:y6 w=true):(viV dm w lv).cells.size=5/\j0 (viV dm w lv).cells:=⟨rfl,fun c hc=>by
 simp[viV,viB,Value.cells]at hc;rcases hc with rfl|rfl|rfl|rfl|rfl
 ·rfl
 ·rfl
 ·rfl
 ·exact h
 ·rfl⟩
def c4m (hr:RoR H w us) (hv:RoV dm n us) (hl:lv<dm.l):j4 prog 332 [rov dm w,ii (lv:Nat)] H (.tuple #[viV dm w lv,ii 0]):=by
 refine g5 mixed d6K ?_;refine b4 (Gp hr.one) ?_;refine i8 (ay hr hv) rfl fun H1 l1=> ?_;refine b9 ?_;refine i7 (bF (p:=(0:Int)≠0) aD) ?_;refine b9 ?_;refine i7 (bF (p:=((lv:Nat):Int)<0) aA) ?_;refine b9 ?_;refine i7 (bF (p:=((lv:Nat):Int)≥(dm.l:Nat)) aA) ?_;refine b4 (el_int.vcells _) ?_;exact d4 rfl ⟨l1,rfl⟩
def Iz (dm:Dm) (b:Nat) (w:Value) (lv:Nat):PH:=PH.nil.put b (.cells (viB dm w lv) 440 (0,0))
def SY (b:Nat) (w:Value) (lv:Nat):Iz dm b w lv b=some (.cells (viB dm w lv) 440 (0,0)):=PH.put_self _ _ _
def c4o {X:PH} {b:Nat} (h:X b=none):Disj X (Iz dm b w lv):=Zu (Sm X) h
def c4p:n8 prog 352=true:=aB
def d0i (hw:y6 w=true):Con prog 345 [viV dm w lv] H fun u H'=>∃b,H b=none/\H'=H.or (Iz dm b w lv)/\u= .func (.func 352) #[] #[.pointer (some ⟨b,0,none⟩)]:=by
 refine g5 mixed d6L ?_;refine b4 (CP hw) ?_;refine o0 (cs:=viB dm w lv) rfl fun b hb=> ?_;refine y8 (Ai (vs:=[.pointer (some ⟨b,0,none⟩)]) rfl rfl) rfl ?_;exact d4 rfl ⟨b,hb,PH.put_or hb,rfl⟩
def e0P:FA prog 440 0 0:=⟨aB,oDt aB,aB,aB,oDt aB⟩
def e0Q:FA prog 440 1 4:=⟨aB,oDt aB,aB,aB,oDt aB⟩
def CQ {x:Un} (hx:UnV dm x) (hl:lv<dm.l):x.par[lv]? =some (y7 lv x):=by
 have:=hx.pl;unfold y7;rw[aG aA];rfl
def d0j {b:Nat} {Ro:PH} (hr:RoR Ro w us) (hv:RoV dm n us) (hl:lv<dm.l):ItC prog 352 [.pointer (some ⟨b,0,none⟩)] Ro (Iz dm b w lv) (fun pre xs=>∃x,us[pre.length]? =some x/\pre.length<n/\xs=[ii (pre.length:Nat),ii (y7 lv x)]) (fun xs _=>xs.length=n) (fun _ _=>True):=by
 intro l J Jx uV hY X hX hd w' rU;refine(s7 (H:=X.or (Iz dm b w lv)) (V:=fun _ H'=>∃X' K',Pl (X'.or K') H'/\Disj X' K'/\((∃xs,xs.length=n/\J xs X')\/(∃pre,True/\Jx pre X'))) mixed d0a aB rfl ?_ w' rU).mono fun e w' ⟨v,H',he,rB,hV⟩=>⟨v,H',he,rB,hV⟩;have hb:=PH.or_right hd (SY b w lv);obtain⟨ul,sW,qC,rT⟩:=hr;have pY:=hv.le;have sM:=hv.l64;refine g8 e0P ?_;refine g8 CE ?_;refine g9 CG rfl rfl hb rfl rfl ?_;refine Dc Cb rfl rfl (sW.mono ((uV _ _ hX).trans (PH.le_or _ _))) rfl ?_;refine r7 (α:=Nat×List (List Value)×PH) (fun⟨i,pre,X'⟩=>[ii (i:Nat)]) (fun⟨i,pre,X'⟩=>fun H'=>i<=us.length/\H'=X'.or (Iz dm b w lv)/\Disj X' (Iz dm b w lv)/\pre.length=min i n/\J pre X') (fun⟨i,pre,X'⟩=>us.length-i) ((0,[],X)) rfl (⟨bK _,rfl,hd,aD,hX⟩) fun⟨i,pre,X'⟩ H' hQ=> ?_;obtain⟨hi,rfl,qS,qD,hJ⟩:=hQ;refine b9 (b9 ?_);refine g6 (b:=decide (((i:Nat):Int)<(ul.length:Nat))) rfl (fun h=> ?_) (fun h=> ?_)
 ·replace h:=oDt h;have xC:i<ul.length:=aA;obtain⟨u,hu,_⟩:=q8 xC;obtain⟨x,hx,_⟩:=q8 (show i<us.length by omega);have hR:=rT i u x hu hx;have rG:u.wat=decide (n<=i):=hR.wat.trans (hv.wat i x hx);refine Ac Cb rfl rfl rfl rfl aF (sW.mono ((uV _ _ hJ).trans (PH.le_or _ _))) hu rfl aF fun _=> ?_;refine b4 (Gn u) ?_;refine b9 ?_;refine g6 (b:= !u.wat) rfl (fun qZ=> ?_) (fun qZ=> ?_)
  ·skip
   have wZ:¬n<=i:=fun hh=>by rw[rG,oDd hh]at qZ;cases qZ
   have hpi:pre.length=i:=aA;have rO:=PH.or_right qS (SY b w lv);refine g8 e0Q ?_;refine g9 sc_int rfl rfl rO rfl rfl ?_;refine Ac el_int rfl rfl rfl rfl aF (hR.par.mono ((uV _ _ hJ).trans (PH.le_or _ _))) (CQ (hv.un x (aK hx)) hl) rfl aF fun _=> ?_;refine Vu (hY _ [ii (i:Nat),ii (y7 lv x)] X' (Iz dm b w lv) ⟨x,by rw[hpi];exact hx,aA,by rw[hpi]⟩ hJ qS) rfl rfl rfl rfl rfl fun v X2 qH hV=> ?_;obtain⟨bb,rfl,qU,wN⟩:∃bb,v= .bool bb/\(bb=true->J (pre++[[ii (i:Nat),ii (y7 lv x)]]) X2)/\(bb=false->Jx (pre++[[ii (i:Nat),ii (y7 lv x)]]) X2):=by
    rcases hV with⟨rfl,h⟩|⟨rfl,h⟩
    ·exact⟨true,rfl,fun _=>h,(fun h=>nomatch h)⟩
    ·exact⟨false,rfl,(fun h=>nomatch h),fun _=>h⟩
   refine b9 ?_;refine g6 (b:= !bb) rfl (fun qM=> ?_) (fun qM=> ?_)
   ·skip
    exact d4 rfl ⟨X2,Iz dm b w lv,Pl.refl _,qH,.inr ⟨_,trivial,wN (by simpa using qM)⟩⟩
   ·skip
    exact⟨(i+1,pre++[[ii (i:Nat),ii (y7 lv x)]],X2),by show us.length-(i+1)<us.length-i;omega,(p6 (j5 rfl aA)),⟨by show i+1<=us.length;omega,rfl,qH,by rw[aL];simp only[aP,bX];omega,qU (by simpa using qM)⟩⟩
  ·skip
   have wZ:n<=i:=by rw[rG]at qZ;simpa using qZ
   exact⟨(i+1,pre,X'),by show us.length-(i+1)<us.length-i;omega,(p6 (j5 rfl aA)),⟨by show i+1<=us.length;omega,rfl,qS,by show pre.length=min (i+1) n;omega,hJ⟩⟩
 ·replace h:=oDf h;exact d4 rfl ⟨X',Iz dm b w lv,Pl.refl _,qS,.inl ⟨pre,aA,hJ⟩⟩
def paC (nm z:Int) (m:Nat):Array Value:= #[ii nm,ii z,.int .u8 (m:Nat)]
def SZ:FA prog 422 1 1:=⟨aB,oDt aB,aB,aB,oDt aB⟩
def TA:FA prog 422 2 2:=⟨aB,oDt aB,aB,aB,oDt aB⟩
def CU:Sc prog 5:=⟨aB,aB,aB⟩
def e0R {ρ:List Value} {a b:SV} {m d:Nat} (ha:D prog ρ a= .int .u8 (m:Nat)) (hb:D prog ρ b=ii (d:Nat)) (hm:m<256) (hd:d<8):D prog ρ (.op2 .or .u8 a (.op2 .shl .u8 (.k (.int .u8 1)) b))= .int .u8 ((m|||2^d:Nat):Int):=by
 have h1:D prog ρ (.op2 .shl .u8 (.k (.int .u8 1)) b)= .int .u8 ((2^d:Nat):Int):=by
  show w9 .shl .u8 (intOf (.int .u8 1)) (intOf (D prog ρ b))=_;rw[hb];have:∀d,d<8->w9 .shl .u8 (intOf (.int .u8 1)) (intOf (ii ((d:Nat):Int)))= .int .u8 ((2^d:Nat):Int):=by
   intro d hd
   match d,hd with
   |0,_=>rfl
   |1,_=>rfl
   |2,_=>rfl
   |3,_=>rfl
   |4,_=>rfl
   |5,_=>rfl
   |6,_=>rfl
   |7,_=>rfl
  exact this d hd
 show w9 .or .u8 (intOf (D prog ρ a)) (intOf (D prog ρ (.op2 .shl .u8 (.k (.int .u8 1)) b)))=_;rw[ha,h1];have hp:2^d<2^8:=cU aC hd;have bv8:∀a:Nat,a<256->(BitVec.ofInt 8 (a:Int)).toNat=a:=fun a ha=>by
  rw[BitVec.toNat_ofInt];omega
 have e:(BitVec.ofInt 8 (m:Int)|||BitVec.ofInt 8 ((2^d:Nat):Int)).toNat=m|||2^d:=by rw[BitVec.toNat_or,bv8 m hm,bv8 _ hp]
 show Value.int .u8 (IntKind.u8.wrap ((BitVec.ofInt 8 (m:Int)|||BitVec.ofInt 8 ((2^d:Nat):Int)).toNat:Int))=_;rw[e];have h9:m|||2^d<2^8:=iY hm hp;congr 1;show((m|||2^d:Nat):Int)%256=_;omega
def TB {b:Nat} {T:TypeId} {nm z x:Int} {m d:Nat} (hb:H b=some (.cells (paC nm z m) T (0,0))) (hm:m<256) (hd:d<8):Con prog 346 [.pointer (some ⟨b,0,none⟩),ii x,ii (d:Nat)] H fun r H'=>∃z',H'=H.put b (.cells (paC nm z' (m|||2^d)) T (0,0)):=by
 refine g5 mixed d6N ?_;refine j6 ?_;refine g8 SZ ?_;refine g9 sc_int rfl rfl hb rfl rfl ?_;refine b9 (b9 ?_);refine j6 ?_;refine g8 SZ ?_;refine Bq (u:=ii (IntKind.i64.wrap (z+x))) sc_int rfl rfl rfl hb (by show 1<3;decide) rfl rfl rfl (fun h=>(nomatch h)) ?_;refine j6 ?_;refine g8 TA ?_;refine g9 CU rfl rfl (PH.put_self _ _ _) rfl rfl ?_;refine b4 ⟨_,_,rfl⟩ ?_;refine b4 (show(0:Int)<=((d:Nat):Int) by omega) ?_;refine b9 ?_;refine j6 ?_;refine g8 TA ?_;refine Bq (u:= .int .u8 ((m|||2^d:Nat):Int)) CU rfl rfl rfl (PH.put_self _ _ _) (by show 2<3;decide) rfl rfl (i0 rfl (e0R rfl rfl hm hd)) (fun h=>(nomatch h)) ?_;exact d4 rfl ⟨_,by rw[PH.put_put];rfl⟩
end
end Go.Z
namespace Go.RX
open RowKit
def CV {κ:Type} {ok:κ->Prop} {ke:κ->Value} {P:Program} {H:PH} {o:Oper} {x y:Operand} {T kt et:TypeId} (hK:Tv P kt ok ke) {vs:List Value} {m zr u:Value} {L:List (κ×Value)} {k:κ} (ho:o.op= .lookup T x y false) (hx:e8 [x,y] vs x=m) (hy:e8 [x,y] vs y=ke k) (hu:P.underlying T=some (.map kt et)) (hk:ok k) (hz:∀w,(zeroValue et).run P w= .ok zr w) (h:MK ok ke H m L)
  (wG:(u=zr/\k∉L.map (·.1))\/(k,u)∈L):Rds P o vs H u:=by
 rcases wG with⟨h1,h2⟩|h1
 ·exact ao hK (ok2:=false) (b:=false) ho hx hy hu hk hz h (.inl ⟨rfl,h1,h2⟩)
 ·exact ao hK (ok2:=false) (b:=true) ho hx hy hu hk hz h (.inr ⟨rfl,h1⟩)
end Go.RX
namespace Go.Z
open Proofs Proofs.Tryz RowKit RX GS RZ WD
section
variable {dm:Dm} {H B:PH} {n k lv:Nat} {us:List Un} {w:Value} {u v:Value} {p:List Int}
def PaT:Type:={q:Int×Int×Nat//0<=q.1/\q.1<64}
instance:Inhabited PaT:=⟨⟨(0,0,0),aC⟩⟩
def ceP (q:PaT):List Value:=[ii q.1.1,ii q.1.2.1,.int .u8 (q.1.2.2:Nat)]
def veP (q:PaT):Value:= .agg (ceP q).toArray
def Nh (q:PaT):(veP q).cells.size=3/\j0 (veP q).cells:=⟨rfl,fun c hc=>by
 simp[veP,ceP,Value.cells]at hc;rcases hc with rfl|rfl|rfl<;>rfl⟩
def CW:El prog 418 422 3 true ceP veP where
 und:=aB
 has:=aB
 cel:=aB
 agg:=aB
 pos:=aC
 one1:=fun h=>by cases h
 small:=aC
 inf:=⟨(prog.info? 422).getD default,veP ⟨(0,0,0),aC⟩,aB,aB,aB,rfl,oDt aB⟩
 len:=fun p=>rfl
 val:=fun p=>rfl
 cells:=fun p=>rfl
 one:=fun p c hc=>(Nh p).2 c (by simpa[veP,Value.cells]using hc)
def ParK (B X:PH) (m:Value) (us:List Un) (p:List Int) (lv i:Nat) (S:Int->Prop) (L:List (Int×Value)):Prop:=
 MKO (fun _:Int=>True) ii B X m L/\(∀nm,nm∈L.map (·.1)↔S nm)/\∀q∈L,∃b z,q.2= .pointer (some ⟨b,0,none⟩)/\B b=none/\X b=some (.cells (paC q.1 z (Cc us p lv q.1 i)) 422 (0,0))
def ParK.mono {B X X':PH} {m:Value} {i:Nat} {S:Int->Prop} {L:List (Int×Value)} (h:ParK B X m us p lv i S L) (hl:Pl X X'):ParK B X' m us p lv i S L:=
 ⟨h.1.mono hl,h.2.1,fun q hq=>by obtain⟨b,z,h1,h2,h3⟩:=h.2.2 q hq;exact⟨b,z,h1,h2,hl _ _ h3⟩⟩
def d6X {κ β:Type} {L:List (κ×β)} (h:(L.map (·.1)).Nodup) {a:κ} {x y:β} (hx:(a,x)∈L) (hy:(a,y)∈L):x=y:=by
 induction L with
 |nil=>cases hx
 |cons q L ih=>
  rw[bI,fM]at h;rcases bG.1 hx with h1|h1<;>rcases bG.1 hy with h2|h2
  ·rw[<-h2]at h1;exact congrArg Prod.snd h1
  ·exact absurd (aZ.2 ⟨_,h2,by rw[<-h1]⟩) h.1
  ·exact absurd (aZ.2 ⟨_,h1,by rw[<-h2]⟩) h.1
  ·exact ih h.2 h1 h2
def ParK.add {X:PH} {m:Value} {i d b:Nat} {S:Int->Prop} {L:List (Int×Value)} {x:Un} {z z':Int} (h:ParK B X m us p lv i S L) (hx:us[i]? =some x) (hp:p[i]? =some ((d:Nat):Int)) (hm:(y7 lv x,.pointer (some ⟨b,0,none⟩))∈L) (hb:X b=some (.cells (paC (y7 lv x) z (Cc us p lv (y7 lv x) i)) 422 (0,0))):
  ParK B (X.put b (.cells (paC (y7 lv x) z' (Cc us p lv (y7 lv x) i|||2^d)) 422 (0,0))) m us p lv (i+1) S L:=by
 obtain⟨⟨r,es,c,h1,h2,h3,h4,h5⟩,h6,h7⟩:=h;have hrb:r≠b:=fun e=>by subst e;rw[hb]at h3;cases h3
 refine⟨⟨r,es,c,h1,h2,by rw[PH.put_ne _ _ hrb];exact h3,h4,h5⟩,h6,fun q hq=> ?_⟩;have uA:=(MKO.mk ⟨r,es,c,h1,h2,h3,h4,h5⟩:MK (fun _:Int=>True) ii X m L).keys.1;obtain⟨b',z2,g1,g2,g3⟩:=h7 q hq;by_cases e:q.1=y7 lv x
 ·have:q.2= .pointer (some ⟨b,0,none⟩):=d6X uA (a:=y7 lv x) (by rw[<-e];exact hq) hm;refine⟨b,z',this,?_,?_⟩
  ·rw[g1]at this
   injection this with this
   injection this with this
   injection this with this
   exact this ▸ g2
  ·rw[PH.put_self,e,SS hx hp,if_pos rfl]
 ·refine⟨b',z2,g1,g2,?_⟩;have qJ:b'≠b:=fun e2=>by
   subst e2;rw[hb]at g3;simp only[cN,Obj.cells.injEq,paC,and_true]at g3
   injection g3 with g3
   simp only[List.cons.injEq,kP,true_and]at g3;have g4:=g3.1.symm
   injection g4 with _ g4
   exact e g4
  rw[PH.put_ne _ _ qJ,g3,SS hx hp,if_neg (fun e2=>e e2.symm),Nat.or_zero]
def ParK.new {X X' X'':PH} {m:Value} {i b:Nat} {S:Int->Prop} {L:List (Int×Value)} {nm:Int} (h:ParK B X m us p lv i S L) (hl:Pl X X') (hn:¬S nm) (hBb:B b=none) (hd:Cc us p lv nm i=0) (hb:X' b=some (.cells (paC nm 0 0) 422 (0,0))) (hm:MKO (fun _:Int=>True) ii B X'' m (Bz L nm (.pointer (some ⟨b,0,none⟩)))) (hg:∃g ob,m= .map (some g)/\X''=X'.put g ob):
  ParK B X'' m us p lv i (fun y=>S y\/y=nm) (Bz L nm (.pointer (some ⟨b,0,none⟩)))/\(nm,.pointer (some ⟨b,0,none⟩))∈Bz L nm (Value.pointer (some ⟨b,0,none⟩))/\X'' b=some (.cells (paC nm 0 (Cc us p lv nm i)) 422 (0,0)):=by
 obtain⟨g,ob,hmg,rfl⟩:=hg;have hgo:∃E c,X' g=some (.map E c):=by
  obtain⟨⟨r,es,c,h1,_,h3,_⟩,_⟩:=h;rw[hmg]at h1
  injection h1 with h1
  injection h1 with h1
  subst h1;exact⟨_,_,hl _ _ h3⟩
 obtain⟨E,c,hgo⟩:=hgo;have qJ:∀b':Nat,(∃cs T fz,X' b'=some (.cells cs T fz))->b'≠g:=fun b' ⟨cs,T,fz,h⟩ e=>by subst e;rw[hgo]at h;cases h
 have qM:(X'.put g ob) b=some (.cells (paC nm 0 (Cc us p lv nm i)) 422 (0,0)):=by rw[PH.put_ne _ _ (qJ b ⟨_,_,_,hb⟩),hd];exact hb
 refine⟨⟨hm,fun y=> ?_,fun q hq=> ?_⟩,Po,qM⟩
 ·constructor
  ·intro hy;obtain⟨q,hq,rfl⟩:=aZ.1 hy;rcases Pn (x:=q.1) (y:=q.2) hq with⟨h1,_⟩|⟨_,h1⟩
   ·exact .inr h1
   ·exact .inl ((h.2.1 _).1 (aZ.2 ⟨_,h1,rfl⟩))
  ·rintro(hy|rfl)
   ·obtain⟨q,hq,rfl⟩:=aZ.1 ((h.2.1 _).2 hy);exact aZ.2 ⟨_,mj (x:=q.1) (y:=q.2) hq (fun e=>hn (e ▸ hy)),rfl⟩
   ·exact aZ.2 ⟨_,Po,rfl⟩
 ·rcases Pn (x:=q.1) (y:=q.2) hq with⟨h1,h2⟩|⟨_,h1⟩
  ·exact⟨b,0,h2,hBb,by rw[h1];exact qM⟩
  ·obtain⟨b',z2,g1,g2,g3⟩:=h.2.2 _ h1;exact⟨b',z2,g1,g2,by rw[PH.put_ne _ _ (qJ b' ⟨_,_,_,hl _ _ g3⟩)];exact hl _ _ g3⟩
def TC {P:Program} {t:TypeId} (hT:r9 P t=true) (h:r8 P t=true):∀w,(isAgg t).run P w= .ok true w:=fun w=>by
 obtain⟨_,⟨d,hd⟩⟩:=Fh hT;rw[ua hd,h]
def TD {P:Program} {t:TypeId} {n:Nat} (hT:r9 P t=true) (h:P.cellsOf t=n):∀w,(Go.sizeOf t).run P w= .ok n w:=fun w=>by
 obtain⟨⟨i,hi⟩,_⟩:=Fh hT;rw[Gy hi,h]
def TE {l:List Int} (hn:l.Nodup) (h:∀x∈l,0<=x/\x<64):l.length<=64:=by
 have h2:(l.map Int.toNat).Nodup:=by
  refine List.pairwise_map.2 (hn.imp_of_mem fun ha hb tP e=>tP ?_);have:=h _ ha;have:=h _ hb;omega
 have:=jM h2 (l₂:=List.range 64) fun x hx=>by
  obtain⟨y,hy,rfl⟩:=aZ.1 hx;have:=h y hy;exact aW.2 aA
 simpa using this
def Xb (r:Nat):(Value.map (some r)).cells.size=1/\j0 (Value.map (some r)).cells:=⟨rfl,fun c hc=>by simp[Value.cells]at hc;subst hc;rfl⟩
def CX:prog.underlying 456=some (.map 3 459):=aB
def d6Y:prog.underlying 459=some (.pointer 422):=aB
def e0U:∀w,(zeroValue 459).run prog w= .ok (.pointer none) w:=fun w=>by rfl
def e0V:Ag prog 422 3:=⟨aB,aB,aB⟩
def oa:FA prog 90 1 1:=⟨aB,oDt aB,aB,aB,oDt aB⟩
def c4s:n8 prog 348=true:=aB
def d6Z:Go.Sort.SWO (Go.Proofs.ltOf fun x y:PaT=>x.1.1-y.1.1) where
 irrefl:=fun x=>by unfold Go.Proofs.ltOf;simp
 trans:=fun x y z h1 h2=>by unfold Go.Proofs.ltOf at*;simp at*;omega
 ntrans:=fun x y z h1 h2=>by unfold Go.Proofs.ltOf at*;simp at*;omega
def c4t (x y:PaT):Asks prog 348 [veP x,veP y] H (ii (x.1.1-y.1.1)):=by
 refine g5 mixed d0b ?_;have hx:=x.2;have hy:=y.2;refine b4 (Nh x) ?_;refine b4 (Nh y) ?_;refine b9 (b9 ?_);exact d4 rfl ⟨rfl,Tc (x:=x.1.1) (y:=y.1.1) rfl rfl aA aA⟩
def d0k (hr:RoR H w us) (hv:RoV dm n us) (hl:lv<dm.l) (hk:1<=k/\k<=8) (hp:SI H v p) (ho:PlOk n k p):Con prog 333 [viV dm w lv,v] H fun r H'=>Pl H H'/\∃l:List PaT,SE H' 3 ceP r l/\(l.map fun q=>q.1.1).Nodup/\(∀nm,nm∈(l.map fun q=>q.1.1)↔nm∈Br us lv n)/\∀q∈l,q.1.2.2=Cc us p lv q.1.1 n:=by
 refine g5 mixed d6M ?_;have pY:=hv.le;have sM:=hv.l64;have hn1:=hv.n1;have tQ:=ho.len;have hp8:∀x∈p,0<=x/\x<8:=fun x hx=>by have:=ho.lab x hx;omega
 obtain⟨ul,sW,qC,rT⟩:=id hr;refine b4 (CP hr.one) ?_;refine b4 (hp.one) ?_;refine j1 (Na (ok:=fun _:Int=>True) (ke:=ii) ar rfl) rfl ?_;rintro v2 H1 ⟨l1,o1⟩;refine nmI ?_;simp only[cA,nA];obtain⟨r,es0,c0,rfl,hrB,o1'⟩:=id o1;refine b4 (Xb r) ?_;refine f0 (d0i hr.one) rfl ?_;rintro _ _ ⟨bv,hbv,rfl,rfl⟩;refine nmI ?_;simp only[cA,nA];have hP0:ParK H H1 (.map (some r)) us p lv 0 (fun y=>y∈Br us lv 0) []:=⟨o1,fun nm=>by simp[Br],(fun q hq=>nomatch hq)⟩;refine Hi (X:=H1) (K:=Iz dm bv w lv) (Ro:=H) (fun pre vals X'=>Pl H X'/\vals=[]/\∃L,ParK H X' (.map (some r)) us p lv pre.length (fun y=>y∈Br us lv pre.length) L) (fun _ _ _=>False) (d0j hr hv hl) c4p (c4o hbv) rfl (fun _ _ _ h=>h.1) ⟨l1,rfl,[],hP0⟩ ?_ ?_ ?_
 ·rintro pre xs vals X' ⟨x,hx,uB,rfl⟩ _ ⟨lX,rfl,L,hL⟩;refine⟨rfl,?_⟩;simp only[cA,nA];obtain⟨y,hy,_⟩:=q8 (show pre.length<p.length by omega);have hy8:=hp8 y (aK hy);obtain⟨d,rfl⟩:∃d:Nat,y=((d:Nat):Int):=⟨y.toNat,aA⟩;obtain⟨u,hu,_⟩:=q8 (show pre.length<ul.length by omega);have yK:=rT _ u x hu hx;have hS1:∀nm,nm∈Br us lv (pre.length+1)↔nm∈Br us lv pre.length\/nm=y7 lv x:=fun nm=>by rw[SX hx,aV,bB]
  have hm:=SR (us:=us) (lv:=lv) (nm:=y7 lv x) hp8 pre.length;have wY:∃z:Option Addr,((z=none/\y7 lv x∉L.map (·.1))\/∃b zz,z=some ⟨b,0,none⟩/\(y7 lv x,.pointer (some ⟨b,0,none⟩))∈L/\X' b=some (.cells (paC (y7 lv x) zz (Cc us p lv (y7 lv x) pre.length)) 422 (0,0)))/\((Value.pointer z= .pointer none/\y7 lv x∉L.map (·.1))\/(y7 lv x,Value.pointer z)∈L):=by
   by_cases rI:y7 lv x∈L.map (·.1)
   ·obtain⟨q,hq,uN⟩:=aZ.1 rI;obtain⟨b,zz,g1,g2,g3⟩:=hL.2.2 q hq;have uY:(y7 lv x,Value.pointer (some ⟨b,0,none⟩))∈L:=by rw[<-uN,<-g1];exact hq
    exact⟨some ⟨b,0,none⟩,.inr ⟨b,zz,rfl,uY,by rw[<-uN];exact g3⟩,.inr uY⟩
   ·exact⟨none,.inl ⟨rfl,rI⟩,.inl ⟨rfl,rI⟩⟩
  obtain⟨z,hz1,yF⟩:=wY;refine j8 (CV ar (k:=y7 lv x) (u:= .pointer z) (vs:=[.map (some r),ii (y7 lv x)]) rfl rfl rfl CX trivial e0U hL.1.mk yF) (i0 (Bc rfl rfl) rfl) ?_;simp only[cA,nA];refine j8 ((F6 (p:=z) (vs:=[.pointer z,.pointer none]) rfl rfl rfl d6Y).rds _) rfl ?_;simp only[cA,nA];refine b9 ?_;refine g6 (b:=z.isNone) rfl (fun hzn=> ?_) (fun hzn=> ?_)
  ·skip
   obtain⟨rfl,vA⟩:z=none/\y7 lv x∉L.map (·.1):=by
    rcases hz1 with h|⟨b,zz,rfl,_⟩
    ·exact h
    ·cases hzn
   refine b4 (el_int.vcells _) ?_;refine o0 (cs:=paC (y7 lv x) 0 0) rfl fun b hb=> ?_;simp only[cA,nA];have vK:H b=none:=by
    cases e:H b with
    |none=>rfl
    |some o=>rw[lX _ _ e]at hb;cases hb
   have lb:=PH.le_put hb (.cells (paC (y7 lv x) 0 0) 422 (0,0));refine j1 (Pq ar (k:=y7 lv x) (v:= .pointer (some ⟨b,0,none⟩)) (vs:=[.map (some r),ii (y7 lv x),.pointer (some ⟨b,0,none⟩)]) rfl rfl rfl rfl CX trivial (lX.trans lb) (hL.1.mono lb)) (By (Bc rfl rfl) rfl rfl) ?_;rintro _ H5 ⟨rfl,l5,o5,g,ob,_,_,hmg,_,_,hH5⟩;refine nmI ?_;simp only[cA,nA];obtain⟨hP5,a5n,hb5⟩:=ParK.new (X'':=H5) hL lb (fun hh=>vA ((hL.2.1 _).2 hh)) vK (d6W _ (fun hh=>vA ((hL.2.1 _).2 hh))) (PH.put_self _ _ _) o5 ⟨g,ob,hmg,hH5⟩;refine Dc z6 rfl rfl (hp.mono l5) (p6 (Bc rfl hp.cells)) ?_;simp only[cA,nA];refine b9 ?_;refine Aq (bT (p:=((p.length:Nat):Int)>0) aA) ?_;refine Ac z6 rfl rfl rfl rfl aF (hp.mono l5) hy (i0 (Bc rfl hp.cells) rfl) aF fun _=> ?_;simp only[cA,nA];refine CN Cb oa sc_int rfl rfl rfl rfl rfl rfl aF aF (sW.mono l5) hu rfl aF (fun _ _=>rfl) fun _ _=> ?_;simp only[cA,nA];refine f0 (TB hb5 hm aA) rfl ?_;rintro _ _ ⟨z',rfl⟩;refine nmI ?_;simp only[cA,nA];have hP6:=hP5.add (z':=z') hx hy a5n hb5;exact⟨fun b' ob' qM=>by rw[PH.put_ne _ _ (fun e=>by subst e;rw[vK]at qM;cases qM)];exact l5 _ _ qM,rfl,_,by rw[aL];exact⟨hP6.1,fun nm=>(hP6.2.1 nm).trans (hS1 nm).symm,hP6.2.2⟩⟩
  ·skip
   obtain⟨b,zz,rfl,qL,hXb⟩:∃b zz,z=some ⟨b,0,none⟩/\(y7 lv x,.pointer (some ⟨b,0,none⟩))∈L/\X' b=some (.cells (paC (y7 lv x) zz (Cc us p lv (y7 lv x) pre.length)) 422 (0,0)):=by
    rcases hz1 with⟨rfl,_⟩|h
    ·cases hzn
    ·exact h
   have vK:H b=none:=by
    obtain⟨b',z2,g1,g2,g3⟩:=hL.2.2 _ qL
    injection g1 with g1
    injection g1 with g1
    injection g1 with g1
    exact g1 ▸ g2
   refine Dc z6 rfl rfl (hp.mono lX) (p6 (Bc rfl hp.cells)) ?_;simp only[cA,nA];refine b9 ?_;refine Aq (bT (p:=((p.length:Nat):Int)>0) aA) ?_;refine Ac z6 rfl rfl rfl rfl aF (hp.mono lX) hy (i0 (Bc rfl hp.cells) rfl) aF fun _=> ?_;simp only[cA,nA];refine CN Cb oa sc_int rfl rfl rfl rfl rfl rfl aF aF (sW.mono lX) hu rfl aF (fun _ _=>rfl) fun _ _=> ?_;simp only[cA,nA];refine f0 (TB hXb hm aA) rfl ?_;rintro _ _ ⟨z',rfl⟩;refine nmI ?_;simp only[cA,nA];have hP6:=hL.add (z':=z') hx hy qL hXb;have a2z:y7 lv x∈Br us lv pre.length:=(hL.2.1 _).1 (aZ.2 ⟨_,qL,rfl⟩);exact⟨fun b' ob' qM=>by rw[PH.put_ne _ _ (fun e=>by subst e;rw[vK]at qM;cases qM)];exact lX _ _ qM,rfl,_,by rw[aL];exact⟨hP6.1,fun nm=>(hP6.2.1 nm).trans ((hS1 nm).trans ⟨fun h=>h.elim id (fun e=>e ▸ a2z),.inl⟩).symm,hP6.2.2⟩⟩
 ·rintro xs vals X' K' hxn hd _ ⟨lX,rfl,L,hL⟩;simp only[cA,nA];have hG:=hL.mono (PH.le_or X' K');obtain⟨⟨r',es,clock,hrr,hHr,a1q,hE,rW⟩,hG2,hG3⟩:=id hG;obtain rfl:r=r':=by injection hrr with hrr;injection hrr
  have lG:Pl H (X'.or K'):=lX.trans (PH.le_or _ _);rw[hxn]at hG2 hG3;have rC:es.map (·.1)=L.map (·.1):=by rw[<-rW];unfold kvN;rw[dO];rfl
  have uD:∀nm,nm∈Br us lv n->0<=nm/\nm<64:=fun nm h=>by
   unfold Br at h;obtain⟨x,hx,rfl⟩:=aZ.1 h;have hxu:=hv.un x (cM hx);have:=hxu.pz _ (aK (CQ hxu hl));split at this<;>omega
  have a5o:es.length<=64:=by
   have h1:(es.map (·.1)).Nodup:=hE.keys;have:=TE h1 (fun x hx=>uD x ((hG2 x).1 (by rw[<-rC];exact hx)));simpa using this
  refine j1 (mn (κ:=Int) (ke:=ii) (vs:=[.map (some r)]) rfl rfl CX a1q) (p6 (Bc rfl rfl)) ?_;rintro _ _ ⟨q,hq,rfl,rfl⟩;refine nmI ?_;simp only[cA,nA];have uZ:r≠q:=fun e=>by subst e;rw[a1q]at hq;cases hq
  have hI0:IT ii ((X'.or K').put q (.mapIter (some r) clock #[] clock)) q r es clock []:=⟨PH.put_self _ _ _,by rw[PH.put_ne _ _ uZ];exact a1q⟩;refine r7 (α:=List Nat×Value×List PaT) (fun⟨seen,out,l⟩=>[out]) (fun⟨seen,out,l⟩=>fun H'=>Pl (X'.or K') H'/\IT ii H' q r es clock seen/\SO (X'.or K') H' 422 3 ceP out l/\((l.map fun q=>q.1.1)++(left es seen).map (·.1)).Perm (es.map (·.1))/\(∀q∈l,q.1.2.2=Cc us p lv q.1.1 n)) (fun⟨seen,out,l⟩=>(left es seen).length) (([],.slice none 0 0,[])) rfl (⟨PH.le_put hq _,hI0,SO.nil _ _ _ _ _,by rw[ns];exact oZ _,(fun q hq=>nomatch hq)⟩) fun⟨seen,out,l⟩ H4 ⟨l4,it4,o4,rJ,yL⟩=> ?_;simp only[cA,nA];refine j1 (mr (ok:=fun _:Int=>True) (ke:=ii) (vs:=[.pointer (some ⟨q,0,none⟩)]) rfl rfl hE it4) rfl ?_;rintro v6 H5 yV;refine nmI ?_;simp only[cA,nA];obtain⟨b,x,y,rfl,hb⟩:=nr yV;refine b4 (nq b x y) ?_;refine b4 ⟨b,Qb b x y⟩ ?_;refine g6 (b:=b) (Qb b x y) (fun qU=> ?_) (fun qU=> ?_)
  ·skip
   obtain⟨e,he,rfl,rfl,rfl⟩:∃p∈left es seen,x=ii p.1/\y=p.2.1/\H5=H4.put q (.mapIter (some r) clock (seen++[p.2.2]).toArray clock):=by
    rcases hb with⟨h,_⟩|⟨_,h⟩
    ·rw[qU]at h;cases h
    ·exact h
   subst qU;have xQ:e∈es:=(bZ.1 he).1;have heL:(e.1,e.2.1)∈L:=by rw[<-rW];exact aZ.2 ⟨e,xQ,rfl⟩
   obtain⟨b',z2,g1,g2,g3⟩:=hG3 _ heL;have hen:e.1∈Br us lv n:=(hG2 _).1 (aZ.2 ⟨_,heL,rfl⟩);have it5:IT ii (H4.put q (.mapIter (some r) clock (seen++[e.2.2]).toArray clock)) q r es clock (seen++[e.2.2]):=⟨PH.put_self _ _ _,by rw[PH.put_ne _ _ uZ];exact it4.2⟩;have l5:Pl (X'.or K') (H4.put q (.mapIter (some r) clock (seen++[e.2.2]).toArray clock)):=fun b' ob' qM=>by rw[PH.put_ne _ _ (fun e=>by subst e;rw[hq]at qM;cases qM)];exact l4 _ _ qM
   have o5:SO (X'.or K') (H4.put q (.mapIter (some r) clock (seen++[e.2.2]).toArray clock)) 422 3 ceP out l:=(Nb o4 (g:=q) (fun cs T fz=>by rw[it4.1];exact fun h=>nomatch h)).mono (PH.cut_put _ _ _);generalize H4.put q (.mapIter (some r) clock (seen++[e.2.2]).toArray clock)=H6 at it5 l5 o5⊢;refine j1 (Rds.opn' (mt (ok:=fun _:Int=>True) (ke:=ii) (vs:=[.pointer (some ⟨q,0,none⟩)]) rfl rfl hE xQ it5)) rfl ?_;rintro _ _ ⟨rfl,rfl⟩;refine nmI ?_;simp only[cA,nA];obtain⟨la,lb,tI,vB⟩:=nu (hE.asc.imp fun h=>Nat.ne_of_lt h) he;have uO:l.length+1<=64:=by
    have:=rJ.length_eq;rw[tI]at this;simp at this;omega
   refine g7 ?_;refine MC (ad:=⟨b',0,none⟩) rfl rfl (p6 (show e.2.1=_ from g1)) ?_;simp only[cA,nA];refine x5 (vs:=(ceP ⟨(e.1,z2,Cc us p lv e.1 n),uD _ hen⟩)) e0V rfl rfl (l5 _ _ g3) rfl (aS 3) rfl ?_;simp only[cA,nA];obtain⟨XB,xb1,xb2,xb3,xb4⟩:=It o5 l5;refine Cf CW rfl rfl rfl aF aF xb2 xb3 aA rfl aF rfl fun pv v11 H7 l7 o7=> ?_;simp only[cA,nA];exact⟨(seen++[e.2.2],v11,l++[⟨(e.1,z2,Cc us p lv e.1 n),uD _ hen⟩]),by show(left es (seen++[e.2.2])).length<(left es seen).length;rw[tI,vB];simp,rfl,⟨xb1.trans l7,⟨l7 _ _ ((xb4 q (fun cs=>by rw[it5.1];exact fun h=>nomatch h)).trans it5.1),l7 _ _ ((xb4 r (fun cs=>by rw[it5.2];exact fun h=>nomatch h)).trans it5.2)⟩,o7.less xb1,by show((kZ _ (l++[_]))++kZ _ (left es (seen++[e.2.2]))).Perm _;refine pA ?_ rJ;rw[tI,vB,bM,bL,bM,bM];exact pB _ (by simp only[bI,bR,List.singleton_append];exact(List.perm_middle (a:=e.1) (l₁:=la.map (·.1)) (l₂:=lb.map (·.1))).symm),fun q hq=>(aV.1 hq).elim (yL q) (fun hq=>by rw[bB.1 hq])⟩⟩
  ·skip
   obtain⟨wH,h54⟩:left es seen=[]/\H5=H4:=by
    rcases hb with⟨_,h⟩|⟨h,_⟩
    ·exact h
    ·rw[qU]at h;cases h
   rw[h54];rw[wH,bR,cC]at rJ;have hl0:l≠[]:=fun e=>by
    subst e;obtain⟨x0,hx0,_⟩:=q8 (l:=us) (i:=0) aA;have qL:y7 lv x0∈es.map (·.1):=by rw[rC];exact(hG2 _).2 (aZ.2 ⟨x0,aK (i:=0) (by rw[dD aA];exact hx0),rfl⟩)
    exact absurd (rJ.mem_iff.2 qL) aD
   have hlc:l.length<4611686018427387904:=by have:=rJ.length_eq;simp at this;omega
   refine f0 (c4g (P:=prog) (ρ:=Tryz.srtP_ren) (k:=3) Tryz.srtP (TC aB aB) (TD (n:=3) aB aB) (fun x=>rfl) (fun x=>(Nh x).2) d6Z (g:=348) (cb:= #[]) c4s l4 o4 hl0 hlc (fun x y=>(c4t x y).give)) rfl ?_;rintro _ H8 ⟨l8,m,tY,_,o8⟩;refine nmI ?_;simp only[cA,nA];have zM:(m.map fun q=>q.1.1).Perm (es.map (·.1)):=(tY.map _).trans rJ;exact d4 rfl ⟨lG.trans l8,m,o8.se,zM.nodup_iff.2 hE.keys,fun nm=>by rw[zM.mem_iff,rC];exact hG2 nm,fun q hq=>yL q (tY.mem_iff.1 hq)⟩
 ·exact fun _ _ _ _ _ _ _ h=>h.elim
end
end Go.Z

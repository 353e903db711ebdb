/- Chapter 32: contracts of the library, part 2. -/
import Derived.Test.YtkcjbfoejpfbbaaGreatDoorGaA
import Derived.Test.YtkcjbfoejpfbbaaGreatDoorGsC
import Derived.Test.YtkcjbfoejpfbbaaGreatDoorWdK
import Derived.Test.YtkcjbfoejpfbbaaGreatDoorGsO
namespace Go.Proofs.YtkcjbfoejpfbbaaGreatDoor
open Go.Proofs.Tryz
open Go.RowKit Go.RX Go.GS
def SV1 (x:SV):SV:= .op2 .add .u64 (.op2 .and .u64 (.op2 .shr .u64 x (kU 1)) (kU 6148914691236517205)) (.op2 .and .u64 x (kU 6148914691236517205))
def SV2 (x:SV):SV:= .op2 .add .u64 (.op2 .and .u64 (.op2 .shr .u64 x (kU 2)) (kU 3689348814741910323)) (.op2 .and .u64 x (kU 3689348814741910323))
def SV3 (x:SV):SV:= .op2 .and .u64 (.op2 .add .u64 (.op2 .shr .u64 x (kU 4)) x) (kU 1085102592571150095)
def SV4 (k:Int) (x:SV):SV:= .op2 .add .u64 x (.op2 .shr .u64 x (.k (.int .u64 (k))))
theorem b4z {s:Nat} (hs:s<M64):Det prog 128 [uv s] (ii (card s)):=by
 obtain⟨l,h1,h2,h3,h4,h5,h6,h7⟩:=d6m hs
 obtain⟨g1,g2,g3,g4⟩:=d6n h1 h2
 refine a1e a0n d0Z (by kernel_rfl) rfl (a0Q ⟨_,rfl⟩ (a2q ?_ rfl))
 have e1:D prog [uv s] (SV1 (.v 0))=uv (c5J s):=a8b (a2H (a3c (n:=1) rfl rfl (by decide)) (B:=6148914691236517205) rfl (b2H (x:=1) hs) (by decide)) (a2H (B:=6148914691236517205) rfl rfl hs (by decide)) h5
 generalize hx1:SV1 (.v 0)=x1 at e1
 have e2:D prog [uv s] (SV2 x1)=uv (c9T (c5J s)):=a8b (a2H (a3c (n:=2) e1 rfl (by decide)) (B:=3689348814741910323) rfl (b2H (x:=2) h5) (by decide)) (a2H (B:=3689348814741910323) e1 rfl h5 (by decide)) h6
 generalize hx2:SV2 x1=x2 at e2
 have e3:D prog [uv s] (SV3 x2)=uv (d6l (c9T (c5J s))):=a2H (a8b (a3c (n:=4) e2 rfl (by decide)) e2 h7) (B:=1085102592571150095) rfl h7 (by decide)
 generalize hx3:SV3 x2=x3 at e3
 rw[h3]at e3
 have hF:Go.GS.Fd 8 l<M64:=Nat.lt_of_le_of_lt (Nat.le_add_right _ _) g1
 have e4:D prog [uv s] (SV4 8 x3)=uv (a5T 8 (Go.GS.Fd 8 l)):=a8b e3 (a3c (n:=8) e3 rfl (by decide)) g1
 generalize hx4:SV4 8 x3=x4 at e4
 have e5:D prog [uv s] (SV4 16 x4)=uv (a5T 16 (a5T 8 (Go.GS.Fd 8 l))):=a8b e4 (a3c (n:=16) e4 rfl (by decide)) g2
 generalize hx5:SV4 16 x4=x5 at e5
 have e6:D prog [uv s] (SV4 32 x5)=uv (a5T 32 (a5T 16 (a5T 8 (Go.GS.Fd 8 l)))):=a8b e5 (a3c (n:=32) e5 rfl (by decide)) g3
 generalize hx6:SV4 32 x5=x6 at e6
 generalize a5T 32 (a5T 16 (a5T 8 (Go.GS.Fd 8 l)))=m at e6 g3 g4
 have e7:=d6o e6 g3
 rw[g4,h4]at e7
 rw[<-hx6,<-hx5,<-hx4,<-hx3,<-hx2,<-hx1]at e7
 exact e7
theorem a9K (x:Int):Det prog 170 [ii x] (.bool false):=by
 refine a1e a0n b9E (by kernel_rfl) rfl (a0Q ⟨_,rfl⟩ (a2q ?_ rfl))
 show Value.bool (x !=x)=_
 simp
def b6o (x y:Int):Int:=if x<y then -1 else if x>y then 1 else 0
theorem c6H (x y:Int):Det prog 155 [ii x,ii y] (ii (b6o x y)):=by
 refine a1e a0n b9C (by kernel_rfl) rfl (a5g (a9K x) rfl (a5g (a9K y) rfl ?_))
 refine a0Q ⟨_,rfl⟩ (a9k rfl (a0Q ⟨_,rfl⟩ (a9k rfl (a0Q ⟨_,rfl⟩ (a0Q ⟨_,rfl⟩ ?_)))))
 refine a4n (b:=decide (x<y)) rfl (fun h=> ?_) (fun h=> ?_)
 ·have h:=of_decide_eq_true h
  refine a2q ?_ rfl
  unfold b6o;rw[if_pos h];rfl
 ·have h:=of_decide_eq_false h
  refine a4n (b:=decide (x>y)) rfl (fun h'=>a2q ?_ rfl) (fun h'=>a2q ?_ rfl)
  ·have h':=of_decide_eq_true h'
   unfold b6o;rw[if_neg h,if_pos h'];rfl
  ·have h':=of_decide_eq_false h'
   unfold b6o;rw[if_neg h,if_neg h'];rfl
abbrev SI (H:PH) (v:Value) (l:List Int):Prop:=SE H 1 (fun z:Int=>[ii z]) v l
abbrev SU (H:PH) (v:Value) (l:List Nat):Prop:=SE H 1 (fun s:Nat=>[uv s]) v l
def c0r:List Int->List Int->Int
 |[],[]=>0
 |[],_::_=> -1
 |_::_,[]=>1
 |x::l,y::m=>if b6o x y≠0 then b6o x y else c0r l m
theorem a0q {α:Type} {l:List α} {i:Nat} (h:i<l.length):∃x,l[i]? =some x/\l.drop i=x::l.drop (i+1):=
 ⟨l[i],List.getElem?_eq_getElem h,List.drop_eq_getElem_cons h⟩
section
variable {H:PH} {u v:Value} {l m:List Int}
theorem c6I (hu:SI H u l) (hv:SI H v m):Asks prog 108 [u,v] H (ii (c0r l m)):=by
 refine a0j a0n b9A ?_
 have hl:=hu.len
 have hm:=hv.len
 refine a0p el_int hu ?_
 refine a0A (α:=Nat×Int) (fun⟨i,p⟩=>[ii p,ii (i:Nat)]) (fun⟨i,p⟩=>i<=l.length/\c0r (l.drop i) (m.drop i)=c0r l m) (fun⟨i,p⟩=>l.length-i) ((0,0)) rfl (⟨Nat.zero_le _,rfl⟩) fun⟨i,p⟩ hQ=> ?_
 obtain⟨hi,hc⟩:=hQ
 refine a0a ?_
 refine a0a ?_
 refine a0e (b:=decide (((i:Nat):Int)<(l.length:Nat))) rfl (fun h=> ?_) (fun h=> ?_)
 ·replace h:=of_decide_eq_true h
  have hi':i<l.length:=by omega
  obtain⟨x,hx,hdx⟩:=a0q hi'
  refine a0t el_int hu hx fun _=> ?_
  refine a0p el_int hv ?_
  refine a0a ?_
  refine a0e (b:=decide (((i:Nat):Int)≥(m.length:Nat))) rfl (fun h2=> ?_) (fun h2=> ?_)
  ·replace h2:=of_decide_eq_true h2
   have:m.drop i=[]:=List.drop_eq_nil_of_le (by omega)
   rw[hdx,this]at hc
   exact a0b rfl ⟨rfl,by rw[<-hc];rfl⟩
  ·replace h2:=of_decide_eq_false h2
   obtain⟨y,hy,hdy⟩:=a0q (l:=m) (i:=i) (by omega)
   refine a0t el_int hv hy fun _=> ?_
   rw[hdx,hdy]at hc
   refine a0x (c6H x y) rfl ?_
   refine a0a ?_
   refine a0o (p:=(b6o x y≠0)) (by show Value.bool (b6o x y !=0)=_;congr 1;by_cases e:b6o x y=0<;>simp[e]) (fun h3=> ?_) fun h3=> ?_
   ·exact a0b rfl ⟨rfl,by rw[<-hc];simp only[c0r];rw[if_pos h3];rfl⟩
   ·exact⟨(i+1,p),by show l.length-(i+1)<l.length-i;omega,(a0F rfl (a0k rfl (by omega))),⟨⟨by show i+1<=_;omega,by rw[<-hc];simp only[c0r];rw[if_neg h3]⟩,rfl⟩⟩
 ·replace h:=of_decide_eq_false h
  have hle:i=l.length:=by omega
  subst hle
  rw[List.drop_length]at hc
  refine a0p el_int hu ?_
  refine a0p el_int hv ?_
  refine a0a ?_
  refine a0a ?_
  refine a0e (b:=decide (((l.length:Nat):Int)<(m.length:Nat))) rfl (fun h2=> ?_) (fun h2=> ?_)
  ·replace h2:=of_decide_eq_true h2
   obtain⟨y,hy,hdy⟩:=a0q (l:=m) (i:=l.length) (by omega)
   rw[hdy]at hc
   exact a0b rfl ⟨rfl,by rw[<-hc];rfl⟩
  ·replace h2:=of_decide_eq_false h2
   have:m.drop l.length=[]:=List.drop_eq_nil_of_le (by omega)
   rw[this]at hc
   exact a0b rfl ⟨rfl,by rw[<-hc];rfl⟩
end
end Go.Proofs.YtkcjbfoejpfbbaaGreatDoor
/- Chapter 32: graphs. -/
namespace Go.Proofs.YtkcjbfoejpfbbaaGreatDoor
open Go.Proofs.Tryz
open Go.RowKit Go.RX Go.GS
theorem bT {p:Prop} [Decidable p] (h:p):Value.bool (decide p)= .bool true:=by rw[decide_eq_true h]
theorem bF {p:Prop} [Decidable p] (h:¬p):Value.bool (decide p)= .bool false:=by rw[decide_eq_false h]
def gv (n:Nat) (w:Value):Value:= .agg #[ii n,w]
abbrev SG (H:PH) (w:Value) (es:List (Nat×Nat)):Prop:=SE H 2 ec w es
theorem a0G {H:PH} {n:Nat} {w:Value} {es:List (Nat×Nat)} (h:SG H w es):(gv n w).cells.size=2/\a0J (gv n w).cells:=by
 refine⟨rfl,fun c hc=> ?_⟩
 rw[gv,a1F]at hc
 simp only[List.mem_cons,List.not_mem_nil,or_false]at hc
 rcases hc with rfl|rfl
 ·rfl
 ·exact h.one.2 _ (by rw[h.cells];simp)
theorem sc_int:Sc prog 3:=⟨by kernel_rfl,by kernel_rfl,by kernel_rfl⟩
theorem a2K:Sc prog 34:=⟨by kernel_rfl,by kernel_rfl,by kernel_rfl⟩
theorem ar_2:Ar prog 100 3 2:=⟨by kernel_rfl,by kernel_rfl,by kernel_rfl,by kernel_rfl,sc_int⟩
theorem d5A:Ag prog 100 2:=⟨by kernel_rfl,by kernel_rfl,by kernel_rfl⟩
theorem z_2:a0O prog 100= .agg #[ii 0,ii 0]:=by kernel_rfl
theorem d8g:(a0O prog 100).cells= #[ii 0,ii 0]:=by rw[z_2];rfl
def bef (es:List (Nat×Nat)):Nat->Int×Int
 |0=>(-1,-1)
 |i+1=>match es[i]? with|some e=>(e.1,e.2)|none=>(-1,-1)
theorem d8v {a b c d:Int} (h:a<c\/a=c/\b<d):c0r [a,b] [c,d]<0:=by
 rcases h with h|⟨rfl,h⟩
 ·have e:b6o a c= -1:=if_pos h
  simp only[c0r,e];rw[if_pos (by decide)];decide
 ·have e:b6o a a=0:=by unfold b6o;rw[if_neg (by omega),if_neg (by omega)]
  have e2:b6o b d= -1:=if_pos h
  simp only[c0r,e,e2];rw[if_neg (by decide),if_pos (by decide)];decide
theorem d4g {n:Nat} {es:List (Nat×Nat)} (h:GV n es) {i:Nat} {a:Nat×Nat} (ha:es[i]? =some a):c0r [(bef es i).1,(bef es i).2] [(a.1:Int),(a.2:Int)]<0:=by
 apply d8v
 cases i with
 |zero=>exact .inl (by simp only[bef];omega)
 |succ i=>
  obtain⟨hi,_⟩:=List.getElem?_eq_some_iff.1 ha
  have hb:es[i]? =some es[i]:=List.getElem?_eq_getElem (by omega)
  have:=h.next hb ha
  simp only[bef,hb]
  rcases this with h1|⟨h1,h2⟩
  ·exact .inl (by omega)
  ·exact .inr ⟨by omega,by omega⟩
theorem d8w (ρ:List Value):D prog ρ (.put (.put (.z 100) 0 1 (kI (-1)) 0 noI) 1 1 (kI (-1)) 0 noI)= .agg #[ii (-1),ii (-1)]:=by
 show Value.agg (spl (Value.agg (spl (a0O prog 100).cells 0 [ii (-1)])).cells 1 [ii (-1)])=_
 rw[z_2];rfl
section
variable {H:PH} {n:Nat} {w:Value} {es:List (Nat×Nat)}
theorem a3B (hw:SG H w es) (hg:GV n es):a3Z prog 52 [gv n w] H (ii 0):=by
 refine a0j a0n b9Z ?_
 have h1:=hg.n1
 have h2:=hg.n64
 have h3:=hg.len
 refine a0c (a0G hw) ?_
 refine a0a ?_
 refine a0l (bF (p:=((n:Nat):Int)<1) (by omega)) ?_
 refine a0l (bF (p:=((n:Nat):Int)>64) (by omega)) ?_
 refine a0p el_edge hw ?_
 refine a0a ?_
 refine a0l (bF (p:=((es.length:Nat):Int)>200) (by omega)) ?_
 refine a2i (cs:= #[ii 0,ii 0]) d8g fun b hb=> ?_
 simp only[cA,nA]
 refine b2E (vs:=[ii (-1),ii (-1)]) d5A rfl rfl rfl (PH.put_self _ _ _) rfl (by intro c hc;simp at hc;rcases hc with rfl|rfl<;>rfl) (a0F rfl (d8w _)) (fun h=>(nomatch h)) ?_
 simp only[cA,nA]
 have l1:=PH.le_put2 hb (.cells #[ii 0,ii 0] 100 (0,0)) (.cells #[ii (-1),ii (-1)] 100 (0,0))
 have b1:=PH.put_self (H.put b (.cells #[ii 0,ii 0] 100 (0,0))) b (.cells #[ii (-1),ii (-1)] 100 (0,0))
 generalize (H.put b (.cells #[ii 0,ii 0] 100 (0,0))).put b (.cells #[ii (-1),ii (-1)] 100 (0,0))=H1 at l1 b1
 refine a0p el_edge (hw.mono l1) ?_
 refine a0i (α:=Nat×Int) (fun⟨i,p⟩=>[ii p,ii (i:Nat)]) (fun⟨i,p⟩=>fun H'=>i<=es.length/\PH.le H H'/\H' b=some (.cells #[ii (bef es i).1,ii (bef es i).2] 100 (0,0))) (fun⟨i,p⟩=>es.length-i) ((0,0)) rfl (⟨Nat.zero_le _,l1,b1⟩) fun⟨i,p⟩ H' hQ=> ?_
 simp only[cA,nA]
 obtain⟨hi,l2,b2⟩:=hQ
 refine a0a ?_
 refine a0a ?_
 refine a0e (b:=decide (((i:Nat):Int)<(es.length:Nat))) rfl (fun h=> ?_) (fun h=> ?_)
 ·replace h:=of_decide_eq_true h
  have hi':i<es.length:=by omega
  obtain⟨x,hx,hdx⟩:=a0q hi'
  obtain⟨hx1,hx2⟩:=hg.mem hx
  refine a0t el_edge (hw.mono l2) hx fun _=> ?_
  simp only[cA,nA]
  refine a2i (cs:= #[ii 0,ii 0]) d8g fun c hc=> ?_
  simp only[cA,nA]
  refine b2E (vs:=(ec x)) d5A rfl rfl rfl (PH.put_self _ _ _) rfl (el_edge.one x) rfl (fun h=>(nomatch h)) ?_
  simp only[cA,nA]
  have l3:=PH.le_put2 hc (.cells #[ii 0,ii 0] 100 (0,0)) (.cells (ec x).toArray 100 (0,0))
  have b3:=PH.put_self (H'.put c (.cells #[ii 0,ii 0] 100 (0,0))) c (.cells (ec x).toArray 100 (0,0))
  have hb2:=l3 _ _ b2
  generalize (H'.put c (.cells #[ii 0,ii 0] 100 (0,0))).put c (.cells (ec x).toArray 100 (0,0))=H2 at l3 b3 hb2
  refine a4F (m:=0) ar_2 rfl rfl rfl rfl rfl b3 (by decide) rfl rfl rfl ?_
  simp only[cA,nA]
  refine a0a ?_
  refine a0l (bF (p:=((x.1:Nat):Int)<0) (by omega)) ?_
  refine a4F (m:=0) ar_2 rfl rfl rfl rfl rfl b3 (by decide) rfl rfl rfl ?_
  simp only[cA,nA]
  refine a4F (m:=1) ar_2 rfl rfl rfl rfl rfl b3 (by decide) rfl rfl rfl ?_
  simp only[cA,nA]
  refine a0a ?_
  refine a0a ?_
  refine a0l (bF (p:=((x.1:Nat):Int)≥(x.2:Nat)) (by omega)) ?_
  refine a4F (m:=1) ar_2 rfl rfl rfl rfl rfl b3 (by decide) rfl rfl rfl ?_
  simp only[cA,nA]
  refine a0a ?_
  refine a0l (bF (p:=((x.2:Nat):Int)≥(n:Nat)) (by omega)) ?_
  refine a0u ((a8a rfl rfl ar_2.und sc_int.has).rds _) rfl ?_
  simp only[cA,nA]
  refine a0u ((a8a rfl rfl ar_2.und sc_int.has).rds _) rfl ?_
  simp only[cA,nA]
  refine a0s (c6I (l:=[(bef es i).1,(bef es i).2]) (m:=[(x.1:Int),(x.2:Int)]) (b3I hb2 rfl rfl (show 2<=maxLen by decide)) (b3I b3 rfl rfl (show 2<=maxLen by decide))) rfl ?_
  simp only[cA,nA]
  have hlt:=d4g hg hx
  refine a0a ?_
  refine a0l (bF (p:=c0r [(bef es i).1,(bef es i).2] [(x.1:Int),(x.2:Int)]≥0) (by omega)) ?_
  refine a1D (vs:=ec x) d5A rfl rfl b3 rfl (by simp) rfl ?_
  simp only[cA,nA]
  refine b2E (vs:=(ec x)) d5A rfl rfl rfl hb2 rfl (el_edge.one x) rfl (fun h=>(nomatch h)) ?_
  simp only[cA,nA]
  exact⟨(i+1,p),by show es.length-(i+1)<es.length-i;omega,(a0F rfl (a0k rfl (by omega))),⟨by show i+1<=_;omega,PH.le_put_of (l2.trans l3) hb,by simp only[bef,hx];exact PH.put_self _ _ _⟩⟩
 ·replace h:=of_decide_eq_false h
  exact a0b rfl ⟨l2,rfl⟩
end
end Go.Proofs.YtkcjbfoejpfbbaaGreatDoor
/- Chapter 32: graphs, part 2. -/
namespace Go.Proofs.YtkcjbfoejpfbbaaGreatDoor
open Go.Proofs.Tryz
open Go.RowKit Go.RX Go.GS
theorem d1e:a0O prog 34=uv 0:=by kernel_rfl
theorem c0s:a0O prog 3=ii 0:=by kernel_rfl
theorem a9L {l:List Int} {x y:Int}:(l++[x]).contains y=(l.contains y||(y==x)):=by
 rw[Bool.eq_iff_iff];simp[List.contains_iff_mem]
theorem take_snoc {α:Type} {l:List α} {i:Nat} {x:α} (h:l[i]? =some x):l.take (i+1)=l.take i++[x]:=by rw[List.take_add_one,h];rfl
section
variable {H:PH} {n:Nat} {w:Value} {es:List (Nat×Nat)}
theorem d1f (hw:SG H w es) (hg:GV n es):Con prog 171 [gv n w] H fun u H'=>PH.le H H'/\SO H H' 34 1 (fun s:Nat=>[uv s]) u (nbs n es):=by
 refine a0j a0n c9a ?_
 have h1:=hg.n1
 have h2:=hg.n64
 have h3:=hg.len
 have hlt:∀i x,nb (es.take i) x<M64:=fun i x=>c9V (fun e he=>hg.ed e (List.mem_of_mem_take he)) h2 x
 refine a0c (a0G hw) ?_
 refine a3m el_u64 (z:=(0:Nat)) d1e rfl rfl rfl (by omega) rfl fun v H1 l1 o1 _=> ?_
 simp only[cA,nA]
 rw[<-c9U]at o1
 refine a0p el_edge (hw.mono l1) ?_
 refine a0i (α:=Nat) (fun i=>[ii (i:Nat)]) (fun i=>fun H'=>i<=es.length/\PH.le H H'/\SO H H' 34 1 (fun s:Nat=>[uv s]) v (nbs n (es.take i))) (fun i=>es.length-i) (0) rfl (⟨Nat.zero_le _,l1,o1⟩) fun i H' hQ=> ?_
 simp only[cA,nA]
 obtain⟨hi,l2,o2⟩:=hQ
 refine a0a ?_
 refine a0a ?_
 refine a0e (b:=decide (((i:Nat):Int)<(es.length:Nat))) rfl (fun h=> ?_) (fun h=> ?_)
 ·replace h:=of_decide_eq_true h
  have hi':i<es.length:=by omega
  obtain⟨x,hx,hdx⟩:=a0q hi'
  obtain⟨hx1,hx2⟩:=hg.mem hx
  refine a0t el_edge (hw.mono l2) hx fun _=> ?_
  simp only[cA,nA]
  refine a0c (el_edge.vcells x) ?_
  refine a0I el_u64 rfl rfl rfl rfl (fun _=>rfl) o2.se (b0X _ (show x.1<n by omega)) rfl (fun _=>rfl) fun _=> ?_
  simp only[cA,nA]
  refine a0c ⟨_,_,rfl⟩ ?_
  refine a0c (by show(0:Int)<=((x.2:Nat):Int);omega) ?_
  refine a0a ?_
  refine a0U el_u64 (a:=nb (es.take i) x.1|||2^x.2) rfl rfl rfl rfl (fun _=>rfl) (fun _=>rfl) l2 o2 (by rw[a5j];omega) rfl (fun _=>a0F rfl (a4q rfl (a2R rfl (by omega)) (hlt _ _) (a0R (by omega)))) rfl fun p u H2 l3 o3 _=> ?_
  simp only[cA,nA]
  refine a0I el_u64 rfl rfl rfl rfl (fun _=>rfl) o3.se (show _=some (nb (es.take i) x.2) by rw[List.getElem?_set_ne (by omega),b0X _ (by omega)]) rfl (fun _=>rfl) fun _=> ?_
  simp only[cA,nA]
  refine a0c ⟨_,_,rfl⟩ ?_
  refine a0c (by show(0:Int)<=((x.1:Nat):Int);omega) ?_
  refine a0a ?_
  refine a0U el_u64 (a:=nb (es.take i) x.2|||2^x.1) rfl rfl rfl rfl (fun _=>rfl) (fun _=>rfl) l3 o3 (by rw[List.length_set,a5j];omega) rfl (fun _=>a0F rfl (a4q rfl (a2R rfl (by omega)) (hlt _ _) (a0R (by omega)))) rfl fun p2 u2 H3 l4 o4 _=> ?_
  simp only[cA,nA]
  rw[c5K n _ x hx1,<-take_snoc hx]at o4
  exact⟨i+1,by omega,(a2S (a0k rfl (by omega))),⟨by omega,l4,o4⟩⟩
 ·replace h:=of_decide_eq_false h
  rw[List.take_of_length_le (by omega)]at o2
  exact a0b rfl ⟨l2,o2⟩
theorem b1x:a4w prog 220=true:=by kernel_rfl
def a6f (b s:Nat):PH:=PH.nil.put b (.cells #[uv s] 34 (0,0))
theorem c6J {s:Nat}:Con prog 172 [uv s] H fun u H'=>∃b,H b=none/\H'=H.or (a6f b s)/\u= .func (.func 220) #[] #[.pointer (some ⟨b,0,none⟩)]:=by
 refine a0j a0n c0d ?_
 refine a0c (el_u64.vcells s) ?_
 refine a2i (cs:= #[uv s]) rfl fun b hb=> ?_
 refine a3p (a2e (vs:=[.pointer (some ⟨b,0,none⟩)]) rfl rfl) rfl ?_
 exact a0b rfl ⟨b,hb,PH.put_or hb,rfl⟩
theorem bN (a b:Int):Value.bool (a !=b)= .bool (decide (a≠b)):=by
 by_cases h:a=b<;>simp[h]
theorem bE (a b:Int):Value.bool (a==b)= .bool (decide (a=b)):=by
 by_cases h:a=b<;>simp[h]
theorem bN0 (s:Nat):Value.bool (((s:Nat):Int) !=0)= .bool (decide (s≠0)):=by
 rw[bN];congr 1;apply decide_eq_decide.2;omega
theorem bE0 (s:Nat):Value.bool (((s:Nat):Int)==0)= .bool (decide (s=0)):=by
 rw[bE];congr 1;apply decide_eq_decide.2;omega
theorem a4R (b s:Nat):a6f b s b=some (.cells #[uv s] 34 (0,0)):=PH.put_self _ _ _
theorem c6K {X:PH} {b s t:Nat} (h:X b=none):(X.or (a6f b s)).put b (.cells #[uv t] 34 (0,0))=X.or (a6f b t):=by
 rw[PH.or_put h];unfold a6f;rw[PH.put_put]
theorem b1y {X:PH} {b:Nat} (s:Nat) (h:X b=none):Disj X (a6f b s):=a9p (b3H X) h
theorem c0t {X:PH} {b s:Nat} (h:Disj X (a6f b s)):X b=none:=Disj.none h (b:=b) (by rw[a4R];exact fun h=>nomatch h)
abbrev nxs (s:Nat):List (List Value):=(els s).map fun x:Nat=>[ii (x:Int)]
theorem b1z {b s:Nat} {Ro:PH} (hs:s<M64) (hT:Tb Ro):ItC prog 220 [.pointer (some ⟨b,0,none⟩)] Ro (a6f b s) (fun pre xs=>∃x,(els s)[pre.length]? =some x/\xs=[ii (x:Nat)]/\pre=((els s).take pre.length).map fun x:Nat=>[ii (x:Int)]) (fun xs _=>xs=nxs s) (fun _ _=>True):=by
 intro l J Jx hRo hr X hX hd w hw
 refine(a0r (H:=X.or (a6f b s)) (V:=fun _ H'=>∃X' K',PH.le (X'.or K') H'/\Disj X' K'/\((∃xs,xs=nxs s/\J xs X')\/(∃pre,True/\Jx pre X'))) a0n b4x (by kernel_rfl) rfl ?_ w hw).mono fun e w' ⟨v,H',he,hst,hV⟩=>⟨v,H',he,hst,hV⟩
 refine a0i (α:=Nat×Nat×PH) (fun⟨k,s',X'⟩=>[]) (fun⟨k,s',X'⟩=>fun H'=>k<=(els s).length/\s'<M64/\els s'=(els s).drop k/\H'=X'.or (a6f b s')/\J (((els s).take k).map fun x:Nat=>[ii (x:Int)]) X'/\Disj X' (a6f b s')) (fun⟨k,s',X'⟩=>(els s).length-k) ((0,s,X)) rfl (⟨Nat.zero_le _,hs,rfl,rfl,hX,hd⟩) fun⟨k,s',X'⟩ H' hQ=> ?_
 obtain⟨hk,hs',he,rfl,hJ,hd'⟩:=hQ
 have hb:=PH.or_right hd' (a4R b s')
 refine a0D a2K rfl rfl hb rfl rfl ?_
 refine a0a ?_
 refine a0o (p:=(s'≠0)) (bN0 s') (fun h=> ?_) fun h=> ?_
 ·refine a0D a2K rfl rfl hb rfl rfl ?_
  obtain⟨x,r,hel⟩:∃x r,els s'=x::r:=by
   cases hel:els s' with
   |nil=>exact absurd (a4p hs' hel) h
   |cons x r=>exact⟨x,r,rfl⟩
  have htz:tz s'=x:=by simp[tz,hel]
  have hk':k<(els s).length:=by
   apply Nat.lt_of_not_le;intro hh
   rw[List.drop_eq_nil_of_le hh,hel]at he;cases he
  obtain⟨y,hy,hdy⟩:=a0q hk'
  rw[<-he,hel]at hdy
  obtain⟨rfl,hr'⟩:=List.cons.inj hdy
  refine a0s (b1w ((hT.mono (hRo _ _ hJ)).mono (PH.le_or _ _)) hs') rfl ?_
  rw[htz]
  refine a3o (hr _ [ii (x:Nat)] X' (a6f b s') ⟨x,by simp[Nat.min_eq_left hk,hy],rfl,by simp[Nat.min_eq_left hk]⟩ hJ hd') rfl rfl rfl rfl rfl fun v X2 hd2 hV=> ?_
  obtain⟨bb,rfl,hb1,hb2⟩:∃bb,v= .bool bb/\(bb=true->J ((((els s).take k).map fun x:Nat=>[ii (x:Int)])++[[ii (x:Nat)]]) X2)/\(bb=false->Jx ((((els s).take k).map fun x:Nat=>[ii (x:Int)])++[[ii (x:Nat)]]) X2):=by
   rcases hV with⟨rfl,h⟩|⟨rfl,h⟩
   ·exact⟨true,rfl,fun _=>h,(fun h=>nomatch h)⟩
   ·exact⟨false,rfl,(fun h=>nomatch h),fun _=>h⟩
  refine a0a ?_
  refine a0e (b:= !bb) rfl (fun hbb=> ?_) (fun hbb=> ?_)
  ·skip
   exact a0b rfl ⟨X2,a6f b s',PH.le.refl _,hd2,.inr ⟨_,trivial,hb2 (by simpa using hbb)⟩⟩
  ·skip
   have hn2:=c0t hd2
   have hb2:=PH.or_right hd2 (a4R b s')
   refine a0D a2K rfl rfl hb2 rfl rfl ?_
   refine a0D a2K rfl rfl hb2 rfl rfl ?_
   refine a0a ?_
   refine a0a ?_
   refine a6J a2K rfl rfl rfl hb2 (by simp) rfl rfl (a0F rfl (a2H rfl (a8c (B:=1) rfl rfl hs' (by omega)) hs' (Nat.lt_of_le_of_lt (Nat.sub_le _ _) hs'))) (fun h=>(nomatch h)) ?_
   exact⟨(k+1,s'&&&(s'-1),X2),by show(els s).length-(k+1)<(els s).length-k;omega,rfl,⟨hk',b3L hs',by rw[a9r hs' hel,hr'],c6K hn2,by rw[take_snoc hy,List.map_append];exact hb1 (by simpa using hbb),b1y _ hn2⟩⟩
 ·have h0:s'=0:=by omega
  rw[h0,a9q]at he
  have hk2:(els s).length<=k:=by
   apply Nat.le_of_not_lt;intro hh
   rw[List.drop_eq_getElem_cons hh]at he;cases he
  rw[List.take_of_length_le hk2]at hJ
  exact a0b rfl ⟨X',a6f b s',PH.le.refl _,hd',.inl ⟨_,rfl,hJ⟩⟩
end
end Go.Proofs.YtkcjbfoejpfbbaaGreatDoor

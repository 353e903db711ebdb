/- Chapter 32: contracts of the library, part 2. -/
import Derived.Test.YtkcjbfoejpfbbaaGreatDoorGaA
import Derived.Test.YtkcjbfoejpfbbaaGreatDoorGsC
import Derived.Test.YtkcjbfoejpfbbaaGreatDoorWdK
import Derived.Test.YtkcjbfoejpfbbaaGreatDoorGsO
namespace Go.Proofs.YtkcjbfoejpfbbaaGreatDoor
open Go.Proofs.Tryz
open Go.RowKit Go.RX Go.GS
def SV1 (x:SV):SV:= .op2 .add .u64 (.op2 .and .u64 (.op2 .shr .u64 x (.k (.int .u64 (1)))) (.k (.int .u64 (6148914691236517205)))) (.op2 .and .u64 x (.k (.int .u64 (6148914691236517205))))
def SV2 (x:SV):SV:= .op2 .add .u64 (.op2 .and .u64 (.op2 .shr .u64 x (.k (.int .u64 (2)))) (.k (.int .u64 (3689348814741910323)))) (.op2 .and .u64 x (.k (.int .u64 (3689348814741910323))))
def SV3 (x:SV):SV:= .op2 .and .u64 (.op2 .add .u64 (.op2 .shr .u64 x (.k (.int .u64 (4)))) x) (.k (.int .u64 (1085102592571150095)))
def SV4 (k:Int) (x:SV):SV:= .op2 .add .u64 x (.op2 .shr .u64 x (.k (.int .u64 (k))))
theorem b4g {s:Nat} (hs:s<M64):Det prog 128 [uv s] (ii (card s)):=by
 obtain⟨l,h1,h2,h3,h4,h5,h6,h7⟩:=d5m hs
 obtain⟨g1,g2,g3,g4⟩:=d5n h1 h2
 refine a0z a0r c9l (by kernel_rfl) rfl (a0m ⟨_,rfl⟩ (a0X ?_ rfl))
 have e1:D prog [uv s] (SV1 (.v 0))=uv (c3F s):=a7K (a3T (a6w (n:=1) rfl rfl (by decide)) (B:=6148914691236517205) rfl (b2b (x:=1) hs) (by decide)) (a3T (B:=6148914691236517205) rfl rfl hs (by decide)) h5
 generalize hx1:SV1 (.v 0)=x1 at e1
 have e2:D prog [uv s] (SV2 x1)=uv (c7S (c3F s)):=a7K (a3T (a6w (n:=2) e1 rfl (by decide)) (B:=3689348814741910323) rfl (b2b (x:=2) h5) (by decide)) (a3T (B:=3689348814741910323) e1 rfl h5 (by decide)) h6
 generalize hx2:SV2 x1=x2 at e2
 have e3:D prog [uv s] (SV3 x2)=uv (d5l (c7S (c3F s))):=a3T (a7K (a6w (n:=4) e2 rfl (by decide)) e2 h7) (B:=1085102592571150095) rfl h7 (by decide)
 generalize hx3:SV3 x2=x3 at e3
 rw[h3]at e3
 have hF:Go.GS.Fd 8 l<M64:=Nat.lt_of_le_of_lt (Nat.le_add_right _ _) g1
 have e4:D prog [uv s] (SV4 8 x3)=uv (a5D 8 (Go.GS.Fd 8 l)):=a7K e3 (a6w (n:=8) e3 rfl (by decide)) g1
 generalize hx4:SV4 8 x3=x4 at e4
 have e5:D prog [uv s] (SV4 16 x4)=uv (a5D 16 (a5D 8 (Go.GS.Fd 8 l))):=a7K e4 (a6w (n:=16) e4 rfl (by decide)) g2
 generalize hx5:SV4 16 x4=x5 at e5
 have e6:D prog [uv s] (SV4 32 x5)=uv (a5D 32 (a5D 16 (a5D 8 (Go.GS.Fd 8 l)))):=a7K e5 (a6w (n:=32) e5 rfl (by decide)) g3
 generalize hx6:SV4 32 x5=x6 at e6
 generalize a5D 32 (a5D 16 (a5D 8 (Go.GS.Fd 8 l)))=m at e6 g3 g4
 have e7:=d5o e6 g3
 rw[g4,h4]at e7
 rw[<-hx6,<-hx5,<-hx4,<-hx3,<-hx2,<-hx1]at e7
 exact e7
theorem a9j (x:Int):Det prog 170 [ii x] (.bool false):=by
 refine a0z a0r b8R (by kernel_rfl) rfl (a0m ⟨_,rfl⟩ (a0X ?_ rfl))
 show Value.bool (x !=x)=_
 simp
def b6e (x y:Int):Int:=if x<y then -1 else if x>y then 1 else 0
theorem c4I (x y:Int):Det prog 155 [ii x,ii y] (ii (b6e x y)):=by
 refine a0z a0r b8P (by kernel_rfl) rfl (a2r (a9j x) rfl (a2r (a9j y) rfl ?_))
 refine a0m ⟨_,rfl⟩ (a8I rfl (a0m ⟨_,rfl⟩ (a8I rfl (a0m ⟨_,rfl⟩ (a0m ⟨_,rfl⟩ ?_)))))
 refine a1R (b:=decide (x<y)) rfl (fun h=> ?_) (fun h=> ?_)
 ·have h:=of_decide_eq_true h
  refine a0X ?_ rfl
  unfold b6e;rw[if_pos h];rfl
 ·have h:=of_decide_eq_false h
  refine a1R (b:=decide (x>y)) rfl (fun h'=>a0X ?_ rfl) (fun h'=>a0X ?_ rfl)
  ·have h':=of_decide_eq_true h'
   unfold b6e;rw[if_neg h,if_pos h'];rfl
  ·have h':=of_decide_eq_false h'
   unfold b6e;rw[if_neg h,if_neg h'];rfl
abbrev SI (H:PH) (v:Value) (l:List Int):Prop:=SE H 1 (fun z:Int=>[ii z]) v l
abbrev SU (H:PH) (v:Value) (l:List Nat):Prop:=SE H 1 (fun s:Nat=>[uv s]) v l
def b9t:List Int->List Int->Int
 |[],[]=>0
 |[],_::_=> -1
 |_::_,[]=>1
 |x::l,y::m=>if b6e x y≠0 then b6e x y else b9t l m
theorem a1j {α:Type} {l:List α} {i:Nat} (h:i<l.length):∃x,l[i]? =some x/\l.drop i=x::l.drop (i+1):=
 ⟨l[i],List.getElem?_eq_getElem h,List.drop_eq_getElem_cons h⟩
section
variable {H:PH} {u v:Value} {l m:List Int}
theorem c4J (hu:SI H u l) (hv:SI H v m):Asks prog 108 [u,v] H (ii (b9t l m)):=by
 refine a0d a0r b8N (by kernel_rfl) rfl ?_
 have hl:=hu.len
 have hm:=hv.len
 refine a0j a0q rfl rfl hu rfl ?_
 refine a0S (α:=Nat×Int) (fun⟨i,p⟩=>[ii p,ii (i:Nat)]) (fun⟨i,p⟩=>i<=l.length/\b9t (l.drop i) (m.drop i)=b9t l m) (fun⟨i,p⟩=>l.length-i) ((0,0)) rfl (⟨Nat.zero_le _,rfl⟩) fun⟨i,p⟩ hQ=> ?_
 simp only[cA,nA]
 obtain⟨hi,hc⟩:=hQ
 refine a0a ⟨_,rfl⟩ ?_
 refine a0a ⟨_,rfl⟩ ?_
 refine a0e (b:=decide (((i:Nat):Int)<(l.length:Nat))) rfl (fun h=> ?_) (fun h=> ?_)
 ·replace h:=of_decide_eq_true h
  have hi':i<l.length:=by omega
  obtain⟨x,hx,hdx⟩:=a1j hi'
  refine a0k a0q rfl rfl rfl rfl (fun _=>rfl) hu hx rfl (fun _=>rfl) fun _=> ?_
  simp only[cA,nA]
  refine a0j a0q rfl rfl hv rfl ?_
  refine a0a ⟨_,rfl⟩ ?_
  refine a0e (b:=decide (((i:Nat):Int)≥(m.length:Nat))) rfl (fun h2=> ?_) (fun h2=> ?_)
  ·replace h2:=of_decide_eq_true h2
   have:m.drop i=[]:=List.drop_eq_nil_of_le (by omega)
   rw[hdx,this]at hc
   exact a0f rfl ⟨rfl,by rw[<-hc];rfl⟩
  ·replace h2:=of_decide_eq_false h2
   obtain⟨y,hy,hdy⟩:=a1j (l:=m) (i:=i) (by omega)
   refine a0k a0q rfl rfl rfl rfl (fun _=>rfl) hv hy rfl (fun _=>rfl) fun _=> ?_
   simp only[cA,nA]
   rw[hdx,hdy]at hc
   refine a0v (c4I x y) rfl ?_
   simp only[cA,nA]
   refine a0a ⟨_,rfl⟩ ?_
   refine a0e (b:=decide (b6e x y≠0)) (by show Value.bool (b6e x y !=0)=_;congr 1;by_cases e:b6e x y=0<;>simp[e]) (fun h3=> ?_) (fun h3=> ?_)
   ·replace h3:=of_decide_eq_true h3
    exact a0f rfl ⟨rfl,by rw[<-hc];simp only[b9t];rw[if_pos h3];rfl⟩
   ·replace h3:=of_decide_eq_false h3
    exact⟨(i+1,p),by show l.length-(i+1)<l.length-i;omega,(a1s rfl (a0x rfl (by omega))),⟨⟨by show i+1<=_;omega,by rw[<-hc];simp only[b9t];rw[if_neg h3]⟩,rfl⟩⟩
 ·replace h:=of_decide_eq_false h
  have hle:i=l.length:=by omega
  subst hle
  rw[List.drop_length]at hc
  refine a0j a0q rfl rfl hu rfl ?_
  refine a0j a0q rfl rfl hv rfl ?_
  refine a0a ⟨_,rfl⟩ ?_
  refine a0a ⟨_,rfl⟩ ?_
  refine a0e (b:=decide (((l.length:Nat):Int)<(m.length:Nat))) rfl (fun h2=> ?_) (fun h2=> ?_)
  ·replace h2:=of_decide_eq_true h2
   obtain⟨y,hy,hdy⟩:=a1j (l:=m) (i:=l.length) (by omega)
   rw[hdy]at hc
   exact a0f rfl ⟨rfl,by rw[<-hc];rfl⟩
  ·replace h2:=of_decide_eq_false h2
   have:m.drop l.length=[]:=List.drop_eq_nil_of_le (by omega)
   rw[this]at hc
   exact a0f rfl ⟨rfl,by rw[<-hc];rfl⟩
end
end Go.Proofs.YtkcjbfoejpfbbaaGreatDoor
/- Chapter 32: graphs. -/
namespace Go.Proofs.YtkcjbfoejpfbbaaGreatDoor
open Go.Proofs.Tryz
open Go.RowKit Go.RX Go.GS
theorem bF {p:Prop} [Decidable p] (h:¬p):Value.bool (decide p)= .bool false:=by rw[decide_eq_false h]
def gv (n:Nat) (w:Value):Value:= .agg #[ii n,w]
abbrev SG (H:PH) (w:Value) (es:List (Nat×Nat)):Prop:=SE H 2 ec w es
theorem a1m {H:PH} {n:Nat} {w:Value} {es:List (Nat×Nat)} (h:SG H w es):(gv n w).cells.size=2/\a0u (gv n w).cells:=by
 refine⟨rfl,fun c hc=> ?_⟩
 rw[gv,a1J]at hc
 simp only[List.mem_cons,List.not_mem_nil,or_false]at hc
 rcases hc with rfl|rfl
 ·rfl
 ·exact h.one.2 _ (by rw[h.cells];simp)
theorem sc_int:Sc prog 3:=⟨by kernel_rfl,by kernel_rfl,by kernel_rfl⟩
theorem a2C:Sc prog 34:=⟨by kernel_rfl,by kernel_rfl,by kernel_rfl⟩
theorem ar_2:Ar prog 100 3 2:=⟨by kernel_rfl,by kernel_rfl,by kernel_rfl,by kernel_rfl,sc_int⟩
theorem d4X:Ag prog 100 2:=⟨by kernel_rfl,by kernel_rfl,by kernel_rfl⟩
theorem z_2:a0G prog 100= .agg #[ii 0,ii 0]:=by kernel_rfl
theorem d6X:(a0G prog 100).cells= #[ii 0,ii 0]:=by rw[z_2];rfl
def bef (es:List (Nat×Nat)):Nat->Int×Int
 |0=>(-1,-1)
 |i+1=>match es[i]? with|some e=>(e.1,e.2)|none=>(-1,-1)
theorem d7e {a b c d:Int} (h:a<c\/a=c/\b<d):b9t [a,b] [c,d]<0:=by
 rcases h with h|⟨rfl,h⟩
 ·have e:b6e a c= -1:=if_pos h
  simp only[b9t,e];rw[if_pos (by decide)];decide
 ·have e:b6e a a=0:=by unfold b6e;rw[if_neg (by omega),if_neg (by omega)]
  have e2:b6e b d= -1:=if_pos h
  simp only[b9t,e,e2];rw[if_neg (by decide),if_pos (by decide)];decide
theorem d3p {n:Nat} {es:List (Nat×Nat)} (h:GV n es) {i:Nat} {a:Nat×Nat} (ha:es[i]? =some a):b9t [(bef es i).1,(bef es i).2] [(a.1:Int),(a.2:Int)]<0:=by
 apply d7e
 cases i with
 |zero=>exact .inl (by simp only[bef];omega)
 |succ i=>
  obtain⟨hi,_⟩:=List.getElem?_eq_some_iff.1 ha
  have hb:es[i]? =some es[i]:=List.getElem?_eq_getElem (by omega)
  have:=h.next hb ha
  simp only[bef,hb]
  rcases this with h1|⟨h1,h2⟩
  ·exact .inl (by omega)
  ·exact .inr ⟨by omega,by omega⟩
theorem d7f (ρ:List Value):D prog ρ (.put (.put (.z 100) 0 1 (.k (.int .i64 (-1))) 0 noI) 1 1 (.k (.int .i64 (-1))) 0 noI)= .agg #[ii (-1),ii (-1)]:=by
 show Value.agg (spl (Value.agg (spl (a0G prog 100).cells 0 [ii (-1)])).cells 1 [ii (-1)])=_
 rw[z_2];rfl
section
variable {H:PH} {n:Nat} {w:Value} {es:List (Nat×Nat)}
theorem a6R (hw:SG H w es) (hg:GV n es):a8O prog 52 [gv n w] H (ii 0):=by
 refine a0d a0r b9h (by kernel_rfl) rfl ?_
 have h1:=hg.n1
 have h2:=hg.n64
 have h3:=hg.len
 refine a0a (a1m hw) ?_
 refine a0a ⟨_,rfl⟩ ?_
 refine a0y (bF (p:=((n:Nat):Int)<1) (by omega)) ?_
 refine a0y (bF (p:=((n:Nat):Int)>64) (by omega)) ?_
 refine a0j el_edge rfl rfl hw rfl ?_
 refine a0a ⟨_,rfl⟩ ?_
 refine a0y (bF (p:=((es.length:Nat):Int)>200) (by omega)) ?_
 refine a2u (cs:= #[ii 0,ii 0]) d6X fun b hb=> ?_
 simp only[cA,nA]
 refine b1Y (vs:=[ii (-1),ii (-1)]) d4X rfl rfl rfl (PH.put_self _ _ _) rfl (by intro c hc;simp at hc;rcases hc with rfl|rfl<;>rfl) (a1s rfl (d7f _)) (fun h=>(nomatch h)) ?_
 simp only[cA,nA]
 have l1:=PH.le_put2 hb (.cells #[ii 0,ii 0] 100 (0,0)) (.cells #[ii (-1),ii (-1)] 100 (0,0))
 have b1:=PH.put_self (H.put b (.cells #[ii 0,ii 0] 100 (0,0))) b (.cells #[ii (-1),ii (-1)] 100 (0,0))
 generalize (H.put b (.cells #[ii 0,ii 0] 100 (0,0))).put b (.cells #[ii (-1),ii (-1)] 100 (0,0))=H1 at l1 b1
 refine a0j el_edge rfl rfl (hw.mono l1) rfl ?_
 refine a0n (α:=Nat×Int) (fun⟨i,p⟩=>[ii p,ii (i:Nat)]) (fun⟨i,p⟩=>fun H'=>i<=es.length/\PH.le H H'/\H' b=some (.cells #[ii (bef es i).1,ii (bef es i).2] 100 (0,0))) (fun⟨i,p⟩=>es.length-i) ((0,0)) rfl (⟨Nat.zero_le _,l1,b1⟩) fun⟨i,p⟩ H' hQ=> ?_
 simp only[cA,nA]
 obtain⟨hi,l2,b2⟩:=hQ
 refine a0a ⟨_,rfl⟩ ?_
 refine a0a ⟨_,rfl⟩ ?_
 refine a0e (b:=decide (((i:Nat):Int)<(es.length:Nat))) rfl (fun h=> ?_) (fun h=> ?_)
 ·replace h:=of_decide_eq_true h
  have hi':i<es.length:=by omega
  obtain⟨x,hx,hdx⟩:=a1j hi'
  obtain⟨hx1,hx2⟩:=hg.mem hx
  refine a0k el_edge rfl rfl rfl rfl (fun _=>rfl) (hw.mono l2) hx rfl (fun _=>rfl) fun _=> ?_
  simp only[cA,nA]
  refine a2u (cs:= #[ii 0,ii 0]) d6X fun c hc=> ?_
  simp only[cA,nA]
  refine b1Y (vs:=(ec x)) d4X rfl rfl rfl (PH.put_self _ _ _) rfl (el_edge.one x) rfl (fun h=>(nomatch h)) ?_
  simp only[cA,nA]
  have l3:=PH.le_put2 hc (.cells #[ii 0,ii 0] 100 (0,0)) (.cells (ec x).toArray 100 (0,0))
  have b3:=PH.put_self (H'.put c (.cells #[ii 0,ii 0] 100 (0,0))) c (.cells (ec x).toArray 100 (0,0))
  have hb2:=l3 _ _ b2
  generalize (H'.put c (.cells #[ii 0,ii 0] 100 (0,0))).put c (.cells (ec x).toArray 100 (0,0))=H2 at l3 b3 hb2
  refine a4g (m:=0) ar_2 rfl rfl rfl rfl rfl b3 (by decide) rfl rfl rfl ?_
  simp only[cA,nA]
  refine a0a ⟨_,rfl⟩ ?_
  refine a0y (bF (p:=((x.1:Nat):Int)<0) (by omega)) ?_
  refine a4g (m:=0) ar_2 rfl rfl rfl rfl rfl b3 (by decide) rfl rfl rfl ?_
  simp only[cA,nA]
  refine a4g (m:=1) ar_2 rfl rfl rfl rfl rfl b3 (by decide) rfl rfl rfl ?_
  simp only[cA,nA]
  refine a0a ⟨_,rfl⟩ ?_
  refine a0a ⟨_,rfl⟩ ?_
  refine a0y (bF (p:=((x.1:Nat):Int)≥(x.2:Nat)) (by omega)) ?_
  refine a4g (m:=1) ar_2 rfl rfl rfl rfl rfl b3 (by decide) rfl rfl rfl ?_
  simp only[cA,nA]
  refine a0a ⟨_,rfl⟩ ?_
  refine a0y (bF (p:=((x.2:Nat):Int)≥(n:Nat)) (by omega)) ?_
  refine a0i ((a3w rfl rfl ar_2.und sc_int.has).rds _) rfl ?_
  simp only[cA,nA]
  refine a0i ((a3w rfl rfl ar_2.und sc_int.has).rds _) rfl ?_
  simp only[cA,nA]
  refine a1e (c4J (l:=[(bef es i).1,(bef es i).2]) (m:=[(x.1:Int),(x.2:Int)]) (b3g hb2 rfl rfl (show 2<=maxLen by decide)) (b3g b3 rfl rfl (show 2<=maxLen by decide))) rfl ?_
  simp only[cA,nA]
  have hlt:=d3p hg hx
  refine a0a ⟨_,rfl⟩ ?_
  refine a0y (bF (p:=b9t [(bef es i).1,(bef es i).2] [(x.1:Int),(x.2:Int)]≥0) (by omega)) ?_
  refine b7s (vs:=ec x) d4X rfl rfl b3 rfl (by simp) rfl ?_
  simp only[cA,nA]
  refine b1Y (vs:=(ec x)) d4X rfl rfl rfl hb2 rfl (el_edge.one x) rfl (fun h=>(nomatch h)) ?_
  simp only[cA,nA]
  exact⟨(i+1,p),by show es.length-(i+1)<es.length-i;omega,(a1s rfl (a0x rfl (by omega))),⟨by show i+1<=_;omega,PH.le_put_of (l2.trans l3) hb,by simp only[bef,hx];exact PH.put_self _ _ _⟩⟩
 ·replace h:=of_decide_eq_false h
  exact a0f rfl ⟨l2,rfl⟩
end
end Go.Proofs.YtkcjbfoejpfbbaaGreatDoor
/- Chapter 32: graphs, part 2. -/
namespace Go.Proofs.YtkcjbfoejpfbbaaGreatDoor
open Go.Proofs.Tryz
open Go.RowKit Go.RX Go.GS
theorem d5U:a0G prog 34=uv 0:=by kernel_rfl
theorem c9B:a0G prog 3=ii 0:=by kernel_rfl
theorem a9k {l:List Int} {x y:Int}:(l++[x]).contains y=(l.contains y||(y==x)):=by
 rw[Bool.eq_iff_iff];simp[List.contains_iff_mem]
theorem take_snoc {α:Type} {l:List α} {i:Nat} {x:α} (h:l[i]? =some x):l.take (i+1)=l.take i++[x]:=by rw[List.take_add_one,h];rfl
section
variable {H:PH} {n:Nat} {w:Value} {es:List (Nat×Nat)}
theorem c9C (hw:SG H w es) (hg:GV n es):Con prog 171 [gv n w] H fun u H'=>PH.le H H'/\SO H H' 34 1 (fun s:Nat=>[uv s]) u (nbs n es):=by
 refine a0d a0r c6S (by kernel_rfl) rfl ?_
 have h1:=hg.n1
 have h2:=hg.n64
 have h3:=hg.len
 have hlt:∀i x,nb (es.take i) x<M64:=fun i x=>d2d (fun e he=>hg.ed e (List.mem_of_mem_take he)) h2 x
 refine a0a (a1m hw) ?_
 refine a6q el_u64 (z:=(0:Nat)) d5U rfl rfl rfl (by omega) rfl fun v H1 l1 o1 _=> ?_
 simp only[cA,nA]
 rw[<-c7T]at o1
 refine a0j el_edge rfl rfl (hw.mono l1) rfl ?_
 refine a0n (α:=Nat) (fun i=>[ii (i:Nat)]) (fun i=>fun H'=>i<=es.length/\PH.le H H'/\SO H H' 34 1 (fun s:Nat=>[uv s]) v (nbs n (es.take i))) (fun i=>es.length-i) (0) rfl (⟨Nat.zero_le _,l1,o1⟩) fun i H' hQ=> ?_
 simp only[cA,nA]
 obtain⟨hi,l2,o2⟩:=hQ
 refine a0a ⟨_,rfl⟩ ?_
 refine a0a ⟨_,rfl⟩ ?_
 refine a0e (b:=decide (((i:Nat):Int)<(es.length:Nat))) rfl (fun h=> ?_) (fun h=> ?_)
 ·replace h:=of_decide_eq_true h
  have hi':i<es.length:=by omega
  obtain⟨x,hx,hdx⟩:=a1j hi'
  obtain⟨hx1,hx2⟩:=hg.mem hx
  refine a0k el_edge rfl rfl rfl rfl (fun _=>rfl) (hw.mono l2) hx rfl (fun _=>rfl) fun _=> ?_
  simp only[cA,nA]
  refine a0a (el_edge.vcells x) ?_
  refine a0k el_u64 rfl rfl rfl rfl (fun _=>rfl) o2.se (b0h _ (show x.1<n by omega)) rfl (fun _=>rfl) fun _=> ?_
  simp only[cA,nA]
  refine a0a ⟨_,_,rfl⟩ ?_
  refine a0a (by show(0:Int)<=((x.2:Nat):Int);omega) ?_
  refine a0a ⟨_,rfl⟩ ?_
  refine a1q el_u64 (a:=nb (es.take i) x.1|||2^x.2) rfl rfl rfl rfl (fun _=>rfl) (fun _=>rfl) l2 o2 (by rw[a4O];omega) rfl (fun _=>a1s rfl (a9y rfl (a4N rfl (by omega)) (hlt _ _) (a0N (by omega)))) rfl fun p u H2 l3 o3 _=> ?_
  simp only[cA,nA]
  refine a0k el_u64 rfl rfl rfl rfl (fun _=>rfl) o3.se (show _=some (nb (es.take i) x.2) by rw[List.getElem?_set_ne (by omega),b0h _ (by omega)]) rfl (fun _=>rfl) fun _=> ?_
  simp only[cA,nA]
  refine a0a ⟨_,_,rfl⟩ ?_
  refine a0a (by show(0:Int)<=((x.1:Nat):Int);omega) ?_
  refine a0a ⟨_,rfl⟩ ?_
  refine a1q el_u64 (a:=nb (es.take i) x.2|||2^x.1) rfl rfl rfl rfl (fun _=>rfl) (fun _=>rfl) l3 o3 (by rw[List.length_set,a4O];omega) rfl (fun _=>a1s rfl (a9y rfl (a4N rfl (by omega)) (hlt _ _) (a0N (by omega)))) rfl fun p2 u2 H3 l4 o4 _=> ?_
  simp only[cA,nA]
  rw[c3G n _ x hx1,<-take_snoc hx]at o4
  exact⟨i+1,by omega,(a5E (a0x rfl (by omega))),⟨by omega,l4,o4⟩⟩
 ·replace h:=of_decide_eq_false h
  rw[List.take_of_length_le (by omega)]at o2
  exact a0f rfl ⟨l2,o2⟩
theorem b0P:a7q prog 220=true:=by kernel_rfl
def a5M (b s:Nat):PH:=PH.nil.put b (.cells #[uv s] 34 (0,0))
theorem c4K {s:Nat}:Con prog 172 [uv s] H fun u H'=>∃b,H b=none/\H'=H.or (a5M b s)/\u= .func (.func 220) #[] #[.pointer (some ⟨b,0,none⟩)]:=by
 refine a0d a0r b9l (by kernel_rfl) rfl ?_
 refine a0a (el_u64.vcells s) ?_
 refine a2u (cs:= #[uv s]) rfl fun b hb=> ?_
 simp only[cA,nA]
 refine a6u (a2k (vs:=[.pointer (some ⟨b,0,none⟩)]) rfl rfl) rfl ?_
 simp only[cA,nA]
 exact a0f rfl ⟨b,hb,PH.put_or hb,rfl⟩
theorem bN (a b:Int):Value.bool (a !=b)= .bool (decide (a≠b)):=by
 by_cases h:a=b<;>simp[h]
theorem bE (a b:Int):Value.bool (a==b)= .bool (decide (a=b)):=by
 by_cases h:a=b<;>simp[h]
theorem bN0 (s:Nat):Value.bool (((s:Nat):Int) !=0)= .bool (decide (s≠0)):=by
 rw[bN];congr 1;apply decide_eq_decide.2;omega
theorem bE0 (s:Nat):Value.bool (((s:Nat):Int)==0)= .bool (decide (s=0)):=by
 rw[bE];congr 1;apply decide_eq_decide.2;omega
theorem a4w (b s:Nat):a5M b s b=some (.cells #[uv s] 34 (0,0)):=PH.put_self _ _ _
theorem c4L {X:PH} {b s t:Nat} (h:X b=none):(X.or (a5M b s)).put b (.cells #[uv t] 34 (0,0))=X.or (a5M b t):=by
 rw[PH.or_put h];unfold a5M;rw[PH.put_put]
theorem b0Q {X:PH} {b:Nat} (s:Nat) (h:X b=none):Disj X (a5M b s):=a8N (b3e X) h
theorem b9u {X:PH} {b s:Nat} (h:Disj X (a5M b s)):X b=none:=Disj.none h (b:=b) (by rw[a4w];exact fun h=>nomatch h)
abbrev nxs (s:Nat):List (List Value):=(els s).map fun x:Nat=>[ii (x:Int)]
theorem b0R {b s:Nat} {Ro:PH} (hs:s<M64) (hT:Tb Ro):ItC prog 220 [.pointer (some ⟨b,0,none⟩)] Ro (a5M b s) (fun pre xs=>∃x,(els s)[pre.length]? =some x/\xs=[ii (x:Nat)]/\pre=((els s).take pre.length).map fun x:Nat=>[ii (x:Int)]) (fun xs _=>xs=nxs s) (fun _ _=>True):=by
 intro l J Jx hRo hr X hX hd w hw
 refine(a0d (H:=X.or (a5M b s)) (V:=fun _ H'=>∃X' K',PH.le (X'.or K') H'/\Disj X' K'/\((∃xs,xs=nxs s/\J xs X')\/(∃pre,True/\Jx pre X'))) a0r b4f (by kernel_rfl) rfl ?_ w hw).mono fun e w' ⟨v,H',he,hst,hV⟩=>⟨v,H',he,hst,hV⟩
 refine a0n (α:=Nat×Nat×PH) (fun⟨k,s',X'⟩=>[]) (fun⟨k,s',X'⟩=>fun H'=>k<=(els s).length/\s'<M64/\els s'=(els s).drop k/\H'=X'.or (a5M b s')/\J (((els s).take k).map fun x:Nat=>[ii (x:Int)]) X'/\Disj X' (a5M b s')) (fun⟨k,s',X'⟩=>(els s).length-k) ((0,s,X)) rfl (⟨Nat.zero_le _,hs,rfl,rfl,hX,hd⟩) fun⟨k,s',X'⟩ H' hQ=> ?_
 simp only[cA,nA]
 obtain⟨hk,hs',he,rfl,hJ,hd'⟩:=hQ
 have hb:=PH.or_right hd' (a4w b s')
 refine a0C a2C rfl rfl hb rfl rfl ?_
 simp only[cA,nA]
 refine a0a ⟨_,rfl⟩ ?_
 refine a0e (b:=decide (s'≠0)) (bN0 s') (fun h=> ?_) (fun h=> ?_)
 ·replace h:=of_decide_eq_true h
  refine a0C a2C rfl rfl hb rfl rfl ?_
  simp only[cA,nA]
  obtain⟨x,r,hel⟩:∃x r,els s'=x::r:=by
   cases hel:els s' with
   |nil=>exact absurd (a4M hs' hel) h
   |cons x r=>exact⟨x,r,rfl⟩
  have htz:tz s'=x:=by simp[tz,hel]
  have hk':k<(els s).length:=by
   apply Nat.lt_of_not_le;intro hh
   rw[List.drop_eq_nil_of_le hh,hel]at he;cases he
  obtain⟨y,hy,hdy⟩:=a1j hk'
  rw[<-he,hel]at hdy
  obtain⟨rfl,hr'⟩:=List.cons.inj hdy
  refine a1e (b0O ((hT.mono (hRo _ _ hJ)).mono (PH.le_or _ _)) hs') rfl ?_
  simp only[cA,nA]
  rw[htz]
  refine a6t (hr _ [ii (x:Nat)] X' (a5M b s') ⟨x,by simp[Nat.min_eq_left hk,hy],rfl,by simp[Nat.min_eq_left hk]⟩ hJ hd') rfl rfl rfl rfl rfl fun v X2 hd2 hV=> ?_
  simp only[cA,nA]
  obtain⟨bb,rfl,hb1,hb2⟩:∃bb,v= .bool bb/\(bb=true->J ((((els s).take k).map fun x:Nat=>[ii (x:Int)])++[[ii (x:Nat)]]) X2)/\(bb=false->Jx ((((els s).take k).map fun x:Nat=>[ii (x:Int)])++[[ii (x:Nat)]]) X2):=by
   rcases hV with⟨rfl,h⟩|⟨rfl,h⟩
   ·exact⟨true,rfl,fun _=>h,(fun h=>nomatch h)⟩
   ·exact⟨false,rfl,(fun h=>nomatch h),fun _=>h⟩
  refine a0a ⟨_,rfl⟩ ?_
  refine a0e (b:= !bb) rfl (fun hbb=> ?_) (fun hbb=> ?_)
  ·skip
   exact a0f rfl ⟨X2,a5M b s',PH.le.refl _,hd2,.inr ⟨_,trivial,hb2 (by simpa using hbb)⟩⟩
  ·skip
   have hn2:=b9u hd2
   have hb2:=PH.or_right hd2 (a4w b s')
   refine a0C a2C rfl rfl hb2 rfl rfl ?_
   simp only[cA,nA]
   refine a0C a2C rfl rfl hb2 rfl rfl ?_
   simp only[cA,nA]
   refine a0a ⟨_,rfl⟩ ?_
   refine a0a ⟨_,rfl⟩ ?_
   refine b1X a2C rfl rfl rfl hb2 (by simp) rfl rfl (a1s rfl (a3T rfl (b0f (B:=1) rfl rfl hs' (by omega)) hs' (Nat.lt_of_le_of_lt (Nat.sub_le _ _) hs'))) (fun h=>(nomatch h)) ?_
   simp only[cA,nA]
   exact⟨(k+1,s'&&&(s'-1),X2),by show(els s).length-(k+1)<(els s).length-k;omega,rfl,⟨hk',b3j hs',by rw[b3l hs' hel,hr'],c4L hn2,by rw[take_snoc hy,List.map_append];exact hb1 (by simpa using hbb),b0Q _ hn2⟩⟩
 ·replace h:=of_decide_eq_false h
  have h0:s'=0:=by omega
  rw[h0,a8P]at he
  have hk2:(els s).length<=k:=by
   apply Nat.le_of_not_lt;intro hh
   rw[List.drop_eq_getElem_cons hh]at he;cases he
  rw[List.take_of_length_le hk2]at hJ
  exact a0f rfl ⟨X',a5M b s',PH.le.refl _,hd',.inl ⟨_,rfl,hJ⟩⟩
end
end Go.Proofs.YtkcjbfoejpfbbaaGreatDoor

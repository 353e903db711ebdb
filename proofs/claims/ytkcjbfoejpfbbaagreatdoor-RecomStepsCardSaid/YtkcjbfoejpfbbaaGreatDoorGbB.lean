/- Chapter 32: the reference of graphs and plans. -/
import Derived.Test.YtkcjbfoejpfbbaaGreatDoorGaH
import Derived.Test.YtkcjbfoejpfbbaaGreatDoorGsO
import Derived.Test.YtkcjbfoejpfbbaaGreatDoorGrT
import Derived.Test.YtkcjbfoejpfbbaaGreatDoorGlT
namespace Go.Proofs.YtkcjbfoejpfbbaaGreatDoor
open Go.Proofs.Tryz
open Go.RowKit Go.RX Go.GS
section
variable {G:Value->PH->Prop} {nx:List (List Value->PH->Prop)} {ρ:List Value} {H:PH} {o1 o2 o3:Oper} {x y x2 x3:Operand} {id i id2 i2 id3 i3:Nat} {args args2 args3:List SV} {t:Tree} {v:Value} {k:IntKind} {j:Nat} {es:List (Nat×Nat)} {e:Nat×Nat}
theorem c1M {m:Nat} {c:Value} (hm:m<2) (hc:(ec e)[m]? =some c) (ho1:o1.op= .indexAddr 36 x y) (ho2:o2.op= .indexAddr 100 x2 (.const (.int .i64 (m:Nat)))) (ho3:o3.op= .load 3 x3) (hx:a0h [x,y] [v,.int k (j:Nat)] x=v) (hy:a0h [x,y] [v,.int k (j:Nat)] y= .int k (j:Nat))
  (hx2:∀p,a0h [x2,.const (.int .i64 (m:Nat))] [p,.int .i64 (m:Nat)] x2=p) (hx2':∀p,a0h [x2,.const (.int .i64 (m:Nat))] [p,.int .i64 (m:Nat)] (.const (.int .i64 (m:Nat)))= .int .i64 (m:Nat)) (hx3:∀p,a0h [x3] [p] x3=p) (h:SG H v es) (hj:es[j]? =some e) (ha:args.map (D prog ρ)=[v,.int k (j:Nat)]) (ha2:∀p,args2.map (D prog (ρ++[p]))=[p,.int .i64 (m:Nat)]) (ha3:∀p p',args3.map (D prog (ρ++[p]++[p']))=[p'])
  (n:∀p p',den prog G t nx (ρ++[p]++[p']++[c]) H):den prog G (.prim id i o1 args (.prim id2 i2 o2 args2 (.prim id3 i3 o3 args3 t))) nx ρ H:=by
 refine b2D el_edge ho1 hx hy h hj ha fun p hp=> ?_
 obtain⟨b,q,cs,T',fz,rfl,h2,h3,h4⟩:=hp
 have hl:(ec e).length=2:=rfl
 have hi:=(a3J (P:=prog) (len:=2) (e:=3) (b:=b) (q:=q) ho2 (hx2 _) (hx2' _) ar_2.und sc_int.has (by omega) (by omega)).rds H
 rw[sc_int.cel,Int.toNat_natCast,Nat.mul_one]at hi
 refine a0u hi (ha2 _) ?_
 refine a0D sc_int ho3 (hx3 _) h2 ?_ (ha3 _ _) (n _ _)
 rw[<-Array.getElem?_toList]
 rw[<-h4,List.getElem?_take_of_lt (by rw[hl];exact hm),List.getElem?_drop]at hc
 exact hc
theorem a2A (ho1:o1.op= .indexAddr 36 x y) (ho2:o2.op= .indexAddr 100 x2 (.const (.int .i64 0))) (ho3:o3.op= .load 3 x3) (hx:a0h [x,y] [v,.int k (j:Nat)] x=v) (hy:a0h [x,y] [v,.int k (j:Nat)] y= .int k (j:Nat))
  (hx2:∀p,a0h [x2,.const (.int .i64 0)] [p,.int .i64 0] x2=p) (hx2':∀p,a0h [x2,.const (.int .i64 0)] [p,.int .i64 0] (.const (.int .i64 0))= .int .i64 0) (hx3:∀p,a0h [x3] [p] x3=p) (h:SG H v es) (hj:es[j]? =some e) (ha:args.map (D prog ρ)=[v,.int k (j:Nat)]) (ha2:∀p,args2.map (D prog (ρ++[p]))=[p,.int .i64 0]) (ha3:∀p p',args3.map (D prog (ρ++[p]++[p']))=[p'])
  (n:∀p p',den prog G t nx (ρ++[p]++[p']++[ii (e.1:Nat)]) H):den prog G (.prim id i o1 args (.prim id2 i2 o2 args2 (.prim id3 i3 o3 args3 t))) nx ρ H:=
 c1M (m:=0) (by decide) rfl ho1 ho2 ho3 hx hy hx2 hx2' hx3 h hj ha ha2 ha3 n
theorem a2U (ho1:o1.op= .indexAddr 36 x y) (ho2:o2.op= .indexAddr 100 x2 (.const (.int .i64 1))) (ho3:o3.op= .load 3 x3) (hx:a0h [x,y] [v,.int k (j:Nat)] x=v) (hy:a0h [x,y] [v,.int k (j:Nat)] y= .int k (j:Nat))
  (hx2:∀p,a0h [x2,.const (.int .i64 1)] [p,.int .i64 1] x2=p) (hx2':∀p,a0h [x2,.const (.int .i64 1)] [p,.int .i64 1] (.const (.int .i64 1))= .int .i64 1) (hx3:∀p,a0h [x3] [p] x3=p) (h:SG H v es) (hj:es[j]? =some e) (ha:args.map (D prog ρ)=[v,.int k (j:Nat)]) (ha2:∀p,args2.map (D prog (ρ++[p]))=[p,.int .i64 1]) (ha3:∀p p',args3.map (D prog (ρ++[p]++[p']))=[p'])
  (n:∀p p',den prog G t nx (ρ++[p]++[p']++[ii (e.2:Nat)]) H):den prog G (.prim id i o1 args (.prim id2 i2 o2 args2 (.prim id3 i3 o3 args3 t))) nx ρ H:=
 c1M (m:=1) (by decide) rfl ho1 ho2 ho3 hx hy hx2 hx2' hx3 h hj ha ha2 ha3 n
end
theorem a0y {s n:Nat} (hs:s<M64) (hn:n<=64):Det prog 59 [uv s,ii (n:Nat)] (.bool (bit s n)):=by
 have e:=b3a (P:=prog) (ρ:=[uv s,ii (n:Nat)]) (a:= .v 1) (n:=n) rfl (Nat.lt_of_le_of_lt hn (by decide))
 refine a1e a0n c1g (by kernel_rfl) rfl (a0Q ⟨_,rfl⟩ (a0Q ⟨_,rfl⟩ (a0Q ?_ (a2q ?_ rfl))))
 ·show 0<=intOf (D prog [uv s,ii (n:Nat)] (.cv .u64 (.v 1)))
  rw[e];exact Int.natCast_nonneg n
 ·exact b6h rfl hs e hn
theorem a1j {n:Nat} (hn:n<64):Det prog 45 [ii (n:Nat)] (uv (2^n)):=by
 have e:=b3a (P:=prog) (ρ:=[ii (n:Nat)]) (a:= .v 0) (n:=n) rfl (Nat.lt_trans hn (by decide))
 refine a1e a0n c1h (by kernel_rfl) rfl (a0Q ⟨_,rfl⟩ (a0Q ?_ (a2q ?_ rfl)))
 ·show 0<=intOf (D prog [ii (n:Nat)] (.cv .u64 (.v 0)))
  rw[e];exact Int.natCast_nonneg n
 ·exact a2R e hn
section
variable {H:PH} {u v w wts:Value} {p wl:List Int} {n:Nat} {es:List (Nat×Nat)} {lo hi ds:Int} {set x:Nat}
theorem a8r (hs:set<M64):Asks prog 58 [uv set] H (ii (card set)):=by
 refine a0j a0n c1i ?_
 refine a0A (α:=Nat) (fun i=>[ii ((((List.range i).filter (bit set)).length:Nat)),ii (i:Nat)]) (fun i=>i<=64) (fun i=>64-i) (0) rfl (Nat.zero_le _) fun i hQ=> ?_
 refine a0a ?_
 refine a0e (b:=decide (((i:Nat):Int)<64)) rfl (fun h=> ?_) (fun h=> ?_)
 ·replace h:=of_decide_eq_true h
  refine a0x (a0y hs (by omega)) rfl ?_
  have hle:=List.length_filter_le (bit set) (List.range i)
  rw[List.length_range]at hle
  refine a0a ?_
  refine a0e (b:=bit set i) rfl (fun h2=> ?_) (fun h2=> ?_)
  ·skip
   refine a0a ?_
   exact⟨i+1,by omega,(a0F (by rw[a0k rfl (by omega),List.range_succ,List.filter_append,List.length_append,List.filter_cons,if_pos h2];rfl) (a0k rfl (by omega))),⟨by omega,rfl⟩⟩
  ·skip
   exact⟨i+1,by omega,(a0F (by rw[List.range_succ,List.filter_append,List.length_append,List.filter_cons,if_neg (by simp[h2])];rfl) (a0k rfl (by omega))),⟨by omega,rfl⟩⟩
 ·replace h:=of_decide_eq_false h
  have he:i=64:=by omega
  subst he
  exact a0b rfl ⟨rfl,rfl⟩
theorem a3P (hw:SG H w es) (hg:GV n es):Asks prog 25 [gv n w] H (ii 0):=by
 refine a0j a0n c1f ?_
 have h1:=hg.n1
 have h2:=hg.n64
 have h3:=hg.len
 refine a0c (a0G hw) ?_
 refine a0a ?_
 refine a0l (bF (p:=((n:Nat):Int)<1) (by omega)) ?_
 refine a0l (bF (p:=((n:Nat):Int)>64) (by omega)) ?_
 refine a0p el_edge hw ?_
 refine a0a ?_
 refine a0l (bF (p:=((es.length:Nat):Int)>200) (by omega)) ?_
 refine a0A (α:=Nat×Int) (fun⟨i,z⟩=>[ii z,ii (i:Nat)]) (fun⟨i,z⟩=>i<=es.length) (fun⟨i,z⟩=>es.length-i) ((0,0)) rfl (Nat.zero_le _) fun⟨i,z⟩ hQ=> ?_
 simp only[cA,nA]
 refine a0p el_edge hw ?_
 refine a0a ?_
 refine a0a ?_
 refine a0e (b:=decide (((i:Nat):Int)<(es.length:Nat))) rfl (fun h=> ?_) (fun h=> ?_)
 ·replace h:=of_decide_eq_true h
  have hi':i<es.length:=by omega
  obtain⟨x,hx,hdx⟩:=a0q hi'
  obtain⟨hx1,hx2⟩:=hg.mem hx
  refine a2A rfl rfl rfl rfl rfl (fun _=>rfl) (fun _=>rfl) (fun _=>rfl) hw hx rfl (fun _=>rfl) (fun _ _=>rfl) fun _ _=> ?_
  simp only[cA,nA]
  refine a2U rfl rfl rfl rfl rfl (fun _=>rfl) (fun _=>rfl) (fun _=>rfl) hw hx rfl (fun _=>rfl) (fun _ _=>rfl) fun _ _=> ?_
  simp only[cA,nA]
  refine a0a ?_
  refine a0l (bF (p:=((x.1:Nat):Int)<0) (by omega)) ?_
  refine a0a ?_
  refine a0l (bF (p:=((x.1:Nat):Int)≥(x.2:Nat)) (by omega)) ?_
  refine a0l (bF (p:=((x.2:Nat):Int)≥(n:Nat)) (by omega)) ?_
  refine a0e (b:=decide (((i:Nat):Int)>0)) rfl (fun h5=> ?_) (fun h5=> ?_)
  ·replace h5:=of_decide_eq_true h5
   obtain⟨m,rfl⟩:∃m,i=m+1:=⟨i-1,by omega⟩
   have hpm:es[m]? =some es[m]:=List.getElem?_eq_getElem (by omega)
   have hlt:=hg.next hpm hx
   have hm1:∀ρ,D prog ρ (.v 3)=ii ((m+1:Nat):Int)->D prog ρ (.op2 .sub .i64 (.v 3) (.k (.int .i64 1)))=ii (m:Nat):=fun ρ hρ=>by rw[a3s (y:=1) hρ rfl (by omega) (by omega)];congr 1;omega
   refine a2A rfl rfl rfl rfl rfl (fun _=>rfl) (fun _=>rfl) (fun _=>rfl) hw hpm (a0F rfl (hm1 _ rfl)) (fun _=>rfl) (fun _ _=>rfl) fun _ _=> ?_
   simp only[cA,nA]
   refine a0a ?_
   refine a0l (bF (p:=((es[m].1:Nat):Int)>(x.1:Nat)) ((by rcases hlt with h|h<;>omega))) ?_
   refine a2A rfl rfl rfl rfl rfl (fun _=>rfl) (fun _=>rfl) (fun _=>rfl) hw hpm (a0F rfl (hm1 _ rfl)) (fun _=>rfl) (fun _ _=>rfl) fun _ _=> ?_
   simp only[cA,nA]
   refine a0a ?_
   refine a0o (p:=(es[m].1=x.1)) (by show Value.bool (((es[m].1:Nat):Int)==((x.1:Nat):Int))=_;rw[bE];congr 1;apply decide_eq_decide.2;omega) (fun h6=> ?_) fun h6=> ?_
   ·refine a2U rfl rfl rfl rfl rfl (fun _=>rfl) (fun _=>rfl) (fun _=>rfl) hw hpm (a0F rfl (hm1 _ rfl)) (fun _=>rfl) (fun _ _=>rfl) fun _ _=> ?_
    simp only[cA,nA]
    refine a0a ?_
    refine a0l (bF (p:=((es[m].2:Nat):Int)≥(x.2:Nat)) ((by rcases hlt with h|h<;>omega))) ?_
    exact⟨(m+1+1,z),by show es.length-(m+1+1)<es.length-(m+1);omega,(a0F rfl (a0k rfl (by omega))),⟨hi',rfl⟩⟩
   ·exact⟨(m+1+1,z),by show es.length-(m+1+1)<es.length-(m+1);omega,(a0F rfl (a0k rfl (by omega))),⟨hi',rfl⟩⟩
  ·replace h5:=of_decide_eq_false h5
   exact⟨(i+1,z),by show es.length-(i+1)<es.length-i;omega,(a0F rfl (a0k rfl (by omega))),⟨hi',rfl⟩⟩
 ·replace h:=of_decide_eq_false h
  exact a0b rfl ⟨rfl,rfl⟩
theorem a8s (hw:SG H w es) (hg:GV n es) (hs:set<M64):Asks prog 118 [gv n w,uv set] H (ii (if set<2^n then 0 else 2)):=by
 refine a0j a0n c1j ?_
 have h64:=hg.n64
 refine a0c (a0G hw) ?_
 refine a0s (a3P hw hg) rfl ?_
 simp only[cA,nA]
 refine a0a ?_
 refine a0l (bF (p:=(0:Int)≠0) (by simp)) ?_
 refine a0a ?_
 refine a0e (b:=decide (((n:Nat):Int)<64)) rfl (fun h=> ?_) (fun h=> ?_)
 ·replace h:=of_decide_eq_true h
  have e:=fun(ρ:List Value) (h:D prog ρ (.cell (.v 0) 0 0 noI)=ii (n:Nat))=>b3a (P:=prog) (ρ:=ρ) (a:= .cell (.v 0) 0 0 noI) (n:=n) h (Nat.lt_of_le_of_lt h64 (by decide))
  refine a0a ?_
  refine a0c (by show 0<=intOf (D prog _ (.cv .u64 (.cell (.v 0) 0 0 noI)));rw[e _ rfl];exact Int.natCast_nonneg n) ?_
  refine a0o (p:=(¬set<2^n)) (by show Value.bool (intOf (D prog _ (.op2 .shr .u64 (.v 1) (.cv .u64 (.cell (.v 0) 0 0 noI)))) !=0)=_;rw[a3c rfl (e _ rfl) h64];show Value.bool (((set/2^n:Nat):Int) !=0)=_;rw[bN0];congr 1;apply decide_eq_decide.2;rw[ne_eq,Nat.div_eq_zero_iff];have:=Nat.two_pow_pos n;exact⟨fun hh hh2=>hh (.inr hh2),fun hh hh2=>hh2.elim (fun h=>by omega) hh⟩) (fun h2=> ?_) fun h2=> ?_
  ·exact a0b rfl ⟨rfl,by rw[if_neg h2];rfl⟩
  ·exact a0b rfl ⟨rfl,by rw[if_pos (Classical.byContradiction h2)];rfl⟩
 ·replace h:=of_decide_eq_false h
  have hn:n=64:=by omega
  exact a0b rfl ⟨rfl,by rw[if_pos (by rw[hn];exact hs)];rfl⟩
end
end Go.Proofs.YtkcjbfoejpfbbaaGreatDoor
/- Chapter 32: the reference of graphs and plans, part 2. -/
namespace Go.GS
theorem a9O (set:Nat) (L:List (Nat×Nat)) (e:Nat×Nat) (s:Nat):rnd set (L++[e]) s=rst set (rnd set L s) e:=by
 unfold rnd;rw[List.foldl_append];rfl
theorem c1N {set s:Nat} {e:Nat×Nat} (h1:bit set e.1=true) (h2:bit set e.2=true) (h3:bit s e.1=true\/bit s e.2=true):rst set s e=s|||2^e.1|||2^e.2:=by
 unfold rst;rw[if_pos (by rcases h3 with h3|h3<;>simp[h1,h2,h3])]
theorem c1O {set s:Nat} {e:Nat×Nat} (h:bit set e.1=false\/bit set e.2=false\/(bit s e.1=false/\bit s e.2=false)):rst set s e=s:=by
 unfold rst;rw[if_neg]
 rcases h with h|h|h<;>simp[h]
theorem GV.e64 {n:Nat} {es:List (Nat×Nat)} (h:GV n es):∀e∈es,e.1<64/\e.2<64:=fun e he=>by
 have:=h.ed e he;have:=h.n64;omega
theorem d4k {n:Nat} {es:List (Nat×Nat)} (h:GV n es) {set x:Nat} (hx:bit set x=true) (h64:x<64):CL es set x (a2I set es es.length (2^x)):=
 b8G hx (a2f h.e64 (a0R h64) _).1 (c5R _ _ _)
theorem d7b {s n:Nat} (hs:s<2^n) (hn:n<=64):(List.range n).filter (bit s)=els s:=by
 unfold els
 have h1:(64:Nat)=n+(64-n):=by omega
 rw[h1,List.range_add,List.filter_append]
 have:((List.range (64-n)).map (n+ ·)).filter (bit s)=[]:=by
  rw[List.filter_eq_nil_iff]
  intro a ha
  rw[List.mem_map]at ha
  obtain⟨b,_,rfl⟩:=ha
  have:=Nat.testBit_lt_two_pow (Nat.lt_of_lt_of_le hs (Nat.pow_le_pow_right (n:=2) (by decide) (Nat.le_add_right n b)))
  unfold bit;rw[this];simp
 rw[this,List.append_nil]
end Go.GS
namespace Go.Proofs.YtkcjbfoejpfbbaaGreatDoor
open Go.Proofs.Tryz
open Go.RowKit Go.RX Go.GS
section
variable {H:PH} {u v w wts:Value} {p wl:List Int} {n:Nat} {es:List (Nat×Nat)} {lo hi ds:Int} {set x:Nat}
theorem b6s (hw:SG H w es) (hg:GV n es) (hs:set<M64) (hx:x<64):Asks prog 174 [gv n w,uv set,ii (x:Nat),ii (-1)] H (uv (a2I set es es.length (2^x))):=by
 refine a0j a0n c1k ?_
 have h64:=hg.n64
 have hes:=hg.len
 refine a0c (a0G hw) ?_
 refine a0x (a1j hx) rfl ?_
 simp only[cA,nA]
 refine a0p el_edge hw ?_
 refine a0A (α:=Nat) (fun r=>[uv (a2I set es r (2^x)),ii (r:Nat)]) (fun r=>r<=es.length) (fun r=>es.length-r) (0) rfl (Nat.zero_le _) fun r hQ=> ?_
 simp only[cA,nA]
 refine a0a ?_
 refine a0a ?_
 refine a0e (b:=decide (((r:Nat):Int)<(es.length:Nat))) rfl (fun h=> ?_) (fun h=> ?_)
 ·replace h:=of_decide_eq_true h
  have hS:=(a2f (set:=set) hg.e64 (a0R hx) r).1
  generalize hSe:a2I set es r (2^x)=S at hS
  refine a0A (α:=Nat) (fun j=>[uv (rnd set (es.take j) S),ii (j:Nat)]) (fun j=>j<=es.length) (fun j=>es.length-j) (0) rfl (Nat.zero_le _) fun j hQ2=> ?_
  simp only[cA,nA]
  refine a0p el_edge hw ?_
  refine a0a ?_
  refine a0a ?_
  refine a0e (b:=decide (((j:Nat):Int)<(es.length:Nat))) rfl (fun h2=> ?_) (fun h2=> ?_)
  ·replace h2:=of_decide_eq_true h2
   have hj':j<es.length:=by omega
   obtain⟨e,he,hde⟩:=a0q hj'
   obtain⟨he1,he2⟩:=hg.mem he
   have hR:=b1a (set:=set) (L:=es.take j) (fun a ha=>hg.e64 a (List.mem_of_mem_take ha)) hS
   have hst:rnd set (es.take (j+1)) S=rst set (rnd set (es.take j) S) e:=by rw[take_snoc he,a9O]
   generalize rnd set (es.take j) S=R at hR hst
   refine a2A rfl rfl rfl rfl rfl (fun _=>rfl) (fun _=>rfl) (fun _=>rfl) hw he rfl (fun _=>rfl) (fun _ _=>rfl) fun _ _=> ?_
   simp only[cA,nA]
   refine a2U rfl rfl rfl rfl rfl (fun _=>rfl) (fun _=>rfl) (fun _=>rfl) hw he rfl (fun _=>rfl) (fun _ _=>rfl) fun _ _=> ?_
   simp only[cA,nA]
   refine a0a ?_
   refine a4D (by show Value.bool (((j:Nat):Int) != -1)=_;exact(bN _ _).trans (congrArg Value.bool (decide_eq_true (by omega)))) ?_
   refine a0x (a0y hs (by omega)) rfl ?_
   simp only[cA,nA]
   refine a0a ?_
   refine a0e (b:=bit set e.1) rfl (fun b1=> ?_) (fun b1=> ?_)
   ·skip
    refine a0x (a0y hs (by omega)) rfl ?_
    simp only[cA,nA]
    refine a0a ?_
    refine a0e (b:=bit set e.2) rfl (fun b2=> ?_) (fun b2=> ?_)
    ·skip
     refine a0x (a0y hR (by omega)) rfl ?_
     simp only[cA,nA]
     refine a0a ?_
     refine a0e (b:=bit R e.1) rfl (fun b3=> ?_) (fun b3=> ?_)
     ·skip
      refine a0x (a1j (n:=e.1) (by omega)) rfl ?_
      simp only[cA,nA]
      refine a0a ?_
      refine a0a ?_
      refine a0x (a1j (n:=e.2) (by omega)) rfl ?_
      simp only[cA,nA]
      refine a0a ?_
      exact⟨j+1,by omega,(a0F (by rw[hst,c1N b1 b2 (.inl b3)];exact a4q (a4q rfl rfl hR (a0R (by omega))) rfl (a5i hR (a0R (by omega))) (a0R (by omega))) (a0k rfl (by omega))),⟨by omega,rfl⟩⟩
     ·skip
      refine a0x (a0y hR (by omega)) rfl ?_
      simp only[cA,nA]
      refine a0a ?_
      refine a0e (b:=bit R e.2) rfl (fun b4=> ?_) (fun b4=> ?_)
      ·skip
       refine a0x (a1j (n:=e.1) (by omega)) rfl ?_
       simp only[cA,nA]
       refine a0a ?_
       refine a0a ?_
       refine a0x (a1j (n:=e.2) (by omega)) rfl ?_
       simp only[cA,nA]
       refine a0a ?_
       exact⟨j+1,by omega,(a0F (by rw[hst,c1N b1 b2 (.inr b4)];exact a4q (a4q rfl rfl hR (a0R (by omega))) rfl (a5i hR (a0R (by omega))) (a0R (by omega))) (a0k rfl (by omega))),⟨by omega,rfl⟩⟩
      ·skip
       exact⟨j+1,by omega,(a0F (by rw[hst,c1O (.inr (.inr ⟨b3,b4⟩))];rfl) (a0k rfl (by omega))),⟨by omega,rfl⟩⟩
    ·skip
     exact⟨j+1,by omega,(a0F (by rw[hst,c1O (.inr (.inl b2))];rfl) (a0k rfl (by omega))),⟨by omega,rfl⟩⟩
   ·skip
    exact⟨j+1,by omega,(a0F (by rw[hst,c1O (.inl b1)];rfl) (a0k rfl (by omega))),⟨by omega,rfl⟩⟩
  ·replace h2:=of_decide_eq_false h2
   have hje:j=es.length:=by omega
   exact⟨r+1,by omega,(a0F (by rw[show a2I set es (r+1) (2^x)=rnd set es S from by rw[<-hSe];rfl,hje,List.take_length];rfl) (a0k rfl (by omega))),⟨by omega,rfl⟩⟩
 ·replace h:=of_decide_eq_false h
  have hre:r=es.length:=by omega
  exact a0b rfl ⟨rfl,by rw[hre];rfl⟩
theorem b6t (hw:SG H w es) (hg:GV n es) (hs:set<2^n):Con prog 106 [gv n w,uv set] H fun u H'=>PH.le H H'/\∃l,SU H' u l/\(l.length=1↔Cn es set):=by
 refine a0j a0n c1l ?_
 have h64:=hg.n64
 have hs':=a0V h64 hs
 refine a0c (a0G hw) ?_
 refine a0i (α:=Value×Nat×List Nat×Nat) (fun⟨v,done,l,i⟩=>[v,uv done,ii (i:Nat)]) (fun⟨v,done,l,i⟩=>fun H'=>PH.le H H'/\SO H H' 34 1 (fun s:Nat=>[uv s]) v l/\done<M64/\i<=n/\l.length<=i/\(∀y,y<i->bit set y=true->bit done y=true)/\CS es set (sdf set done) l.length) (fun⟨v,done,l,i⟩=>n-i) ((.slice none 0 0,0,[],0)) rfl (⟨PH.le.refl _,SO.nil _ _ _ _ _,by decide,Nat.zero_le _,Nat.le_refl _,fun y hy=>by omega,.inl ⟨rfl,a1v fun y=>by rw[a1K,a0P];simp⟩⟩) fun⟨v,done,l,i⟩ H' hQ=> ?_
 simp only[cA,nA]
 obtain⟨l1,o1,hd,hi,hli,hall,hC⟩:=hQ
 refine a0a ?_
 refine a0a ?_
 refine a0e (b:=decide (((i:Nat):Int)<(n:Nat))) rfl (fun h=> ?_) (fun h=> ?_)
 ·replace h:=of_decide_eq_true h
  refine a0x (a0y hs' (by omega)) rfl ?_
  simp only[cA,nA]
  refine a0a ?_
  refine a0e (b:=bit set i) rfl (fun h1=> ?_) (fun h1=> ?_)
  ·skip
   refine a0x (a0y hd (by omega)) rfl ?_
   simp only[cA,nA]
   refine a0a ?_
   refine a0e (b:= !bit done i) rfl (fun h2=> ?_) (fun h2=> ?_)
   ·skip
    have h2:bit done i=false:=by simpa using h2
    have hcl:=d4k hg h1 (by omega)
    refine a0s (b6s (hw.mono l1) hg hs' (by omega)) rfl ?_
    simp only[cA,nA]
    generalize a2I set es es.length (2^i)=part at hcl
    refine a0B el_u64 rfl rfl rfl (fun _=>rfl) (fun _=>rfl) l1 o1 (by omega) rfl (fun _=>rfl) rfl fun q v2 H2 l2 o2=> ?_
    simp only[cA,nA]
    refine a0a ?_
    refine a0a ?_
    exact⟨(v2,done|||part,l++[part],i+1),by show n-(i+1)<n-i;omega,(a5b rfl (a4q rfl rfl hd hcl.1) (a0k rfl (by omega))),⟨l2,o2,a5i hd hcl.1,by show i+1<=n;omega,by rw[List.length_append];simp only[List.length_cons,List.length_nil];show _<=i+1;omega,fun y hy hb=>by rw[a1l];rcases Nat.lt_succ_iff_lt_or_eq.1 hy with hy|hy;(rw[hall y hy hb];rfl);(subst hy;rw[(hcl.2 y).2 .base];simp),by rw[List.length_append];have hn:=hC.next (by rw[a1K,h1,h2];rfl) h1 hcl;rw[show sdf set (done|||part)=sdf (sdf set done) part from a1v fun y=>by rw[a1K,a1K,a1K,a1l];cases bit set y<;>cases bit done y<;>cases bit part y<;>rfl];exact hn⟩⟩
   ·skip
    have h2:bit done i=true:=by simpa using h2
    exact⟨(v,done,l,i+1),by show n-(i+1)<n-i;omega,(a5b rfl rfl (a0k rfl (by omega))),⟨l1,o1,hd,by show i+1<=n;omega,Nat.le_succ_of_le hli,fun y hy hb=>by rcases Nat.lt_succ_iff_lt_or_eq.1 hy with hy|hy;(exact hall y hy hb);(subst hy;exact h2),hC⟩⟩
  ·skip
   exact⟨(v,done,l,i+1),by show n-(i+1)<n-i;omega,(a5b rfl rfl (a0k rfl (by omega))),⟨l1,o1,hd,by show i+1<=n;omega,Nat.le_succ_of_le hli,fun y hy hb=>by rcases Nat.lt_succ_iff_lt_or_eq.1 hy with hy|hy;(exact hall y hy hb);(subst hy;rw[h1]at hb;cases hb),hC⟩⟩
 ·replace h:=of_decide_eq_false h
  have h0:sdf set done=0:=a1v fun y=>by
   rw[a1K,a0P]
   cases hy:bit set y with
   |false=>rfl
   |true=>rw[hall y (by have:=b3c hs hy;omega) hy];rfl
  rw[h0]at hC
  exact a0b rfl ⟨l1,l,o1.se,hC.end⟩
theorem a2V (hw:SG H w es) (hg:GV n es) (hs:set<2^n):a3Z prog 46 [gv n w,uv set] H (.bool (cnB es set)):=by
 refine a0j a0n c1m ?_
 refine a0c (a0G hw) ?_
 refine a0f (b6t hw hg hs) rfl ?_
 rintro u H2 ⟨l2,l,hl,hc⟩
 refine⟨fun h=>(nomatch h),?_⟩
 have e:cnB es set=decide (l.length=1):=by rw[Bool.eq_iff_iff,cnB_iff,<-hc];simp
 refine a0p el_u64 hl ?_
 refine a0a ?_
 exact a0b rfl ⟨l2,by rw[e];show Value.bool (((l.length:Nat):Int)==1)=_;rw[bE];exact congrArg Value.bool (decide_eq_decide.2 (by omega))⟩
theorem a8t (hu:SI H u p) (k:Int):Asks prog 136 [u,ii k] H (.bool (decide (LabOk p k))):=by
 refine a0j a0n c1o ?_
 have hl:=hu.len
 refine a0A (α:=Nat×Value) (fun⟨i,z⟩=>[z,ii (i:Nat)]) (fun⟨i,z⟩=>i<=p.length/\∀x∈p.take i,0<=x/\x<k) (fun⟨i,z⟩=>p.length-i) ((0,.bool false)) rfl (⟨Nat.zero_le _,fun x hx=>by cases hx⟩) fun⟨i,z⟩ hQ=> ?_
 obtain⟨hi,hq⟩:=hQ
 refine a0p el_plan hu ?_
 refine a0a ?_
 refine a0a ?_
 refine a0e (b:=decide (((i:Nat):Int)<(p.length:Nat))) rfl (fun h=> ?_) (fun h=> ?_)
 ·replace h:=of_decide_eq_true h
  have hi':i<p.length:=by omega
  obtain⟨x,hx,hdx⟩:=a0q hi'
  refine a0t el_plan hu hx fun _=> ?_
  have hxm:=List.mem_of_getElem? hx
  refine a0a ?_
  refine a0e (b:=decide (x<0)) rfl (fun h2=> ?_) (fun h2=> ?_)
  ·replace h2:=of_decide_eq_true h2
   exact a0b rfl ⟨rfl,by rw[decide_eq_false (fun e=>by have:=e.1 x hxm;omega)];rfl⟩
  ·replace h2:=of_decide_eq_false h2
   refine a0t el_plan hu hx fun _=> ?_
   refine a0a ?_
   refine a0a ?_
   refine a0e (b:=decide (x≥k)) rfl (fun h3=> ?_) (fun h3=> ?_)
   ·replace h3:=of_decide_eq_true h3
    exact a0b rfl ⟨rfl,by rw[decide_eq_false (fun e=>by have:=e.1 x hxm;omega)];rfl⟩
   ·replace h3:=of_decide_eq_false h3
    exact⟨(i+1,z),by show p.length-(i+1)<p.length-i;omega,(a0F rfl (a0k rfl (by omega))),⟨⟨hi',by rw[take_snoc hx];intro y hy;rw[List.mem_append,List.mem_singleton]at hy;rcases hy with hy|rfl;(exact hq y hy);omega⟩,rfl⟩⟩
 ·replace h:=of_decide_eq_false h
  rw[List.take_of_length_le (by omega)]at hq
  refine a0p el_plan hu ?_
  refine a0a ?_
  refine a0e (b:=decide (((p.length:Nat):Int)≥1)) rfl (fun h4=> ?_) (fun h4=> ?_)
  ·replace h4:=of_decide_eq_true h4
   refine a0p el_plan hu ?_
   refine a0a ?_
   exact a0b rfl ⟨rfl,congrArg Value.bool (decide_eq_decide.2 ⟨fun h5=>⟨hq,by omega,by have h6:((p.length:Nat):Int)<=64:=h5;omega⟩,fun h5=>by have:=h5.2.2;show((p.length:Nat):Int)<=64;omega⟩)⟩
  ·replace h4:=of_decide_eq_false h4
   exact a0b rfl ⟨rfl,by rw[decide_eq_false (fun e=>by have:=e.2.1;omega)];rfl⟩
theorem a3Q (hu:SI H u p) (h64:p.length<=64) (d:Int):Asks prog 117 [u,ii d] H (uv (a8f p d)):=by
 refine a0j a0n c1q ?_
 refine a0A (α:=Nat) (fun i=>[uv (mkN p d i),ii (i:Nat)]) (fun i=>i<=p.length) (fun i=>p.length-i) (0) rfl (Nat.zero_le _) fun i hQ=> ?_
 refine a0p el_plan hu ?_
 refine a0a ?_
 refine a0a ?_
 refine a0e (b:=decide (((i:Nat):Int)<(p.length:Nat))) rfl (fun h=> ?_) (fun h=> ?_)
 ·replace h:=of_decide_eq_true h
  have hi':i<p.length:=by omega
  obtain⟨x,hx,hdx⟩:=a0q hi'
  refine a0t el_plan hu hx fun _=> ?_
  refine a0a ?_
  refine a0a ?_
  refine a0o (p:=(x=d)) (bE x d) (fun h2=> ?_) fun h2=> ?_
  ·refine a0c ⟨_,_,rfl⟩ ?_
   refine a0c (by show(0:Int)<=((i:Nat):Int);omega) ?_
   refine a0a ?_
   exact⟨i+1,by omega,(a0F (by rw[a5U,if_pos (by rw[hx,h2])];exact a4q rfl (a2R rfl (by omega)) (a8e _ _ (by omega)) (a0R (by omega))) (a0k rfl (by omega))),⟨by omega,rfl⟩⟩
  ·exact⟨i+1,by omega,(a0F (by rw[a5U,if_neg (by rw[hx];simpa using h2)];rfl) (a0k rfl (by omega))),⟨by omega,rfl⟩⟩
 ·replace h:=of_decide_eq_false h
  have he:i=p.length:=by omega
  exact a0b rfl ⟨rfl,by rw[he];rfl⟩
theorem b6u (hu:SI H u p) (h64:p.length<=64) (k:Nat) (hk:k<=8):Asks prog 181 [u,ii (k:Nat)] H (.bool (decide (a8g p k))):=by
 refine a0j a0n c1p ?_
 refine a0A (α:=Nat×Value) (fun⟨d,z⟩=>[z,ii (d:Nat)]) (fun⟨d,z⟩=>d<=k/\∀j,j<d->a8f p (j:Nat)≠0) (fun⟨d,z⟩=>k-d) ((0,.bool false)) rfl (⟨Nat.zero_le _,fun j hj=>by cases hj⟩) fun⟨d,z⟩ hQ=> ?_
 obtain⟨hd,hq⟩:=hQ
 refine a0a ?_
 refine a0a ?_
 refine a0e (b:=decide (((d:Nat):Int)<(k:Nat))) rfl (fun h=> ?_) (fun h=> ?_)
 ·replace h:=of_decide_eq_true h
  refine a0s (a3Q hu h64 (d:Nat)) rfl ?_
  refine a0a ?_
  refine a0o (p:=(a8f p (d:Nat)=0)) (bE0 _) (fun h3=> ?_) fun h3=> ?_
  ·exact a0b rfl ⟨rfl,by rw[decide_eq_false (fun e=>e d (by omega) h3)];rfl⟩
  ·exact⟨(d+1,z),by show k-(d+1)<k-d;omega,(a0F rfl (a0k rfl (by omega))),⟨⟨by show d+1<=k;omega,fun j hj=>by rcases Nat.lt_succ_iff_lt_or_eq.1 hj with hj|rfl;(exact hq j hj);exact h3⟩,rfl⟩⟩
 ·replace h:=of_decide_eq_false h
  have he:d=k:=by omega
  subst he
  exact a0b rfl ⟨rfl,by rw[decide_eq_true (p:=a8g p d) hq];rfl⟩
theorem b6v (hw:SG H w es) (hg:GV n es) (hu:SI H u p) (k:Int):Asks prog 115 [gv n w,u,ii k] H (ii (plE n p k)):=by
 refine a0j a0n c1r ?_
 refine a0c (a0G hw) ?_
 refine a0s (a3P hw hg) rfl ?_
 simp only[cA,nA]
 refine a0a ?_
 refine a0l (bF (p:=(0:Int)≠0) (by simp)) ?_
 refine a0a ?_
 refine a0e (b:=decide (k<1)) rfl (fun h=> ?_) (fun h=> ?_)
 ·replace h:=of_decide_eq_true h
  exact a0b rfl ⟨rfl,by rw[show plE n p k=2 from if_pos (.inl h)];rfl⟩
 ·replace h:=of_decide_eq_false h
  refine a0e (b:=decide (k>8)) rfl (fun h2=> ?_) (fun h2=> ?_)
  ·replace h2:=of_decide_eq_true h2
   exact a0b rfl ⟨rfl,by rw[show plE n p k=2 from if_pos (.inr h2)];rfl⟩
  ·replace h2:=of_decide_eq_false h2
   have hk:¬(k<1\/k>8):=by omega
   obtain⟨m,rfl⟩:∃m:Nat,k=(m:Int):=⟨k.toNat,by omega⟩
   refine a0p el_plan hu ?_
   refine a0a ?_
   refine a0a ?_
   refine a0o (p:=(p.length≠n)) (by show Value.bool (((p.length:Nat):Int) !=((n:Nat):Int))=_;rw[bN];congr 1;apply decide_eq_decide.2;omega) (fun h3=> ?_) fun h3=> ?_
   ·exact a0b rfl ⟨rfl,by rw[show plE n p (m:Nat)=210 from(if_neg hk).trans (if_neg fun e=>h3 e.1)];rfl⟩
   ·refine a0s (a8t hu (m:Nat)) rfl ?_
    simp only[cA,nA]
    refine a0a ?_
    refine a0e (b:= !decide (LabOk p (m:Nat))) rfl (fun h4=> ?_) (fun h4=> ?_)
    ·skip
     exact a0b rfl ⟨rfl,by rw[show plE n p (m:Nat)=210 from(if_neg hk).trans (if_neg fun e=>by simp[e.2.1]at h4)];rfl⟩
    ·skip
     have hL:LabOk p (m:Nat):=by simpa using h4
     refine a0s (b6u hu hL.2.2 m (by omega)) rfl ?_
     simp only[cA,nA]
     refine a0a ?_
     refine a0e (b:= !decide (a8g p m)) rfl (fun h5=> ?_) (fun h5=> ?_)
     ·skip
      exact a0b rfl ⟨rfl,by rw[show plE n p (m:Nat)=210 from(if_neg hk).trans (if_neg fun e=>by have:=e.2.2;rw[Int.toNat_natCast]at this;simp[this]at h5)];rfl⟩
     ·skip
      have hU:a8g p m:=by simpa using h5
      exact a0b rfl ⟨rfl,by rw[show plE n p (m:Nat)=0 from(if_neg hk).trans (if_pos ⟨by omega,hL,by rw[Int.toNat_natCast];exact hU⟩)];rfl⟩
theorem b6w (hw:SG H w es) (hg:GV n es) (hwt:SI H wts wl):Asks prog 11 [gv n w,bv wts lo hi ds] H (ii (bdE n wl lo hi ds)):=by
 refine a0j a0n c1C ?_
 have hl:=hwt.len
 refine a0c (a0G hw) ?_
 refine a0c (a2L (a0T hwt) _ _ _) ?_
 refine a0s (a3P hw hg) rfl ?_
 simp only[cA,nA]
 refine a0a ?_
 refine a0l (bF (p:=(0:Int)≠0) (by simp)) ?_
 refine a0p el_int hwt ?_
 refine a0a ?_
 refine a0a ?_
 refine a0o (p:=(wl.length≠n)) (by show Value.bool (((wl.length:Nat):Int) !=((n:Nat):Int))=_;rw[bN];congr 1;apply decide_eq_decide.2;omega) (fun h=> ?_) fun h=> ?_
 ·exact a0b rfl ⟨rfl,by rw[a2a (h:=fun e=>h e.1)];rfl⟩
 ·refine a0a ?_
  refine a0e (b:=decide (lo<0)) rfl (fun h2=> ?_) (fun h2=> ?_)
  ·replace h2:=of_decide_eq_true h2
   exact a0b rfl ⟨rfl,by rw[a2a (h:=fun e=>by omega)];rfl⟩
  ·replace h2:=of_decide_eq_false h2
   refine a0a ?_
   refine a0e (b:=decide (lo>hi)) rfl (fun h3=> ?_) (fun h3=> ?_)
   ·replace h3:=of_decide_eq_true h3
    exact a0b rfl ⟨rfl,by rw[a2a (h:=fun e=>by omega)];rfl⟩
   ·replace h3:=of_decide_eq_false h3
    refine a0a ?_
    refine a0e (b:=decide (ds<1)) rfl (fun h4=> ?_) (fun h4=> ?_)
    ·replace h4:=of_decide_eq_true h4
     exact a0b rfl ⟨rfl,by rw[a2a (h:=fun e=>by omega)];rfl⟩
    ·replace h4:=of_decide_eq_false h4
     refine a0e (b:=decide (ds>8)) rfl (fun h5=> ?_) (fun h5=> ?_)
     ·replace h5:=of_decide_eq_true h5
      exact a0b rfl ⟨rfl,by rw[a2a (h:=fun e=>by omega)];rfl⟩
     ·replace h5:=of_decide_eq_false h5
      refine a0A (α:=Nat×Int) (fun⟨i,z⟩=>[ii z,ii (i:Nat)]) (fun⟨i,z⟩=>i<=wl.length/\∀x∈wl.take i,0<=x/\x<=1000000000) (fun⟨i,z⟩=>wl.length-i) ((0,0)) rfl (⟨Nat.zero_le _,fun x hx=>by cases hx⟩) fun⟨i,z⟩ hQ=> ?_
      simp only[cA,nA]
      obtain⟨hile,hq⟩:=hQ
      refine a0p el_int hwt ?_
      refine a0a ?_
      refine a0a ?_
      refine a0e (b:=decide (((i:Nat):Int)<(wl.length:Nat))) rfl (fun h6=> ?_) (fun h6=> ?_)
      ·replace h6:=of_decide_eq_true h6
       have hi':i<wl.length:=by omega
       obtain⟨x,hx,hdx⟩:=a0q hi'
       have hxm:=List.mem_of_getElem? hx
       refine a0t el_int hwt hx fun _=> ?_
       simp only[cA,nA]
       refine a0a ?_
       refine a0e (b:=decide (x<0)) rfl (fun h7=> ?_) (fun h7=> ?_)
       ·replace h7:=of_decide_eq_true h7
        exact a0b rfl ⟨rfl,by rw[a2a (h:=fun e=>by have:=e.2.2.2.2.2 x hxm;omega)];rfl⟩
       ·replace h7:=of_decide_eq_false h7
        refine a0t el_int hwt hx fun _=> ?_
        simp only[cA,nA]
        refine a0a ?_
        refine a0e (b:=decide (x>1000000000)) rfl (fun h8=> ?_) (fun h8=> ?_)
        ·replace h8:=of_decide_eq_true h8
         exact a0b rfl ⟨rfl,by rw[a2a (h:=fun e=>by have:=e.2.2.2.2.2 x hxm;omega)];rfl⟩
        ·replace h8:=of_decide_eq_false h8
         exact⟨(i+1,z),by show wl.length-(i+1)<wl.length-i;omega,(a0F rfl (a0k rfl (by omega))),⟨⟨hi',by rw[take_snoc hx];intro y hy;rw[List.mem_append,List.mem_singleton]at hy;rcases hy with hy|rfl;(exact hq y hy);omega⟩,rfl⟩⟩
      ·replace h6:=of_decide_eq_false h6
       rw[List.take_of_length_le (by omega)]at hq
       have h0:¬wl.length≠n:=h
       exact a0b rfl ⟨rfl,by rw[show bdE n wl lo hi ds=0 from if_pos ⟨by omega,by omega,by omega,by omega,by omega,hq⟩];rfl⟩
theorem a4u (hw:SG H w es) (hg:GV n es) (hwt:SI H wts wl) (hlen:wl.length=n) (hwl:c5O wl) (hs:set<2^n):a3Z prog 116 [gv n w,bv wts lo hi ds,uv set] H (.bool (alB es wl lo hi set)):=by
 refine a0j a0n c1D ?_
 have h64:=hg.n64
 have hs':=a0V h64 hs
 refine a0c (a0G hw) ?_
 refine a0c (a2L (a0T hwt) _ _ _) ?_
 refine a0A (α:=Nat) (fun i=>[ii (((List.range i).filter (bit set)).map fun x=>wl.getD x 0).sum,ii (i:Nat)]) (fun i=>i<=n) (fun i=>n-i) (0) rfl (Nat.zero_le _) fun i hQ=> ?_
 refine a0a ?_
 refine a0a ?_
 refine a0e (b:=decide (((i:Nat):Int)<(n:Nat))) rfl (fun h=> ?_) (fun h=> ?_)
 ·replace h:=of_decide_eq_true h
  refine a0x (a0y hs' (by omega)) rfl ?_
  refine a0a ?_
  refine a0e (b:=bit set i) rfl (fun h1=> ?_) (fun h1=> ?_)
  ·skip
   have hil:i<wl.length:=by omega
   have hx:wl[i]? =some wl[i]:=List.getElem?_eq_getElem hil
   have hx2:=hwl _ (List.getElem_mem hil)
   have hbd:=b0Z (((List.range i).filter (bit set)).map fun x=>wl.getD x 0) (by
    intro z hz
    rw[List.mem_map]at hz
    obtain⟨a,ha,rfl⟩:=hz
    have ha':=List.mem_range.1 (List.mem_filter.1 ha).1
    rw[List.getD_eq_getElem?_getD,List.getElem?_eq_getElem (show a<wl.length by omega)]
    exact hwl _ (List.getElem_mem _))
   have hle:=List.length_filter_le (bit set) (List.range i)
   rw[List.length_map]at hbd
   rw[List.length_range]at hle
   refine a0t el_int hwt hx fun _=> ?_
   refine a0a ?_
   refine a0a ?_
   exact⟨i+1,by omega,(a0F (by rw[b0W rfl rfl (by omega) (by omega),List.range_succ,List.filter_append,List.filter_cons,if_pos h1,List.map_append,List.sum_append];show _=ii (_+([wl.getD i 0].sum));rw[List.sum_cons,List.sum_nil,Int.add_zero,List.getD_eq_getElem?_getD,hx];rfl) (a0k rfl (by omega))),⟨by omega,rfl⟩⟩
  ·skip
   exact⟨i+1,by omega,(a0F (by rw[List.range_succ,List.filter_append,List.filter_cons,if_neg (by simp[h1]),List.filter_nil,List.append_nil];rfl) (a0k rfl (by omega))),⟨by omega,rfl⟩⟩
 ·replace h:=of_decide_eq_false h
  have he:i=n:=by omega
  subst he
  rw[d7b hs h64]
  refine a0v (a2V hw hg hs) rfl fun H1 l1=> ?_
  refine a0a ?_
  refine a0e (b:=cnB es set) rfl (fun h1=> ?_) (fun h1=> ?_)
  ·skip
   refine a0a ?_
   refine a0a ?_
   refine a0e (b:=decide (d2Z wl set≥lo)) rfl (fun h2=> ?_) (fun h2=> ?_)
   ·replace h2:=of_decide_eq_true h2
    refine a0a ?_
    exact a0b rfl ⟨l1,by unfold alB;rw[h1,decide_eq_true h2];rfl⟩
   ·replace h2:=of_decide_eq_false h2
    exact a0b rfl ⟨l1,by unfold alB;rw[h1,decide_eq_false h2];rfl⟩
  ·skip
   exact a0b rfl ⟨l1,by unfold alB;rw[h1];rfl⟩
theorem b3d (hw:SG H w es) (hg:GV n es) (hwt:SI H wts wl) (hlen:wl.length=n) (hwl:c5O wl) (hu:SI H u p):a3Z prog 56 [gv n w,bv wts lo hi ds,u] H (.bool (b2g n es wl lo hi ds p)):=by
 refine a0j a0n c1E ?_
 refine a0c (a0G hw) ?_
 refine a0c (a2L (a0T hwt) _ _ _) ?_
 refine a0s (b6v hw hg hu ds) rfl ?_
 refine a0a ?_
 refine a0o (p:=(plE n p ds≠0)) (bN _ _) (fun h=> ?_) fun h=> ?_
 ·exact a0b rfl ⟨PH.le.refl _,by unfold b2g;rw[decide_eq_false h];rfl⟩
 ·have h0:plE n p ds=0:=Classical.byContradiction h
  have hp0:=b8D h0
  obtain⟨k,rfl⟩:∃k:Nat,ds=(k:Int):=⟨ds.toNat,by omega⟩
  have h64:=hp0.2.2.2.1.2.2
  have hfit:b2g n es wl lo hi (k:Nat) p=(b0Y p k).all (alB es wl lo hi):=by unfold b2g;rw[decide_eq_true h0,Int.toNat_natCast,Bool.true_and]
  refine a0i (α:=Nat×Value) (fun⟨d,z⟩=>[z,ii (d:Nat)]) (fun⟨d,z⟩=>fun H'=>PH.le H H'/\d<=k/\∀j,j<d->alB es wl lo hi (a8f p (j:Nat))=true) (fun⟨d,z⟩=>k-d) ((0,.bool false)) rfl (⟨PH.le.refl _,Nat.zero_le _,fun j hj=>by cases hj⟩) fun⟨d,z⟩ H' hQ=> ?_
  obtain⟨l1,hd,hq⟩:=hQ
  refine a0a ?_
  refine a0a ?_
  refine a0e (b:=decide (((d:Nat):Int)<(k:Nat))) rfl (fun h2=> ?_) (fun h2=> ?_)
  ·replace h2:=of_decide_eq_true h2
   refine a0s (a3Q (hu.mono l1) h64 (d:Nat)) rfl ?_
   have hms:a8f p (d:Nat)<2^n:=by have:=a6O p (d:Nat) h64;rw[<-hp0.2.2.1];exact this
   refine a0v (a4u (lo:=lo) (hi:=hi) (ds:=(k:Nat)) (hw.mono l1) hg (hwt.mono l1) hlen hwl hms) rfl fun H2 l2=> ?_
   refine a0a ?_
   refine a0e (b:= !alB es wl lo hi (a8f p (d:Nat))) rfl (fun h3=> ?_) (fun h3=> ?_)
   ·skip
    exact a0b rfl ⟨l1.trans l2,by rw[hfit];refine congrArg Value.bool (Eq.symm ?_);rw[List.all_eq_false];exact⟨a8f p (d:Nat),List.mem_map.2 ⟨d,List.mem_range.2 (by omega),rfl⟩,by simpa using h3⟩⟩
   ·skip
    exact⟨(d+1,z),by show k-(d+1)<k-d;omega,(a0F rfl (a0k rfl (by omega))),⟨l1.trans l2,by show d+1<=k;omega,fun j hj=>by rcases Nat.lt_succ_iff_lt_or_eq.1 hj with hj|rfl;(exact hq j hj);simpa using h3⟩⟩
  ·replace h2:=of_decide_eq_false h2
   have he:d=k:=by omega
   subst he
   exact a0b rfl ⟨l1,by rw[hfit];refine congrArg Value.bool (Eq.symm ?_);rw[List.all_eq_true];intro s hsm;simp only[b0Y,b6i,List.mem_map,List.mem_range]at hsm;obtain⟨j,hj,rfl⟩:=hsm;exact hq j hj⟩
end
end Go.Proofs.YtkcjbfoejpfbbaaGreatDoor

/- Chapter 32: the reference of graphs and plans. -/
import Derived.Test.YtkcjbfoejpfbbaaGreatDoorGaH
import Derived.Test.YtkcjbfoejpfbbaaGreatDoorGsO
import Derived.Test.YtkcjbfoejpfbbaaGreatDoorGrT
import Derived.Test.YtkcjbfoejpfbbaaGreatDoorGlT
namespace Go.Proofs.YtkcjbfoejpfbbaaGreatDoor
open Go.Proofs.Tryz
open Go.RowKit Go.RX Go.GS
section
variable {G:Value->PH->Prop} {nx:List (List Value->PH->Prop)} {ρ:List Value} {H:PH} {o1 o2 o3:Oper} {x y x2 x3:Operand} {id i id2 i2 id3 i3:Nat} {args args2 args3:List SV} {t:Tree} {v:Value} {k:IntKind} {j:Nat} {es:List (Nat×Nat)} {e:Nat×Nat}
theorem c0r {m:Nat} {c:Value} (hm:m<2) (hc:(ec e)[m]? =some c) (ho1:o1.op= .indexAddr 36 x y) (ho2:o2.op= .indexAddr 100 x2 (.const (.int .i64 (m:Nat)))) (ho3:o3.op= .load 3 x3) (hx:a0g [x,y] [v,.int k (j:Nat)] x=v) (hy:a0g [x,y] [v,.int k (j:Nat)] y= .int k (j:Nat))
  (hx2:∀p,a0g [x2,.const (.int .i64 (m:Nat))] [p,.int .i64 (m:Nat)] x2=p) (hx2':∀p,a0g [x2,.const (.int .i64 (m:Nat))] [p,.int .i64 (m:Nat)] (.const (.int .i64 (m:Nat)))= .int .i64 (m:Nat)) (hx3:∀p,a0g [x3] [p] x3=p) (h:SG H v es) (hj:es[j]? =some e) (ha:args.map (D prog ρ)=[v,.int k (j:Nat)]) (ha2:∀p,args2.map (D prog (ρ++[p]))=[p,.int .i64 (m:Nat)]) (ha3:∀p p',args3.map (D prog (ρ++[p]++[p']))=[p'])
  (n:∀p p',den prog G t nx (ρ++[p]++[p']++[c]) H):den prog G (.prim id i o1 args (.prim id2 i2 o2 args2 (.prim id3 i3 o3 args3 t))) nx ρ H:=by
 refine b1W el_edge ho1 hx hy h hj ha fun p hp=> ?_
 obtain⟨b,q,cs,T',fz,rfl,h2,h3,h4⟩:=hp
 have hl:(ec e).length=2:=rfl
 have hi:=(a3t (P:=prog) (len:=2) (e:=3) (b:=b) (q:=q) ho2 (hx2 _) (hx2' _) ar_2.und sc_int.has (by omega) (by omega)).rds H
 rw[sc_int.cel,Int.toNat_natCast,Nat.mul_one]at hi
 refine a0i hi (ha2 _) ?_
 refine a0C sc_int ho3 (hx3 _) h2 ?_ (ha3 _ _) (n _ _)
 rw[<-Array.getElem?_toList]
 rw[<-h4,List.getElem?_take_of_lt (by rw[hl];exact hm),List.getElem?_drop]at hc
 exact hc
theorem a4Y (ho1:o1.op= .indexAddr 36 x y) (ho2:o2.op= .indexAddr 100 x2 (.const (.int .i64 0))) (ho3:o3.op= .load 3 x3) (hx:a0g [x,y] [v,.int k (j:Nat)] x=v) (hy:a0g [x,y] [v,.int k (j:Nat)] y= .int k (j:Nat))
  (hx2:∀p,a0g [x2,.const (.int .i64 0)] [p,.int .i64 0] x2=p) (hx2':∀p,a0g [x2,.const (.int .i64 0)] [p,.int .i64 0] (.const (.int .i64 0))= .int .i64 0) (hx3:∀p,a0g [x3] [p] x3=p) (h:SG H v es) (hj:es[j]? =some e) (ha:args.map (D prog ρ)=[v,.int k (j:Nat)]) (ha2:∀p,args2.map (D prog (ρ++[p]))=[p,.int .i64 0]) (ha3:∀p p',args3.map (D prog (ρ++[p]++[p']))=[p'])
  (n:∀p p',den prog G t nx (ρ++[p]++[p']++[ii (e.1:Nat)]) H):den prog G (.prim id i o1 args (.prim id2 i2 o2 args2 (.prim id3 i3 o3 args3 t))) nx ρ H:=
 c0r (m:=0) (by decide) rfl ho1 ho2 ho3 hx hy hx2 hx2' hx3 h hj ha ha2 ha3 n
theorem a4Z (ho1:o1.op= .indexAddr 36 x y) (ho2:o2.op= .indexAddr 100 x2 (.const (.int .i64 1))) (ho3:o3.op= .load 3 x3) (hx:a0g [x,y] [v,.int k (j:Nat)] x=v) (hy:a0g [x,y] [v,.int k (j:Nat)] y= .int k (j:Nat))
  (hx2:∀p,a0g [x2,.const (.int .i64 1)] [p,.int .i64 1] x2=p) (hx2':∀p,a0g [x2,.const (.int .i64 1)] [p,.int .i64 1] (.const (.int .i64 1))= .int .i64 1) (hx3:∀p,a0g [x3] [p] x3=p) (h:SG H v es) (hj:es[j]? =some e) (ha:args.map (D prog ρ)=[v,.int k (j:Nat)]) (ha2:∀p,args2.map (D prog (ρ++[p]))=[p,.int .i64 1]) (ha3:∀p p',args3.map (D prog (ρ++[p]++[p']))=[p'])
  (n:∀p p',den prog G t nx (ρ++[p]++[p']++[ii (e.2:Nat)]) H):den prog G (.prim id i o1 args (.prim id2 i2 o2 args2 (.prim id3 i3 o3 args3 t))) nx ρ H:=
 c0r (m:=1) (by decide) rfl ho1 ho2 ho3 hx hy hx2 hx2' hx3 h hj ha ha2 ha3 n
end
theorem a0P {s n:Nat} (hs:s<M64) (hn:n<=64):Det prog 59 [uv s,ii (n:Nat)] (.bool (bit s n)):=by
 have e:=d3o (P:=prog) (ρ:=[uv s,ii (n:Nat)]) (a:= .v 1) (n:=n) rfl (Nat.lt_of_le_of_lt hn (by decide))
 refine a0z a0r b9Z (by kernel_rfl) rfl (a0m ⟨_,rfl⟩ (a0m ⟨_,rfl⟩ (a0m ?_ (a0X ?_ rfl))))
 ·show 0<=intOf (D prog [uv s,ii (n:Nat)] (.cv .u64 (.v 1)))
  rw[e];exact Int.natCast_nonneg n
 ·exact b7D rfl hs e hn
theorem a0Z {n:Nat} (hn:n<64):Det prog 45 [ii (n:Nat)] (uv (2^n)):=by
 have e:=d3o (P:=prog) (ρ:=[ii (n:Nat)]) (a:= .v 0) (n:=n) rfl (Nat.lt_trans hn (by decide))
 refine a0z a0r c0a (by kernel_rfl) rfl (a0m ⟨_,rfl⟩ (a0m ?_ (a0X ?_ rfl)))
 ·show 0<=intOf (D prog [ii (n:Nat)] (.cv .u64 (.v 0)))
  rw[e];exact Int.natCast_nonneg n
 ·exact a4N e hn
section
variable {H:PH} {u v w wts:Value} {p wl:List Int} {n:Nat} {es:List (Nat×Nat)} {lo hi ds:Int} {set x:Nat}
theorem b6g (hs:set<M64):Asks prog 58 [uv set] H (ii (card set)):=by
 refine a0d a0r c0b (by kernel_rfl) rfl ?_
 refine a0S (α:=Nat) (fun i=>[ii ((((List.range i).filter (bit set)).length:Nat)),ii (i:Nat)]) (fun i=>i<=64) (fun i=>64-i) (0) rfl (Nat.zero_le _) fun i hQ=> ?_
 simp only[cA,nA]
 refine a0a ⟨_,rfl⟩ ?_
 refine a0e (b:=decide (((i:Nat):Int)<64)) rfl (fun h=> ?_) (fun h=> ?_)
 ·replace h:=of_decide_eq_true h
  refine a0v (a0P hs (by omega)) rfl ?_
  simp only[cA,nA]
  have hle:=List.length_filter_le (bit set) (List.range i)
  rw[List.length_range]at hle
  refine a0a ⟨_,rfl⟩ ?_
  refine a0e (b:=bit set i) rfl (fun h2=> ?_) (fun h2=> ?_)
  ·skip
   refine a0a ⟨_,rfl⟩ ?_
   exact⟨i+1,by omega,(a1s (by rw[a0x rfl (by omega),List.range_succ,List.filter_append,List.length_append,List.filter_cons,if_pos h2];rfl) (a0x rfl (by omega))),⟨by omega,rfl⟩⟩
  ·skip
   exact⟨i+1,by omega,(a1s (by rw[List.range_succ,List.filter_append,List.length_append,List.filter_cons,if_neg (by simp[h2])];rfl) (a0x rfl (by omega))),⟨by omega,rfl⟩⟩
 ·replace h:=of_decide_eq_false h
  have he:i=64:=by omega
  subst he
  exact a0f rfl ⟨rfl,rfl⟩
end
end Go.Proofs.YtkcjbfoejpfbbaaGreatDoor
/- Chapter 32: the reference of graphs and plans, part 2. -/
namespace Go.GS
theorem a9l (set:Nat) (L:List (Nat×Nat)) (e:Nat×Nat) (s:Nat):rnd set (L++[e]) s=rst set (rnd set L s) e:=by
 unfold rnd;rw[List.foldl_append];rfl
theorem c0s {set s:Nat} {e:Nat×Nat} (h1:bit set e.1=true) (h2:bit set e.2=true) (h3:bit s e.1=true\/bit s e.2=true):rst set s e=s|||2^e.1|||2^e.2:=by
 unfold rst;rw[if_pos (by rcases h3 with h3|h3<;>simp[h1,h2,h3])]
theorem c0t {set s:Nat} {e:Nat×Nat} (h:bit set e.1=false\/bit set e.2=false\/(bit s e.1=false/\bit s e.2=false)):rst set s e=s:=by
 unfold rst;rw[if_neg]
 rcases h with h|h|h<;>simp[h]
theorem GV.e64 {n:Nat} {es:List (Nat×Nat)} (h:GV n es):∀e∈es,e.1<64/\e.2<64:=fun e he=>by
 have:=h.ed e he;have:=h.n64;omega
theorem d3u {n:Nat} {es:List (Nat×Nat)} (h:GV n es) {set x:Nat} (hx:bit set x=true) (h64:x<64):CL es set x (a2A set es es.length (2^x)):=
 b7J hx (a2a h.e64 (a0N h64) _).1 (c3L _ _ _)
theorem d6b {s n:Nat} (hs:s<2^n) (hn:n<=64):(List.range n).filter (bit s)=els s:=by
 unfold els
 have h1:(64:Nat)=n+(64-n):=by omega
 rw[h1,List.range_add,List.filter_append]
 have:((List.range (64-n)).map (n+ ·)).filter (bit s)=[]:=by
  rw[List.filter_eq_nil_iff]
  intro a ha
  rw[List.mem_map]at ha
  obtain⟨b,_,rfl⟩:=ha
  have:=Nat.testBit_lt_two_pow (Nat.lt_of_lt_of_le hs (Nat.pow_le_pow_right (n:=2) (by decide) (Nat.le_add_right n b)))
  unfold bit;rw[this];simp
 rw[this,List.append_nil]
end Go.GS
namespace Go.Proofs.YtkcjbfoejpfbbaaGreatDoor
open Go.Proofs.Tryz
open Go.RowKit Go.RX Go.GS
section
variable {H:PH} {u v w wts:Value} {p wl:List Int} {n:Nat} {es:List (Nat×Nat)} {lo hi ds:Int} {set x:Nat}
theorem b6h (hw:SG H w es) (hg:GV n es) (hs:set<M64) (hx:x<64):Asks prog 174 [gv n w,uv set,ii (x:Nat),ii (-1)] H (uv (a2A set es es.length (2^x))):=by
 refine a0d a0r c0c (by kernel_rfl) rfl ?_
 have h64:=hg.n64
 have hes:=hg.len
 refine a0a (a1m hw) ?_
 refine a0v (a0Z hx) rfl ?_
 simp only[cA,nA]
 refine a0j el_edge rfl rfl hw rfl ?_
 refine a0S (α:=Nat) (fun r=>[uv (a2A set es r (2^x)),ii (r:Nat)]) (fun r=>r<=es.length) (fun r=>es.length-r) (0) rfl (Nat.zero_le _) fun r hQ=> ?_
 simp only[cA,nA]
 refine a0a ⟨_,rfl⟩ ?_
 refine a0a ⟨_,rfl⟩ ?_
 refine a0e (b:=decide (((r:Nat):Int)<(es.length:Nat))) rfl (fun h=> ?_) (fun h=> ?_)
 ·replace h:=of_decide_eq_true h
  have hS:=(a2a (set:=set) hg.e64 (a0N hx) r).1
  generalize hSe:a2A set es r (2^x)=S at hS
  refine a0S (α:=Nat) (fun j=>[uv (rnd set (es.take j) S),ii (j:Nat)]) (fun j=>j<=es.length) (fun j=>es.length-j) (0) rfl (Nat.zero_le _) fun j hQ2=> ?_
  simp only[cA,nA]
  refine a0j el_edge rfl rfl hw rfl ?_
  refine a0a ⟨_,rfl⟩ ?_
  refine a0a ⟨_,rfl⟩ ?_
  refine a0e (b:=decide (((j:Nat):Int)<(es.length:Nat))) rfl (fun h2=> ?_) (fun h2=> ?_)
  ·replace h2:=of_decide_eq_true h2
   have hj':j<es.length:=by omega
   obtain⟨e,he,hde⟩:=a1j hj'
   obtain⟨he1,he2⟩:=hg.mem he
   have hR:=b0j (set:=set) (L:=es.take j) (fun a ha=>hg.e64 a (List.mem_of_mem_take ha)) hS
   have hst:rnd set (es.take (j+1)) S=rst set (rnd set (es.take j) S) e:=by rw[take_snoc he,a9l]
   generalize rnd set (es.take j) S=R at hR hst
   refine a4Y rfl rfl rfl rfl rfl (fun _=>rfl) (fun _=>rfl) (fun _=>rfl) hw he rfl (fun _=>rfl) (fun _ _=>rfl) fun _ _=> ?_
   simp only[cA,nA]
   refine a4Z rfl rfl rfl rfl rfl (fun _=>rfl) (fun _=>rfl) (fun _=>rfl) hw he rfl (fun _=>rfl) (fun _ _=>rfl) fun _ _=> ?_
   simp only[cA,nA]
   refine a0a ⟨_,rfl⟩ ?_
   refine a8J (by show Value.bool (((j:Nat):Int) != -1)=_;exact(bN _ _).trans (congrArg Value.bool (decide_eq_true (by omega)))) ?_
   refine a0v (a0P hs (by omega)) rfl ?_
   simp only[cA,nA]
   refine a0a ⟨_,rfl⟩ ?_
   refine a0e (b:=bit set e.1) rfl (fun b1=> ?_) (fun b1=> ?_)
   ·skip
    refine a0v (a0P hs (by omega)) rfl ?_
    simp only[cA,nA]
    refine a0a ⟨_,rfl⟩ ?_
    refine a0e (b:=bit set e.2) rfl (fun b2=> ?_) (fun b2=> ?_)
    ·skip
     refine a0v (a0P hR (by omega)) rfl ?_
     simp only[cA,nA]
     refine a0a ⟨_,rfl⟩ ?_
     refine a0e (b:=bit R e.1) rfl (fun b3=> ?_) (fun b3=> ?_)
     ·skip
      refine a0v (a0Z (n:=e.1) (by omega)) rfl ?_
      simp only[cA,nA]
      refine a0a ⟨_,rfl⟩ ?_
      refine a0a ⟨_,rfl⟩ ?_
      refine a0v (a0Z (n:=e.2) (by omega)) rfl ?_
      simp only[cA,nA]
      refine a0a ⟨_,rfl⟩ ?_
      exact⟨j+1,by omega,(a1s (by rw[hst,c0s b1 b2 (.inl b3)];exact a9y (a9y rfl rfl hR (a0N (by omega))) rfl (a4L hR (a0N (by omega))) (a0N (by omega))) (a0x rfl (by omega))),⟨by omega,rfl⟩⟩
     ·skip
      refine a0v (a0P hR (by omega)) rfl ?_
      simp only[cA,nA]
      refine a0a ⟨_,rfl⟩ ?_
      refine a0e (b:=bit R e.2) rfl (fun b4=> ?_) (fun b4=> ?_)
      ·skip
       refine a0v (a0Z (n:=e.1) (by omega)) rfl ?_
       simp only[cA,nA]
       refine a0a ⟨_,rfl⟩ ?_
       refine a0a ⟨_,rfl⟩ ?_
       refine a0v (a0Z (n:=e.2) (by omega)) rfl ?_
       simp only[cA,nA]
       refine a0a ⟨_,rfl⟩ ?_
       exact⟨j+1,by omega,(a1s (by rw[hst,c0s b1 b2 (.inr b4)];exact a9y (a9y rfl rfl hR (a0N (by omega))) rfl (a4L hR (a0N (by omega))) (a0N (by omega))) (a0x rfl (by omega))),⟨by omega,rfl⟩⟩
      ·skip
       exact⟨j+1,by omega,(a1s (by rw[hst,c0t (.inr (.inr ⟨b3,b4⟩))];rfl) (a0x rfl (by omega))),⟨by omega,rfl⟩⟩
    ·skip
     exact⟨j+1,by omega,(a1s (by rw[hst,c0t (.inr (.inl b2))];rfl) (a0x rfl (by omega))),⟨by omega,rfl⟩⟩
   ·skip
    exact⟨j+1,by omega,(a1s (by rw[hst,c0t (.inl b1)];rfl) (a0x rfl (by omega))),⟨by omega,rfl⟩⟩
  ·replace h2:=of_decide_eq_false h2
   have hje:j=es.length:=by omega
   exact⟨r+1,by omega,(a1s (by rw[show a2A set es (r+1) (2^x)=rnd set es S from by rw[<-hSe];rfl,hje,List.take_length];rfl) (a0x rfl (by omega))),⟨by omega,rfl⟩⟩
 ·replace h:=of_decide_eq_false h
  have hre:r=es.length:=by omega
  exact a0f rfl ⟨rfl,by rw[hre];rfl⟩
theorem b6i (hw:SG H w es) (hg:GV n es) (hs:set<2^n):Con prog 106 [gv n w,uv set] H fun u H'=>PH.le H H'/\∃l,SU H' u l/\(l.length=1↔Cn es set):=by
 refine a0d a0r c0d (by kernel_rfl) rfl ?_
 have h64:=hg.n64
 have hs':=a3X h64 hs
 refine a0a (a1m hw) ?_
 refine a0n (α:=Value×Nat×List Nat×Nat) (fun⟨v,done,l,i⟩=>[v,uv done,ii (i:Nat)]) (fun⟨v,done,l,i⟩=>fun H'=>PH.le H H'/\SO H H' 34 1 (fun s:Nat=>[uv s]) v l/\done<M64/\i<=n/\l.length<=i/\(∀y,y<i->bit set y=true->bit done y=true)/\CS es set (sdf set done) l.length) (fun⟨v,done,l,i⟩=>n-i) ((.slice none 0 0,0,[],0)) rfl (⟨PH.le.refl _,SO.nil _ _ _ _ _,by decide,Nat.zero_le _,Nat.le_refl _,fun y hy=>by omega,.inl ⟨rfl,a1y fun y=>by rw[a1T,a1L];simp⟩⟩) fun⟨v,done,l,i⟩ H' hQ=> ?_
 simp only[cA,nA]
 obtain⟨l1,o1,hd,hi,hli,hall,hC⟩:=hQ
 refine a0a ⟨_,rfl⟩ ?_
 refine a0a ⟨_,rfl⟩ ?_
 refine a0e (b:=decide (((i:Nat):Int)<(n:Nat))) rfl (fun h=> ?_) (fun h=> ?_)
 ·replace h:=of_decide_eq_true h
  refine a0v (a0P hs' (by omega)) rfl ?_
  simp only[cA,nA]
  refine a0a ⟨_,rfl⟩ ?_
  refine a0e (b:=bit set i) rfl (fun h1=> ?_) (fun h1=> ?_)
  ·skip
   refine a0v (a0P hd (by omega)) rfl ?_
   simp only[cA,nA]
   refine a0a ⟨_,rfl⟩ ?_
   refine a0e (b:= !bit done i) rfl (fun h2=> ?_) (fun h2=> ?_)
   ·skip
    have h2:bit done i=false:=by simpa using h2
    have hcl:=d3u hg h1 (by omega)
    refine a1e (b6h (hw.mono l1) hg hs' (by omega)) rfl ?_
    simp only[cA,nA]
    generalize a2A set es es.length (2^i)=part at hcl
    refine a2z el_u64 rfl rfl rfl (fun _=>rfl) (fun _=>rfl) l1 o1 (by omega) rfl (fun _=>rfl) rfl fun q v2 H2 l2 o2=> ?_
    simp only[cA,nA]
    refine a0a ⟨_,rfl⟩ ?_
    refine a0a ⟨_,rfl⟩ ?_
    exact⟨(v2,done|||part,l++[part],i+1),by show n-(i+1)<n-i;omega,(a7m rfl (a9y rfl rfl hd hcl.1) (a0x rfl (by omega))),⟨l2,o2,a4L hd hcl.1,by show i+1<=n;omega,by rw[List.length_append];simp only[List.length_cons,List.length_nil];show _<=i+1;omega,fun y hy hb=>by rw[a0T];rcases Nat.lt_succ_iff_lt_or_eq.1 hy with hy|hy;(rw[hall y hy hb];rfl);(subst hy;rw[(hcl.2 y).2 .base];simp),by rw[List.length_append];have hn:=hC.next (by rw[a1T,h1,h2];rfl) h1 hcl;rw[show sdf set (done|||part)=sdf (sdf set done) part from a1y fun y=>by rw[a1T,a1T,a1T,a0T];cases bit set y<;>cases bit done y<;>cases bit part y<;>rfl];exact hn⟩⟩
   ·skip
    have h2:bit done i=true:=by simpa using h2
    exact⟨(v,done,l,i+1),by show n-(i+1)<n-i;omega,(a7m rfl rfl (a0x rfl (by omega))),⟨l1,o1,hd,by show i+1<=n;omega,Nat.le_succ_of_le hli,fun y hy hb=>by rcases Nat.lt_succ_iff_lt_or_eq.1 hy with hy|hy;(exact hall y hy hb);(subst hy;exact h2),hC⟩⟩
  ·skip
   exact⟨(v,done,l,i+1),by show n-(i+1)<n-i;omega,(a7m rfl rfl (a0x rfl (by omega))),⟨l1,o1,hd,by show i+1<=n;omega,Nat.le_succ_of_le hli,fun y hy hb=>by rcases Nat.lt_succ_iff_lt_or_eq.1 hy with hy|hy;(exact hall y hy hb);(subst hy;rw[h1]at hb;cases hb),hC⟩⟩
 ·replace h:=of_decide_eq_false h
  have h0:sdf set done=0:=a1y fun y=>by
   rw[a1T,a1L]
   cases hy:bit set y with
   |false=>rfl
   |true=>rw[hall y (by have:=c9N hs hy;omega) hy];rfl
  rw[h0]at hC
  exact a0f rfl ⟨l1,l,o1.se,hC.end⟩
theorem b2y (hw:SG H w es) (hg:GV n es) (hs:set<2^n):a8O prog 46 [gv n w,uv set] H (.bool (cnB es set)):=by
 refine a0d a0r c0e (by kernel_rfl) rfl ?_
 refine a0a (a1m hw) ?_
 refine a0h (b6i hw hg hs) rfl ?_
 rintro u H2 ⟨l2,l,hl,hc⟩
 refine⟨fun h=>(nomatch h),?_⟩
 simp only[cA,nA]
 have e:cnB es set=decide (l.length=1):=by rw[Bool.eq_iff_iff,cnB_iff,<-hc];simp
 refine a0j el_u64 rfl rfl hl rfl ?_
 refine a0a ⟨_,rfl⟩ ?_
 exact a0f rfl ⟨l2,by rw[e];show Value.bool (((l.length:Nat):Int)==1)=_;rw[bE];exact congrArg Value.bool (decide_eq_decide.2 (by omega))⟩
end
end Go.Proofs.YtkcjbfoejpfbbaaGreatDoor

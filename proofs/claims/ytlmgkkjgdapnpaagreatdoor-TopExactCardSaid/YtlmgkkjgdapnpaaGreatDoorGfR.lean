/- Spreads: keys, masses, sorting. -/
import Derived.Test.YtlmgkkjgdapnpaaGreatDoorGfN
import Derived.Test.YtlmgkkjgdapnpaaGreatDoorGoT
import Derived.Test.YtlmgkkjgdapnpaaGreatDoorGqT
namespace Go.Proofs.YtlmgkkjgdapnpaaGreatDoor
open Go.Proofs.Tryz
open Go.RowKit Go.RX Go.GS Go.RZ Go.WD
set_option maxRecDepth 100000
theorem d5v:b2M prog 61:=by
 have big:6<=(prog).types.size+1:=of_decide_eq_true (by kernel_rfl)
 exact⟨by kernel_rfl,by kernel_rfl,by kernel_rfl,by kernel_rfl,by kernel_rfl,big⟩
def wsA (n:Nat):List AV:=[wA (dig n 0),wA (dig n 1),wA (dig n 2),wA (dig n 3),wA (dig n 4),wA (dig n 5),wA (dig n 6),wA (dig n 7)]
def shA (r:Rat):List AV:=wsA (rs r.num)++wsA (rs (r.den:Int))
theorem b5n (n:Nat) (d:Nat):b0l prog (d+2) 59 (wsA n)=true:=by
 have hu:prog.underlying 59=some (.array 8 57):=by kernel_rfl
 have h1:prog.cellsOf 59=8:=by kernel_rfl
 have h2:prog.cellsOf 57=1:=by kernel_rfl
 have hr:List.range 8=[0,1,2,3,4,5,6,7]:=by decide
 have f:∀i,b0l prog (d+1) 57 [wA (dig n i)]=true:=fun i=>b3H (a6p n i) d
 unfold b0l
 rw[hu]
 simp only[h1,h2,hr,List.all_cons,List.all_nil,Bool.and_true]
 rw[Bool.and_eq_true]
 refine⟨rfl,?_⟩
 simp only[Bool.and_eq_true]
 exact⟨f 0,f 1,f 2,f 3,f 4,f 5,f 6,f 7⟩
theorem d5w (r:Rat):b0l prog 6 61 (shA r)=true:=by
 have hu:prog.underlying 61=some (.struct (fieldsOf prog 61)):=by kernel_rfl
 have h1:prog.cellsOf 61=16:=by kernel_rfl
 have h2:prog.cellsOf 59=8:=by kernel_rfl
 have hf:(fieldsOf prog 61).toList.map (fun f=>(f.type,f.offset))=[(59,0),(59,8)]:=by kernel_rfl
 unfold b0l
 rw[hu]
 simp only[h1]
 rw[Bool.and_eq_true]
 refine⟨rfl,?_⟩
 rw[show(fun f:Field=>b0l prog 5 f.type (((shA r).drop f.offset).take (prog.cellsOf f.type)))=(fun q:TypeId×Nat=>b0l prog 5 q.1 (((shA r).drop q.2).take (prog.cellsOf q.1))) ∘ (fun f:Field=>(f.type,f.offset))from rfl,<-List.all_map,hf]
 simp only[List.all_cons,List.all_nil,Bool.and_true,h2,Bool.and_eq_true]
 exact⟨b5n (rs r.num) 3,b5n (rs (r.den:Int)) 3⟩
theorem d7n (σ:Rl) (r:Rat):rz σ (.agg (shA r))=shR r:=rfl
theorem d2R {a b:Rat} (ha:Rg a) (hb:Rg b) (h:shR a=shR b):a=b:=by
 rw[<-a9c ha,<-a9c hb]
 unfold shR shv at h
 injection h with h
 have e0:=congrArg (fun z:Array Value=>z.extract 0 8) h
 have e1:=congrArg (fun z:Array Value=>z.extract 8 16) h
 simp only[b8R,b8S]at e0 e1
 have h0:toI (rs a.num)=toI (rs b.num):=by unfold toI;rw[b1m e0]
 have h1:toI (rs (a.den:Int))=toI (rs (b.den:Int)):=by unfold toI;rw[b1m e1]
 unfold a2q
 rw[h0,h1]
theorem b2p:d0V prog 61 Rg shR:=c7Z (ce:=shA) d5v (fun r _=>d5w r) d7n fun a b ha hb h=>d2R ha hb h
def MaT:Type:={q:Rat×Rat//Rg q.1/\Rg q.2}
instance:Inhabited MaT:=⟨⟨(0,0),b9a,b9a⟩⟩
@[irreducible] def shw (r:Rat):Array Value:=words (rs r.num)++words (rs (r.den:Int))
@[simp] theorem a0Q (r:Rat):(shw r).size=16:=by unfold shw;exact(a0s _ _).1
theorem a3m (r:Rat):shR r= .agg (shw r):=by unfold shw;rfl
theorem a4e (r:Rat):a0p (shw r):=by unfold shw;exact(a0s _ _).2
def veM (q:MaT):Value:= .agg (shw q.1.1++shw q.1.2)
def ceM (q:MaT):List Value:=(shw q.1.1++shw q.1.2).toList
theorem a1C (q:MaT):(veM q).cells.size=32/\a0p (veM q).cells:=⟨by show(shw q.1.1++shw q.1.2).size=32;rw[Array.size_append,a0Q,a0Q],a2k (a4e _) (a4e _)⟩
theorem el_mass:El prog 43 72 32 true ceM veM where
 und:=by kernel_rfl
 has:=by kernel_rfl
 cel:=by kernel_rfl
 agg:=by kernel_rfl
 pos:=by decide
 one1:=fun h=>by cases h
 small:=by decide
 inf:=⟨(prog.info? 72).getD default,.agg (Array.replicate 32 (.int .u64 0)),by kernel_rfl,by kernel_rfl,by kernel_rfl,rfl,of_decide_eq_true (by kernel_rfl)⟩
 len:=fun p=>by unfold ceM;rw[Array.length_toList,Array.size_append,a0Q,a0Q]
 val:=fun p=>rfl
 cells:=fun p=>rfl
 one:=fun p c hc=>(a1C p).2 c hc
theorem b2q (q:MaT):Value.agg ((shw q.1.1++shw q.1.2).extract 0 16)=shR q.1.1:=by
 rw[a3m]
 congr 1
 apply Array.ext'
 have:=a0Q q.1.1
 simp[List.take_of_length_le,this]
theorem d7o (q:MaT):Value.agg ((shw q.1.1++shw q.1.2).extract 16 32)=shR q.1.2:=by
 rw[a3m]
 congr 1
 apply Array.ext'
 have h1:=a0Q q.1.1
 have h2:=a0Q q.1.2
 simp[List.take_of_length_le,h1,h2]
end Go.Proofs.YtlmgkkjgdapnpaaGreatDoor
/- Spreads: sorting. -/
namespace Go.Proofs.YtlmgkkjgdapnpaaGreatDoor
open Go.Proofs.Tryz
open Go.RowKit Go.RX Go.GS Go.RZ Go.WD
set_option maxRecDepth 100000
section
variable {H B:PH} {u v w:Value}
theorem a8s {r:Rat} (hr:Rg r):Con prog 40 [shR r] H fun u H'=>PH.le H H'/\Rp H' u r:=by
 obtain⟨h1,h2⟩:=c9Z hr
 exact(a3f _ _).mono fun u H' h=>⟨h.1,h.2.rp (a3T h1).symm (a3T h2).symm⟩
theorem a6T {x y:Value} {r q:Rat} (hx:Rp H x r) (hy:Rp H y q) (hr:Rg r) (hq:Rg q):Con prog 41 [x,y] H fun u H'=>PH.le H H'/\u=ii (sgR r q):=by
 obtain⟨j,hj,hr⟩:=hr
 obtain⟨k,hk,hq⟩:=hq
 exact b1w hx hy hr hq (by omega)
theorem c1Q:a1q prog 102=true:=by kernel_rfl
theorem b6F (a b:MaT):a1g prog 102 [veM a,veM b] H (ii (sgR a.1.1 b.1.1)):=by
 refine a0b mixed c6I (by kernel_rfl) rfl ?_
 refine a0a (a1C a) ?_
 refine a0a (a1C b) ?_
 refine a0d (a8s a.2.1) (congrArg (fun z=>[z]) (b2q a)) ?_
 rintro v2 H1 ⟨l1,q1⟩
 refine⟨(fun _=>l1),?_⟩
 simp only[cA,nA]
 refine a0d (a8s b.2.1) (congrArg (fun z=>[z]) (b2q b)) ?_
 rintro v3 H2 ⟨l2,q2⟩
 refine⟨(fun _=>l2),?_⟩
 simp only[cA,nA]
 refine a0d (a6T (q1.mono l2) q2 a.2.1 b.2.1) rfl ?_
 rintro _ H3 ⟨l3,rfl⟩
 refine⟨(fun _=>l3),?_⟩
 simp only[cA,nA]
 exact a0c rfl ⟨l1.trans (l2.trans l3),rfl⟩
theorem b5o (v:Value):Asks prog 56 [v,ii 0] H v:=by
 refine a0b mixed d2I (by kernel_rfl) rfl ?_
 refine a0a ⟨_,rfl⟩ ?_
 refine a0e (bF (p:=(0:Int)≠0) (by simp)) ?_
 exact a0c rfl ⟨rfl,rfl⟩
theorem b2r {a b:Rat} (ha:Rg a) (hb:Rg b):a1g prog 57 [shR a,shR b] H (.tuple #[ii (sgR a b),ii 0]):=
 (c4Y _ _ _ _).mono fun u H' h=>⟨h.1,by
  rw[h.2,b8Z ha,b8Z hb,a9c ha,a9c hb]
  unfold d6L
  rw[if_pos (show(true&&true)=true from rfl)];rfl⟩
theorem c1R:a1q prog 74=true:=by kernel_rfl
theorem b6G (a b:MaT):a1g prog 74 [veM a,veM b] H (ii (sgR a.1.1 b.1.1)):=by
 refine a0b mixed c6O (by kernel_rfl) rfl ?_
 refine a0a (a1C a) ?_
 refine a0a (a1C b) ?_
 refine a0h (b2r a.2.1 b.2.1) (a0R (b2q a) (b2q b)) fun H1 l1=> ?_
 simp only[cA,nA]
 refine a0a ⟨_,rfl,by simp⟩ ?_
 refine a0a ⟨_,rfl,by simp⟩ ?_
 refine a0q (b5o _) rfl ?_
 simp only[cA,nA]
 exact a0c rfl ⟨l1,rfl⟩
theorem sgR_neg {a b:Rat}:sgR a b<0↔a<b:=by
 unfold sgR
 split
 ·rename_i h;exact⟨fun _=>h,fun _=>by decide⟩
 ·rename_i h;split<;>exact⟨fun e=>absurd e (by decide),fun e=>absurd e h⟩
theorem c6S:Go.Sort.SWO (Go.Proofs.ltOf fun x y:MaT=>sgR x.1.1 y.1.1) where
 irrefl:=fun x=>by unfold Go.Proofs.ltOf;rw[decide_eq_false_iff_not,sgR_neg];exact Rat.lt_irrefl
 trans:=fun x y z h1 h2=>by
  unfold Go.Proofs.ltOf at*
  rw[decide_eq_true_iff,sgR_neg]at*
  grind
 ntrans:=fun x y z h1 h2=>by
  unfold Go.Proofs.ltOf at*
  rw[decide_eq_false_iff_not,sgR_neg,Rat.not_lt]at*
  exact Rat.le_trans h2 h1
theorem b5p {g:FuncId} {l:List MaT} (eg:a1q prog g=true) (hle:PH.le B H) (ho:SO B H 72 32 ceM v l) (h0:l≠[]) (hl:l.length<=1000000) (h:∀x y,a1g prog g [veM x,veM y] B (ii (sgR x.1.1 y.1.1))):
  Con prog 73 [v,.func (.func g) #[] #[]] H fun _ H'=>PH.le B H'/\∃m:List MaT,m.Perm l/\m.Pairwise (fun a b=>¬sgR b.1.1 a.1.1<0)/\SO B H' 72 32 ceM v m:=by
 refine a0b mixed d2O (by kernel_rfl) rfl ?_
 have hbl:blen l.length<4611686018427387904:=Nat.lt_of_le_of_lt (blen_le (k:=20) (by omega)) (by decide)
 refine a0j el_mass rfl rfl ho.se rfl ?_
 refine a0a ⟨_,rfl⟩ ?_
 refine a1o (b9M (s:=l.length) (by simp only[M64];omega)) (a1R (b3A rfl (by simp only[M64];omega))) ?_
 simp only[cA,nA]
 refine a0d (c6t (P:=prog) (ρ:=Tryz.srtM_ren) (k:=32) Tryz.srtM (d5i (by kernel_rfl) (by kernel_rfl)) (d5j (n:=32) (by kernel_rfl) (by kernel_rfl)) el_mass.len (fun x=>(a1C x).2) c6S (g:=g) (cb:= #[]) eg hle ho h0 (by omega) (fun x y=>h x y) (blen l.length) hbl) rfl ?_
 rintro _ H8 ⟨l8,m,hm1,hm2,o8⟩
 refine⟨fun h=>(nomatch h),?_⟩
 simp only[cA,nA]
 exact a0c rfl ⟨l8,m,hm1,hm2,o8⟩
end
end Go.Proofs.YtlmgkkjgdapnpaaGreatDoor
/- Spreads: tallies. -/
namespace Go.GS
def qN (c n:Nat):Rat:=Rat.divInt ((c:Nat):Int) ((n:Nat):Int)
theorem c1S {a b n:Nat} (h:0<n):qN a n+qN b n=qN (a+b) n:=by
 unfold qN
 rw[Rat.divInt_eq_div,Rat.divInt_eq_div,Rat.divInt_eq_div,Int.natCast_add,Rat.intCast_add]
 have h2:(((n:Nat):Int):Rat)≠0:=fun e=>by
  have:=Rat.intCast_inj.1 (e.trans (show(0:Rat)=((0:Int):Rat)from rfl));omega
 grind
theorem d5x {n:Nat} (h:0<n):qN n n=1:=by
 unfold qN
 rw[Rat.divInt_eq_div]
 have h2:(((n:Nat):Int):Rat)≠0:=fun e=>by
  have:=Rat.intCast_inj.1 (e.trans (show(0:Rat)=((0:Int):Rat)from rfl));omega
 grind
theorem d5y {n:Nat}:(((1:Int):Rat)/(((n:Nat):Int):Rat))=qN 1 n:=by unfold qN;rw[Rat.divInt_eq_div];rfl
end Go.GS
namespace Go.Proofs.YtlmgkkjgdapnpaaGreatDoor
open Go.Proofs.Tryz
open Go.RowKit Go.RX Go.GS Go.RZ Go.WD
set_option maxRecDepth 100000
theorem b3N {c n:Nat} (hn:0<n) (h1:c<2^20) (h2:n<2^20):Rb 20 (qN c n):=a5o (by omega) (by omega) (by omega)
theorem c1T {c n:Nat} (hn:0<n) (h1:c<2^20) (h2:n<2^20):Rg (qN c n):=b3w (b3N hn h1 h2) (by decide)
theorem a1W {H:PH} {v:Value} {r:Rat} (h:Rp H v r):Value.agg v.cells=v:=by
 obtain⟨w1,w2,rfl,_⟩:=h;rfl
theorem b3O {H:PH} {v:Value} {q:Rat} {r c:Nat} {E:Array MapEntry} {ob:Obj} (hr:H r=some (.map E c)) (h:Rp H v q):Rp (H.put r ob) v q:=by
 obtain⟨w1,w2,rfl,⟨l1,h1,h2⟩,⟨l2,h3,h4⟩⟩:=h
 have key:∀{sz n:Nat} {v:Value} {xs:List Value},Sl H sz v n xs->Sl (H.put r ob) sz v n xs:=fun h=>by
  obtain⟨h1,a,c',h2,h3,h4,h5⟩:=h
  refine⟨h1,a,c',h2,h3,h4,h5.imp id ?_⟩
  rintro⟨g,o,cs,T,fz,g1,g2,g3⟩
  exact⟨g,o,cs,T,fz,g1,by rw[PH.put_ne _ _ (fun e=>by subst e;rw[hr]at g2;cases g2)];exact g2,g3⟩
 exact⟨w1,w2,rfl,⟨l1,⟨key h1.1,h1.2⟩,h2⟩,⟨l2,⟨key h3.1,h3.2⟩,h4⟩⟩
def TalP (l:List Rat) (m:List MaT):Prop:=m.Pairwise (fun a b=>a.1.1<b.1.1)/\∀q:Rat×Rat,(∃x∈m,x.1=q)↔(q.1∈l/\q.2=qN (l.count q.1) l.length)
def d3z (B H:PH) (m:Value) (l:List Rat) (i:Nat):Prop:=∃L:List (Rat×Value),MKO Rg shR B H m L/\(∀r,r∈L.map (·.1)↔r∈l.take i)/\∀q∈L,Rp H q.2 (qN ((l.take i).count q.1) l.length)
section
variable {H B:PH} {u v w e:Value} {l:List Rat} {i:Nat}
theorem a8t:prog.underlying 108=some (.map 61 115):=by kernel_rfl
def zrat:Value:= .agg #[.bool false,.slice none 0 0,.bool false,.slice none 0 0]
theorem d5z:∀w,(zeroValue 115).run prog w= .ok zrat w:=fun w=>by rfl
theorem c6T:zrat.cells.size=4/\a0p zrat.cells:=⟨rfl,fun c hc=>by
 simp[zrat,Value.cells]at hc
 rcases hc with rfl|rfl|rfl|rfl<;>rfl⟩
theorem c6U {r:Rat} (hle:PH.le B H) (hM:d3z B H v l i) (hr:l[i]? =some r) (hg:Rg r) (he:Rp H e (qN 1 l.length)) (hl:l.length<=1000):Con prog 38 [v,shR r,e] H fun _ H'=>PH.le B H'/\d3z B H' v l (i+1)/\Rp H' e (qN 1 l.length):=by
 refine a0b mixed d2s (by kernel_rfl) rfl ?_
 have hi:=(List.getElem?_eq_some_iff.1 hr).1
 obtain⟨L,o1,hk,hv⟩:=hM
 have hct:∀q,(l.take (i+1)).count q=(l.take i).count q+if r=q then 1 else 0:=fun q=>by
  rw[take_snoc hr,List.count_append,List.count_singleton]
  by_cases h:r=q
  ·rw[if_pos h,if_pos (by simpa using h)]
  ·rw[if_neg h,if_neg (by simpa using h)]
 have hcl:∀q,(l.take i).count q<=1000:=fun q=>by
  have:=List.count_le_length (a:=q) (l:=l.take i)
  rw[List.length_take]at this;omega
 have hmem:∀q,q∈l.take (i+1)↔q=r\/q∈l.take i:=fun q=>by
  rw[take_snoc hr,List.mem_append,List.mem_singleton];exact Or.comm
 have fin:∀{H1 H2:PH} {z:Value},PH.le H H1->Rp H1 z (qN ((l.take (i+1)).count r) l.length)->PH.le B H2->MKO Rg shR B H2 v (a8w L r z)->(∃g ob E c,v= .map (some g)/\B g=none/\H1 g=some (.map E c)/\H2=H1.put g ob)->PH.le B H2/\d3z B H2 v l (i+1)/\Rp H2 e (qN 1 l.length):=by
  intro H1 H2 z l1 hz l2 o2 hg
  obtain⟨g,ob,E,c,-,-,hgm,rfl⟩:=hg
  refine⟨l2,⟨_,o2,fun q=> ?_,fun q hq=> ?_⟩,b3O hgm (he.mono l1)⟩
  ·rw[hmem]
   constructor
   ·intro hq
    obtain⟨x,hx,rfl⟩:=List.mem_map.1 hq
    rcases a2N (x:=x.1) (y:=x.2) hx with⟨h,_⟩|⟨_,h⟩
    ·exact .inl h
    ·exact .inr ((hk _).1 (List.mem_map.2 ⟨_,h,rfl⟩))
   ·rintro(rfl|hq)
    ·exact List.mem_map.2 ⟨_,a2O,rfl⟩
    ·by_cases e:q=r
     ·subst e;exact List.mem_map.2 ⟨_,a2O,rfl⟩
     ·obtain⟨x,hx,rfl⟩:=List.mem_map.1 ((hk _).2 hq)
      exact List.mem_map.2 ⟨_,a5w (x:=x.1) (y:=x.2) hx e,rfl⟩
  ·rcases a2N (x:=q.1) (y:=q.2) hq with⟨h1,h2⟩|⟨h0,h1⟩
   ·rw[h2,h1];exact b3O hgm hz
   ·rw[hct,if_neg (fun e=>h0 e.symm),Nat.add_zero]
    exact b3O hgm ((hv _ h1).mono l1)
 refine a0a (a0s _ _) ?_
 refine a0a he.rq ?_
 have hlk:∃b z,((b=false/\z=zrat/\r∉L.map (·.1))\/(b=true/\(r,z)∈L)):=by
  by_cases h:r∈L.map (·.1)
  ·obtain⟨q,hq,rfl⟩:=List.mem_map.1 h
   exact⟨true,q.2,.inr ⟨rfl,hq⟩⟩
  ·exact⟨false,zrat,.inl ⟨rfl,rfl,h⟩⟩
 obtain⟨b,z,hbz⟩:=hlk
 have hzo:z.cells.size=4/\a0p z.cells:=by
  rcases hbz with⟨_,rfl,_⟩|⟨_,h⟩
  ·exact c6T
  ·exact(hv _ h).rq
 refine a0l (a5x b2p (vs:=[v,shR r]) (ok2:=true) (k:=r) (u:=z) (b:=b) rfl rfl rfl a8t hg d5z o1.mk hbz) rfl ?_
 simp only[cA,nA]
 refine a0a ⟨_,rfl,by simp⟩ ?_
 refine a0a ⟨_,rfl,by simp⟩ ?_
 refine a0a hzo ?_
 refine a0a ⟨_,rfl⟩ ?_
 refine a0f (b:=b) rfl (fun h=> ?_) (fun h=> ?_)
 ·skip
  obtain⟨_,hin⟩:=hbz.resolve_left (fun hh=>by have:=hh.1;rw[h]at this;cases this)
  have hz:=hv _ hin
  refine a0d (a5S he hz (b3N (by omega) (by decide) (by omega)) (b3N (by omega) (Nat.lt_of_le_of_lt (hcl r) (by decide)) (by omega)) (by decide)) (a0R (a1W he) (a1W hz)) ?_
  rintro v4 H1 ⟨l1,q4⟩
  refine⟨fun h=>(nomatch h),?_⟩
  simp only[cA,nA]
  rw[c1S (by omega),Nat.add_comm]at q4
  refine a0a q4.rq ?_
  refine a0n (a3z b2p (k:=r) (v:=v4) (vs:=[v,shR r,v4]) rfl rfl rfl rfl a8t hg (hle.trans l1) (o1.mono l1)) (b2K rfl rfl (a1W q4)) ?_
  rintro _ H5 ⟨rfl,l5,o5,hg5⟩
  refine⟨fun h=>(nomatch h),?_⟩
  simp only[cA,nA]
  exact a0c rfl (fin l1 (by rw[hct,if_pos rfl];exact q4) l5 o5 hg5)
 ·skip
  obtain⟨_,_,hno⟩:=hbz.resolve_right (fun hh=>by have:=hh.1;rw[h]at this;cases this)
  have hc0:(l.take i).count r=0:=List.count_eq_zero.2 (fun h=>hno ((hk r).2 h))
  refine a0n (a3z b2p (k:=r) (v:=e) (vs:=[v,shR r,e]) rfl rfl rfl rfl a8t hg hle o1) (b2K rfl rfl (a1W he)) ?_
  rintro _ H5 ⟨rfl,l5,o5,hg5⟩
  refine⟨fun h=>(nomatch h),?_⟩
  simp only[cA,nA]
  exact a0c rfl (fin (PH.le.refl _) (by rw[hct,if_pos rfl,hc0];exact he) l5 o5 hg5)
end
end Go.Proofs.YtlmgkkjgdapnpaaGreatDoor
/- Spreads: what was gathered; Tally. -/
namespace Go.Proofs.YtlmgkkjgdapnpaaGreatDoor
open Go.Proofs.Tryz
open Go.RowKit Go.RX Go.GS Go.RZ Go.WD
set_option maxRecDepth 100000
theorem c1U {l:List Rat} {m:List MaT} (hnd:(m.map fun q=>q.1.1).Nodup) (hmem:∀r,r∈(m.map fun q=>q.1.1)↔r∈l) (hp:∀q∈m,q.1.2=qN (l.count q.1.1) l.length) (hs:m.Pairwise (fun a b=>¬sgR b.1.1 a.1.1<0)):TalP l m:=by
 constructor
 ·rw[List.pairwise_iff_getElem]at hs⊢
  intro i j hi hj hij
  have h1:=hs i j hi hj hij
  rw[sgR_neg,Rat.not_lt]at h1
  have h2:m[i].1.1≠m[j].1.1:=fun e=>by
   have:=(List.pairwise_iff_getElem.1 hnd) i j (by simpa using hi) (by simpa using hj) hij
   simp only[List.getElem_map]at this
   exact this e
  exact Rat.lt_of_le_of_ne h1 h2
 ·intro q
  constructor
  ·rintro⟨x,hx,rfl⟩
   exact⟨(hmem _).1 (List.mem_map.2 ⟨x,hx,rfl⟩),hp x hx⟩
  ·rintro⟨h1,h2⟩
   obtain⟨x,hx,hxe⟩:=List.mem_map.1 ((hmem _).2 h1)
   refine⟨x,hx,Prod.ext hxe ?_⟩
   rw[hp x hx,h2,hxe]
theorem TalP.ne {l:List Rat} {m:List MaT} (h:TalP l m) (hl:l≠[]):m≠[]:=fun e=>by
 subst e
 obtain⟨a,t,rfl⟩:=List.exists_cons_of_ne_nil hl
 obtain⟨x,hx,_⟩:=(h.2 (a,qN ((a::t).count a) (a::t).length)).2 ⟨by simp,rfl⟩
 cases hx
theorem TalP.uniq {l:List Rat}:∀{m k:List MaT},TalP l m->TalP l k->m=k:=by
 have key:∀(m k:List MaT),m.Pairwise (fun a b=>a.1.1<b.1.1)->k.Pairwise (fun a b=>a.1.1<b.1.1)->(∀x,x∈m↔x∈k)->m=k:=by
  intro m
  induction m with
  |nil=>
   intro k _ _ h
   cases k with
   |nil=>rfl
   |cons a k=>exact absurd ((h a).2 (by simp)) (by simp)
  |cons a m ih=>
   intro k hm hk h
   cases k with
   |nil=>exact absurd ((h a).1 (by simp)) (by simp)
   |cons b k=>
    rw[List.pairwise_cons]at hm hk
    have hab:a=b:=by
     rcases List.mem_cons.1 ((h a).1 (by simp))with e|e
     ·exact e
     ·rcases List.mem_cons.1 ((h b).2 (by simp))with e2|e2
      ·exact e2.symm
      ·have h1:=hk.1 a e
       have h2:=hm.1 b e2
       exact absurd h1 (Rat.not_lt.2 (Rat.le_of_lt h2))
    subst hab
    congr 1
    refine ih k hm.2 hk.2 fun x=> ?_
    constructor
    ·intro hx
     rcases List.mem_cons.1 ((h x).1 (List.mem_cons_of_mem _ hx))with e|e
     ·subst e;exact absurd (hm.1 x hx) Rat.lt_irrefl
     ·exact e
    ·intro hx
     rcases List.mem_cons.1 ((h x).2 (List.mem_cons_of_mem _ hx))with e|e
     ·subst e;exact absurd (hk.1 x hx) Rat.lt_irrefl
     ·exact e
 intro m k hm hk
 refine key m k hm.1 hk.1 fun x=> ?_
 constructor
 ·intro hx
  obtain⟨y,hy,hxy⟩:=(hk.2 x.1).2 ((hm.2 x.1).1 ⟨x,hx,rfl⟩)
  exact(Subtype.ext hxy) ▸ hy
 ·intro hx
  obtain⟨y,hy,hxy⟩:=(hm.2 x.1).2 ((hk.2 x.1).1 ⟨x,hx,rfl⟩)
  exact(Subtype.ext hxy) ▸ hy
section
variable {H B:PH} {u v w e:Value} {l:List Rat} {i:Nat}
theorem a2g (r:Rat):(shR r).cells=shw r:=by rw[a3m];rfl
theorem c1V:FA prog 110 0 0:=⟨by kernel_rfl,of_decide_eq_true (by kernel_rfl),by kernel_rfl,by kernel_rfl,of_decide_eq_true (by kernel_rfl)⟩
theorem d5A:FA prog 110 1 1:=⟨by kernel_rfl,of_decide_eq_true (by kernel_rfl),by kernel_rfl,by kernel_rfl,of_decide_eq_true (by kernel_rfl)⟩
theorem c1W:Sc prog 108:=⟨by kernel_rfl,by kernel_rfl,by kernel_rfl⟩
theorem a3J:Sc prog 4:=⟨by kernel_rfl,by kernel_rfl,by kernel_rfl⟩
theorem c6V {b:Nat} {T:TypeId} (hb:H b=some (.cells #[v,.bool false] T (0,0))) (hM:d3z B H v l l.length) (hn:l≠[]) (hl:l.length<=400):Con prog 39 [.pointer (some ⟨b,0,none⟩)] H fun r H'=>PH.le H H'/\∃t m,r= .tuple #[t,ii 0]/\SE H' 32 ceM t m/\TalP l m:=by
 refine a0b mixed d2t (by kernel_rfl) rfl ?_
 have hl0:0<l.length:=List.length_pos_iff.2 hn
 obtain⟨L,o1,hk,hv⟩:=hM
 rw[List.take_length]at hk hv
 have hmk:=o1.mk
 obtain⟨r,es,clock,rfl,-,hHr,hE,hkv⟩:=id o1
 have hkeys:es.map (·.1)=L.map (·.1):=by rw[<-hkv];unfold kvN;rw[List.map_map];rfl
 have hLl:L.length<=400:=by
  have:=List.Nodup.length_le_of_subset hmk.keys.1 (l₂:=l) fun x hx=>(hk x).1 hx
  rw[List.length_map]at this;omega
 have hel:es.length=L.length:=by have:=congrArg List.length hkeys;simpa using this
 have hcl:∀q,l.count q<=400:=fun q=>by have:=List.count_le_length (a:=q) (l:=l);omega
 refine a0u (ad:=⟨b,0,none⟩) rfl rfl rfl ?_
 simp only[cA,nA]
 refine a0i c1V rfl rfl rfl ?_
 simp only[cA,nA]
 refine a0g c1W rfl rfl hb rfl rfl ?_
 simp only[cA,nA]
 refine a0l (b4T (vs:=[.map (some r)]) rfl rfl a8t hmk) rfl ?_
 simp only[cA,nA]
 refine a0a ⟨_,rfl⟩ ?_
 refine a0e (bF (p:=((L.length:Nat):Int)>400) (by omega)) ?_
 refine a0u (ad:=⟨b,0,none⟩) rfl rfl rfl ?_
 simp only[cA,nA]
 refine a0i c1V rfl rfl rfl ?_
 simp only[cA,nA]
 refine a0g c1W rfl rfl hb rfl rfl ?_
 simp only[cA,nA]
 refine a0n (a4q (κ:=Rat) (ke:=shR) (vs:=[.map (some r)]) rfl rfl a8t hHr) rfl ?_
 rintro _ _ ⟨q,hq,rfl,rfl⟩
 refine⟨fun h=>(nomatch h),?_⟩
 simp only[cA,nA]
 have hrq:r≠q:=fun e=>by subst e;rw[hHr]at hq;cases hq
 have hI0:IT shR (H.put q (.mapIter (some r) clock #[] clock)) q r es clock []:=⟨PH.put_self _ _ _,by rw[PH.put_ne _ _ hrq];exact hHr⟩
 refine a0o (α:=List Nat×Value×List MaT) (fun⟨seen,out,m⟩=>[out]) (fun⟨seen,out,m⟩=>fun H'=>PH.le H H'/\IT shR H' q r es clock seen/\SO H H' 72 32 ceM out m/\((m.map fun q=>q.1.1)++(left es seen).map (·.1)).Perm (es.map (·.1))/\(∀q∈m,q.1.2=qN (l.count q.1.1) l.length)) (fun⟨seen,out,m⟩=>(left es seen).length) (([],.slice none 0 0,[])) rfl (⟨PH.le_put hq _,hI0,SO.nil _ _ _ _ _,by rw[a6R];exact List.Perm.refl _,(fun q hq=>nomatch hq)⟩) fun⟨seen,out,m⟩ H4 ⟨l4,it4,o4,hpm,hds⟩=> ?_
 simp only[cA,nA]
 refine a0n (a5y (ok:=Rg) (ke:=shR) (vs:=[.pointer (some ⟨q,0,none⟩)]) rfl rfl hE it4) rfl ?_
 rintro v6 H5 hnx
 refine⟨fun h=>(nomatch h),?_⟩
 simp only[cA,nA]
 obtain⟨bb,x,y,rfl,hbx⟩:=a6Q hnx
 refine a0a (b0v bb x y) ?_
 refine a0a ⟨bb,a2Q bb x y⟩ ?_
 refine a0f (b:=bb) (a2Q bb x y) (fun hb1=> ?_) (fun hb1=> ?_)
 ·skip
  obtain⟨e,he,rfl,rfl,rfl⟩:∃p∈left es seen,x=shR p.1/\y=p.2.1/\H5=H4.put q (.mapIter (some r) clock (seen++[p.2.2]).toArray clock):=by
   rcases hbx with⟨h,_⟩|⟨_,h⟩
   ·rw[hb1]at h;cases h
   ·exact h
  subst hb1
  have heE:e∈es:=(List.mem_filter.1 he).1
  have heL:(e.1,e.2.1)∈L:=by rw[<-hkv];exact List.mem_map.2 ⟨e,heE,rfl⟩
  have hRp:=hv _ heL
  have hRg:Rg e.1:=hE.oks e heE
  have hQg:Rg (qN (l.count e.1) l.length):=c1T hl0 (Nat.lt_of_le_of_lt (hcl e.1) (by decide)) (by omega)
  have it5:IT shR (H4.put q (.mapIter (some r) clock (seen++[e.2.2]).toArray clock)) q r es clock (seen++[e.2.2]):=⟨PH.put_self _ _ _,by rw[PH.put_ne _ _ hrq];exact it4.2⟩
  have l5:PH.le H (H4.put q (.mapIter (some r) clock (seen++[e.2.2]).toArray clock)):=fun b' ob' hbb=>by rw[PH.put_ne _ _ (fun e=>by subst e;rw[hq]at hbb;cases hbb)];exact l4 _ _ hbb
  have o5:SO H (H4.put q (.mapIter (some r) clock (seen++[e.2.2]).toArray clock)) 72 32 ceM out m:=(a3A o4 (g:=q) (fun cs T fz=>by rw[it4.1];exact fun h=>nomatch h)).mono (PH.cut_put _ _ _)
  generalize H4.put q (.mapIter (some r) clock (seen++[e.2.2]).toArray clock)=H6 at it5 l5 o5⊢
  refine a0n (Rds.opn' (a4r (ok:=Rg) (ke:=shR) (vs:=[.pointer (some ⟨q,0,none⟩)]) rfl rfl hE heE it5)) rfl ?_
  rintro _ _ ⟨rfl,rfl⟩
  refine⟨fun h=>(nomatch h),?_⟩
  simp only[cA,nA]
  refine a0a ⟨_,rfl,by simp⟩ ?_
  refine a0a ⟨_,rfl,by simp⟩ ?_
  refine a0a (a0s _ _) ?_
  refine a0a (hRp.mono l5).rq ?_
  refine a0d (a4o (hRp.mono l5)) (a1R (a1W hRp)) ?_
  rintro _ H7 ⟨l7,rfl⟩
  refine⟨fun h=>(nomatch h),?_⟩
  simp only[cA,nA]
  rw[a5V hQg]
  refine a0a ⟨_,rfl,by simp⟩ ?_
  refine a0a ⟨_,rfl,by simp⟩ ?_
  refine a0a (a0s _ _) ?_
  refine a0a ⟨_,rfl⟩ ?_
  refine a0e (bF (p:=(0:Int)≠0) (by simp)) ?_
  obtain⟨la,lb,hla,hlb⟩:=a5C (hE.asc.imp fun h=>Nat.ne_of_lt h) he
  have hll:m.length+1<=400:=by
   have:=hpm.length_eq
   rw[hla]at this
   simp at this;omega
  obtain⟨XB,xb1,xb2,xb3,xb4⟩:=a2C (o5.mono l7) (l5.trans l7)
  refine a0P el_mass rfl rfl rfl (fun _=>rfl) (fun _=>rfl) xb2 xb3 (by omega) (show _=[veM ⟨(e.1,qN (l.count e.1) l.length),hRg,hQg⟩]from by unfold veM;rw[<-a2g,<-a2g];rfl) (fun _=>rfl) rfl fun pv v11 H8 l8 o8=> ?_
  simp only[cA,nA]
  exact⟨(seen++[e.2.2],v11,m++[⟨(e.1,qN (l.count e.1) l.length),hRg,hQg⟩]),by show(left es (seen++[e.2.2])).length<(left es seen).length;rw[hla,hlb];simp,rfl,⟨xb1.trans l8,⟨l8 _ _ ((xb4 q (fun cs=>by rw[l7 _ _ it5.1];exact fun h=>nomatch h)).trans (l7 _ _ it5.1)),l8 _ _ ((xb4 r (fun cs=>by rw[l7 _ _ it5.2];exact fun h=>nomatch h)).trans (l7 _ _ it5.2))⟩,o8.less xb1,by show((List.map _ (m++[_]))++List.map _ (left es (seen++[e.2.2]))).Perm _;refine List.Perm.trans ?_ hpm;rw[hla,hlb,List.map_append,List.append_assoc,List.map_append,List.map_append];exact List.Perm.append_left _ (by simp only[List.map_cons,List.map_nil,List.singleton_append];exact(List.perm_middle (a:=e.1) (l₁:=la.map (·.1)) (l₂:=lb.map (·.1))).symm),fun q hq=>(List.mem_append.1 hq).elim (hds q) (fun hq=>by rw[List.mem_singleton.1 hq])⟩⟩
 ·skip
  obtain⟨hle0,h54⟩:left es seen=[]/\H5=H4:=by
   rcases hbx with⟨_,h⟩|⟨h,_⟩
   ·exact h
   ·rw[hb1]at h;cases h
  rw[h54]
  rw[hle0,List.map_nil,List.append_nil]at hpm
  have hmem:∀x,x∈(m.map fun q=>q.1.1)↔x∈l:=fun x=>by rw[hpm.mem_iff,hkeys];exact hk x
  have hm0:m≠[]:=fun e=>by
   subst e
   obtain⟨a,t,rfl⟩:=List.exists_cons_of_ne_nil hn
   exact absurd ((hmem a).2 (by simp)) (by simp)
  have hmc:m.length<=1000000:=by have:=hpm.length_eq;simp at this;omega
  refine a0u (ad:=⟨b,0,none⟩) rfl rfl rfl ?_
  simp only[cA,nA]
  refine a0i d5A rfl rfl rfl ?_
  simp only[cA,nA]
  refine a0g a3J rfl rfl (l4 _ _ hb) rfl rfl ?_
  simp only[cA,nA]
  refine a0a ⟨_,rfl⟩ ?_
  refine a0e rfl ?_
  refine a0d (b5p c1Q l4 o4 hm0 hmc (fun x y=>b6F x y)) rfl ?_
  rintro _ H8 ⟨l8,m',hm1,hm2,o8⟩
  refine⟨fun h=>(nomatch h),?_⟩
  simp only[cA,nA]
  have hmp:(m'.map fun q=>q.1.1).Perm (es.map (·.1)):=(hm1.map _).trans hpm
  exact a0c rfl ⟨l8,out,m',rfl,o8.se,c1U (hmp.nodup_iff.2 hE.keys) (fun x=>by rw[hmp.mem_iff,hkeys];exact hk x) (fun q hq=>hds q (hm1.mem_iff.1 hq)) hm2⟩
end
end Go.Proofs.YtlmgkkjgdapnpaaGreatDoor

/- Chapter 32: drafted graphs. -/
import Derived.Test.YtkcjbfoejpfbbaaGreatDoorGdD
import Derived.Test.YtkcjbfoejpfbbaaGreatDoorRfM
namespace Go.Proofs.YtkcjbfoejpfbbaaGreatDoor
open Go.Proofs.Tryz
open Go.RowKit Go.RX Go.GS
def bc (e:Nat×Nat):List Value:=[.int .u8 (e.1:Nat),.int .u8 (e.2:Nat)]
theorem d1T:El prog 23 27 2 true bc (fun e=> .agg (bc e).toArray) where
 und:=by kernel_rfl
 has:=by kernel_rfl
 cel:=by kernel_rfl
 agg:=by kernel_rfl
 pos:=by decide
 one1:=fun h=>by cases h
 small:=by decide
 inf:=⟨(prog.info? 27).getD default,.agg #[.int .u8 0,.int .u8 0],by kernel_rfl,by kernel_rfl,by kernel_rfl,rfl,of_decide_eq_true (by kernel_rfl)⟩
 len:=fun _=>rfl
 val:=fun _=>rfl
 cells:=fun _=>rfl
 one:=fun x c hc=>by simp[bc]at hc;rcases hc with rfl|rfl<;>rfl
theorem d7p:Sc prog 5:=⟨by kernel_rfl,by kernel_rfl,by kernel_rfl⟩
theorem d4J:Ar prog 27 5 2:=⟨by kernel_rfl,by kernel_rfl,by kernel_rfl,by kernel_rfl,d7p⟩
def dv (a b c:Int) (s:Value):Value:= .agg #[.int .u8 a,.int .u8 b,.int .u16 c,s]
theorem d8A:a0O prog 36= .slice none 0 0:=by kernel_rfl
theorem d7q {ρ:List Value} {a b c d e:SV} {x y z u v:Value} (h:D prog ρ a=x) (h2:D prog ρ b=y) (h3:D prog ρ c=z) (h4:D prog ρ d=u) (h5:D prog ρ e=v):[a,b,c,d,e].map (D prog ρ)=[x,y,z,u,v]:=by rw[List.map_cons,h,c8z h2 h3 h4 h5]
theorem a7r (z:Int):(ii z).cells.size=1/\a0J (ii z).cells:=⟨rfl,fun x hx=>by rw[show(ii z).cells= #[ii z]from rfl]at hx;simp at hx;subst hx;rfl⟩
theorem d4K {s:Value} (h:a7M s=true) (a b c:Int):(dv a b c s).cells.size=4/\a0J (dv a b c s).cells:=by
 refine⟨rfl,fun x hx=> ?_⟩
 rw[dv,a1F]at hx
 simp only[List.mem_cons,List.not_mem_nil,or_false]at hx
 rcases hx with rfl|rfl|rfl|rfl
 ·rfl
 ·rfl
 ·rfl
 ·exact h
theorem c7u {ρ:List Value} {x:SV} {a m:Nat} {mi:Int} (hx:D prog ρ x= .int .u8 (a:Nat)) (hmi:mi=(m:Nat)) (hm:m<1000) (h0:0<m):D prog ρ (.op2 .add .i64 (.k (.int .i64 1)) (.cv .i64 (.op2 .rem .u8 x (.k (.int .u8 mi)))))=ii ((1+a%m:Nat):Int):=by
 subst hmi
 show a1y .add .i64 1 (IntKind.i64.wrap (Int.tmod (intOf (D prog ρ x)) (m:Nat)))=_
 rw[hx]
 show Value.int .i64 (IntKind.i64.wrap (1+IntKind.i64.wrap (Int.tmod ((a:Nat):Int) (m:Nat))))=_
 rw[<-Int.ofNat_tmod]
 have:=Nat.mod_lt a h0
 congr 1
 rw[IntKind.wrap_i64,IntKind.wrap_i64]
 omega
theorem d4L {ρ:List Value} {x y:SV} {a b:Nat} (hx:D prog ρ x=ii (a:Nat)) (hy:D prog ρ y=ii (b:Nat)) (h:a*b<9223372036854775808):D prog ρ (.op2 .mul .i64 x y)=ii ((a*b:Nat):Int):=by
 show a1y .mul .i64 (intOf (D prog ρ x)) (intOf (D prog ρ y))=_
 rw[hx,hy]
 show Value.int .i64 (IntKind.i64.wrap (((a:Nat):Int)*((b:Nat):Int)))=_
 rw[<-Int.natCast_mul]
 congr 1
 rw[IntKind.wrap_i64]
 omega
theorem b3m (x:Int):0<=IntKind.u64.wrap x:=by rw[IntKind.wrap_u64];omega
theorem c9l {ρ:List Value} {x y:SV} {a b:Nat} (hx:D prog ρ x=ii (a:Nat)) (hy:D prog ρ y=ii (b:Nat)):D prog ρ (.put (.put (.z 100) 0 1 x 0 noI) 1 1 y 0 noI)=ev2 (a,b):=by
 show Value.agg (spl (Value.agg (spl (a0O prog 100).cells (0+0*a1R (D prog ρ noI)) (D prog ρ x).cells.toList)).cells (1+0*a1R (D prog ρ noI)) (D prog ρ y).cells.toList)=_
 rw[z_2,hx,hy,Nat.zero_mul]
 rfl
theorem c9m {ρ:List Value} {x y:SV} {n:Nat} {w u:Value} (hx:D prog ρ x=gv n w) (hy:D prog ρ y=u) (hc:u.cells= #[u]):D prog ρ (.cat (.sub x 0 1 0 noI) 1 y)=gv n u:=by
 show Value.agg ((Value.agg ((D prog ρ x).cells.extract (0+0*a1R (D prog ρ noI)) (0+0*a1R (D prog ρ noI)+1))).cells++(D prog ρ y).cells)=_
 rw[hx,hy,hc,Nat.zero_mul]
 rfl
def Upto (a b:Nat) (es:List (Nat×Nat)):Prop:=es.Pairwise elt/\∀e∈es,e.1<e.2/\elt e (a,b)
theorem Upto.row {a b:Nat} {es:List (Nat×Nat)} (h:Upto a b es):Upto (a+1) (a+2) es:=⟨h.1,fun e he=>⟨(h.2 e he).1,.inl (by rcases(h.2 e he).2 with h1|⟨h1,_⟩<;>simp only at h1<;>omega)⟩⟩
theorem Upto.skip {a b:Nat} {es:List (Nat×Nat)} (h:Upto a b es):Upto a (b+1) es:=⟨h.1,fun e he=>⟨(h.2 e he).1,by rcases(h.2 e he).2 with h1|⟨h1,h2⟩;exact .inl h1;exact .inr ⟨h1,by simp only at h2;show e.2<b+1;omega⟩⟩⟩
theorem Upto.put {a b:Nat} {es:List (Nat×Nat)} (h:Upto a b es) (hab:a<b):Upto a (b+1) (es++[(a,b)]):=by
 refine⟨List.pairwise_append.2 ⟨h.1,List.pairwise_singleton _ _,fun e he f hf=> ?_⟩,fun e he=> ?_⟩
 ·rw[List.mem_singleton]at hf;subst hf;exact(h.2 e he).2
 ·rcases List.mem_append.1 he with he|he
  ·exact h.skip.2 e he
  ·rw[List.mem_singleton]at he;subst he;exact⟨hab,.inr ⟨rfl,by show b<b+1;omega⟩⟩
section
variable {H:PH} {s:Value} {more:List (Nat×Nat)} {da db dc:Nat}
abbrev c7v (H:PH):List Value->PH->Prop:=fun l H'=>H'=H/\∃p:Bool,l=[.bool p]
set_option maxHeartbeats 2000000 in
theorem b6U (hs:SE H 2 bc s more):Con prog 44 [dv (da:Nat) (db:Nat) (dc:Nat) s] H fun r H'=>PH.le H H'/\∃w es,r=gv ((1+da%4)*(1+db%3)) w/\SO H H' 100 2 ec w es/\GV ((1+da%4)*(1+db%3)) es:=by
 refine a0j a0n c1n ?_
 have hw4:1+da%4<=4:=by have:=Nat.mod_lt da (show 0<4 by decide);omega
 have hh3:1+db%3<=3:=by have:=Nat.mod_lt db (show 0<3 by decide);omega
 have hn12:(1+da%4)*(1+db%3)<=12:=Nat.mul_le_mul hw4 hh3
 have hn1:1<=(1+da%4)*(1+db%3):=Nat.mul_pos (by omega) (by omega)
 generalize hn:(1+da%4)*(1+db%3)=n at hn12 hn1
 obtain⟨zg,hzg⟩:∃zg,a0O prog 38=zg:=⟨_,rfl⟩
 refine a0c (d4K (a0T hs) _ _ _) ?_
 refine a0a ?_
 refine a0a ?_
 refine a0i (α:=Int×Nat×Value×List (Nat×Nat)) (fun⟨c,a,w,es⟩=>[ii c,ii (a:Nat),dv (da:Nat) (db:Nat) (dc:Nat) s,zg,gv n w]) (fun⟨c,a,w,es⟩=>fun H'=>PH.le H H'/\a<=n/\SO H H' 100 2 ec w es/\Upto a (a+1) es/\es.length<=a*12/\∀e∈es,e.2<n) (fun⟨c,a,w,es⟩=>n-a) ((0,0,.slice none 0 0,[])) (by rw[<-hn];refine d7q rfl rfl rfl hzg ?_;show Value.agg ((D prog _ (.op2 .mul .i64 _ _)).cells++(a0O prog 36).cells)=_;rw[d8A,d4L (c7u (m:=4) (mi:=4) rfl rfl (by decide) (by decide)) (c7u (m:=3) (mi:=3) rfl rfl (by decide) (by decide)) (by omega)];rfl) (⟨PH.le.refl _,Nat.zero_le _,SO.nil _ _ _ _ _,⟨List.Pairwise.nil,fun _ h=>nomatch h⟩,Nat.zero_le _,fun _ h=>nomatch h⟩) fun⟨c,a,w,es⟩ H' hQ=> ?_
 obtain⟨l1,han,o1,hU,hlen,hed⟩:=hQ
 have hs1:=hs.mono l1
 refine a0a ?_
 refine a0a ?_
 refine a0e (b:=decide (((a:Nat):Int)<(n:Nat))) rfl (fun h=> ?_) (fun h=> ?_)
 ·replace h:=of_decide_eq_true h
  have han2:a<n:=by omega
  refine a0i (α:=Int×Nat×Value×List (Nat×Nat)) (fun⟨c2,b,w2,es2⟩=>[ii c2,ii (b:Nat),gv n w2]) (fun⟨c2,b,w2,es2⟩=>fun H''=>PH.le H H''/\a<b/\b<=n/\SO H H'' 100 2 ec w2 es2/\Upto a b es2/\es2.length<=a*12+b/\∀e∈es2,e.2<n) (fun⟨c2,b,w2,es2⟩=>n-b) ((c,a+1,w,es)) (a5b rfl (a0k rfl (by omega)) rfl) (⟨l1,by omega,by omega,o1,hU,by omega,hed⟩) fun⟨c2,b,w2,es2⟩ H2 hQ2=> ?_
  obtain⟨l2,hab,hbn,o2,hU2,hlen2,hed2⟩:=hQ2
  have hs2:=hs.mono l2
  refine a0a ?_
  refine a0a ?_
  refine a0e (b:=decide (((b:Nat):Int)<(n:Nat))) rfl (fun h2=> ?_) (fun h2=> ?_)
  ·replace h2:=of_decide_eq_true h2
   have hbn2:b<n:=by omega
   refine⟨(c7v H2),?_,?_⟩
   ·skip
    refine a0e (b:=_) rfl (fun h3=> ?_) (fun h3=> ?_)
    ·skip
     exact⟨rfl,_,rfl⟩
    ·skip
     refine a0e (b:=_) rfl (fun h4=> ?_) (fun h4=> ?_)
     ·skip
      refine a0c (by show intOf (D prog _ _)≠0;rw[c7u (m:=4) (mi:=4) rfl rfl (by decide) (by decide)];show((1+da%4:Nat):Int)≠0;omega) ?_
      exact⟨rfl,_,rfl⟩
     ·skip
      exact⟨rfl,_,rfl⟩
   rintro _ H2 _ ⟨rfl,p,rfl⟩
   simp only[cA,nA]
   refine⟨(fun l H'=>H'=H2/\∃(c:Int) (p:Bool),l=[ii c,.bool p]),?_,?_⟩
   ·skip
    refine a0a ?_
    refine a0e (b:=p) rfl (fun h3=> ?_) (fun h3=> ?_)
    ·skip
     refine⟨(c7v H2),?_,?_⟩
     ·skip
      refine a0a ?_
      refine a0e (b:=_) rfl (fun h4=> ?_) (fun h4=> ?_)
      ·skip
       refine a0a ?_
       refine a0c (b3m _) ?_
       exact⟨rfl,_,rfl⟩
      ·skip
       exact⟨rfl,_,rfl⟩
     rintro _ H2 _ ⟨rfl,p4,rfl⟩
     simp only[cA,nA]
     refine⟨(c7v H2),?_,?_⟩
     ·skip
      refine a0a ?_
      refine a0e (b:=p4) rfl (fun h4=> ?_) (fun h4=> ?_)
      ·skip
       exact⟨rfl,_,rfl⟩
      ·skip
       exact⟨rfl,_,rfl⟩
     rintro _ H2 _ ⟨rfl,p5,rfl⟩
     simp only[cA,nA]
     refine a0a ?_
     exact⟨rfl,_,_,rfl⟩
    ·skip
     exact⟨rfl,_,_,rfl⟩
   rintro _ H2 _ ⟨rfl,c3,p3,rfl⟩
   simp only[cA,nA]
   refine a0A (α:=Bool×Nat) (fun⟨p6,i⟩=>[.bool p6,ii (i:Nat)]) (fun⟨p6,i⟩=>i<=3) (fun⟨p6,i⟩=>3-i) ((p3,0)) rfl (Nat.zero_le _) fun⟨p6,i⟩ hQ=> ?_
   refine⟨(fun l H'=>H'=H2/\∃q:Bool,l=[.bool q]/\(q=true->i<more.length/\i<3)),?_,?_⟩
   ·skip
    refine a0p d1T hs2 ?_
    refine a0a ?_
    refine a0a ?_
    refine a0e (b:=decide (((i:Nat):Int)<(more.length:Nat))) rfl (fun h3=> ?_) (fun h3=> ?_)
    ·replace h3:=of_decide_eq_true h3
     exact⟨rfl,decide (((i:Nat):Int)<3),rfl,fun e=>⟨by omega,by have:=of_decide_eq_true e;omega⟩⟩
    ·replace h3:=of_decide_eq_false h3
     exact⟨rfl,false,rfl,fun e=>nomatch e⟩
   rintro _ H2 _ ⟨rfl,q,rfl,hq⟩
   simp only[cA,nA]
   refine a0a ?_
   refine a0e (b:=q) rfl (fun h3=> ?_) (fun h3=> ?_)
   ·skip
    obtain⟨hi1,hi2⟩:=hq h3
    have hm:=List.getElem?_eq_getElem hi1
    refine b8o d1T (c:=(.int .u8 ((more[i]).1:Nat))) d4J (by decide) rfl rfl rfl rfl rfl rfl (fun _=>rfl) (fun _=>rfl) (fun _=>rfl) hs2 hm rfl (fun _=>rfl) (fun _ _=>rfl) fun _ _=> ?_
    refine a0a ?_
    refine a0c (show((n:Nat):Int)≠0 by omega) ?_
    refine b8o d1T (c:=(.int .u8 ((more[i]).2:Nat))) d4J (by decide) rfl rfl rfl rfl rfl rfl (fun _=>rfl) (fun _=>rfl) (fun _=>rfl) hs2 hm rfl (fun _=>rfl) (fun _ _=>rfl) fun _ _=> ?_
    refine a0a ?_
    refine⟨(c7v H2),?_,?_⟩
    ·skip
     refine a0a ?_
     refine a0e (b:=p6) rfl (fun h4=> ?_) (fun h4=> ?_)
     ·skip
      exact⟨rfl,_,rfl⟩
     ·skip
      refine a0e (b:=_) rfl (fun h5=> ?_) (fun h5=> ?_)
      ·skip
       refine a0e (b:=_) rfl (fun h6=> ?_) (fun h6=> ?_)
       ·skip
        exact⟨rfl,_,rfl⟩
       ·skip
        refine a0e (b:=_) rfl (fun h7=> ?_) (fun h7=> ?_)
        ·skip
         exact⟨rfl,_,rfl⟩
        ·skip
         exact⟨rfl,_,rfl⟩
      ·skip
       refine a0e (b:=_) rfl (fun h6=> ?_) (fun h6=> ?_)
       ·skip
        exact⟨rfl,_,rfl⟩
       ·skip
        exact⟨rfl,_,rfl⟩
    rintro _ H2 _ ⟨rfl,p7,rfl⟩
    simp only[cA,nA]
    refine a0a ?_
    exact⟨(p7,i+1),by show 3-(i+1)<3-i;omega,(a0F rfl (a0k rfl (by omega))),⟨by show i+1<=3;omega,rfl⟩⟩
   ·skip
    refine a0a ?_
    refine a0e (b:=p6) rfl (fun h4=> ?_) (fun h4=> ?_)
    ·skip
     refine a0c (a7r _) ?_
     refine a0c (a7r _) ?_
     refine a0B el_edge rfl rfl rfl (fun _=>rfl) (fun _=>rfl) l2 o2 (by omega) (a2S (c9l rfl rfl)) (fun _=>rfl) rfl fun q2 w3 H3 l3 o3=> ?_
     have hsl3:=o3.se
     refine a0c hsl3.one ?_
     exact⟨(c3,b+1,w3,es2++[(a,b)]),by show n-(b+1)<n-b;omega,(a5b rfl (a0k rfl (by omega)) (c9m rfl rfl hsl3.cells)),⟨l3,by show a<b+1;omega,by show b+1<=n;omega,o3,hU2.put hab,by show(es2++[(a,b)]).length<=a*12+(b+1);rw[List.length_append];simp only[List.length_cons,List.length_nil];omega,fun e he=>by rcases List.mem_append.1 he with he|he;exact hed2 e he;rw[List.mem_singleton]at he;subst he;exact hbn2⟩⟩
    ·skip
     exact⟨(c3,b+1,w2,es2),by show n-(b+1)<n-b;omega,(a5b rfl (a0k rfl (by omega)) rfl),⟨l2,by show a<b+1;omega,by show b+1<=n;omega,o2,hU2.skip,by show es2.length<=a*12+(b+1);omega,hed2⟩⟩
  ·replace h2:=of_decide_eq_false h2
   exact⟨(c2,a+1,w2,es2),by show n-(a+1)<n-a;omega,(d7q rfl (a0k rfl (by omega)) rfl rfl rfl),⟨l2,by show a+1<=n;omega,o2,hU2.row,by show es2.length<=(a+1)*12;omega,hed2⟩⟩
 ·replace h:=of_decide_eq_false h
  exact a0b rfl ⟨l1,w,es,rfl,o1,hn1,by omega,by omega,fun e he=>⟨(hU.2 e he).1,hed e he⟩,hU.1⟩
end
end Go.Proofs.YtkcjbfoejpfbbaaGreatDoor
/- Chapter 32: drafts. -/
namespace Go.RX
open Go.RowKit
theorem b3n {P:Program} {ρ:List Value} {x y:SV} {n:Nat} {a b:Value} (hx:D P ρ x=a) (hy:D P ρ y=b):D P ρ (.cat x n y)= .agg (a.cells++b.cells):=by
 show Value.agg ((D P ρ x).cells++(D P ρ y).cells)=_
 rw[hx,hy]
theorem c3M {P:Program} {ρ:List Value} {x:SV} {o n:Nat} {a:Value} (hx:D P ρ x=a):D P ρ (.sub x o n 0 noI)= .agg (a.cells.extract o (o+n)):=by
 show Value.agg ((D P ρ x).cells.extract (o+0*a1R (D P ρ noI)) (o+0*a1R (D P ρ noI)+n))=_
 rw[hx,Nat.zero_mul];rfl
end Go.RX
namespace Go.Proofs.YtkcjbfoejpfbbaaGreatDoor
open Go.Proofs.Tryz
open Go.RowKit Go.RX Go.GS
def c8 (c:Nat):List Value:=[.int .u8 (c:Nat)]
theorem c7w:El prog 26 5 1 false c8 (fun c:Nat=> .int .u8 (c:Nat)) where
 und:=by kernel_rfl
 has:=by kernel_rfl
 cel:=by kernel_rfl
 agg:=by kernel_rfl
 pos:=by decide
 one1:=fun _=>rfl
 small:=by decide
 inf:=⟨(prog.info? 5).getD default,.int .u8 0,by kernel_rfl,by kernel_rfl,by kernel_rfl,rfl,of_decide_eq_true (by kernel_rfl)⟩
 len:=fun _=>rfl
 val:=fun _=>rfl
 cells:=fun _=>rfl
 one:=fun x c hc=>by simp[c8]at hc;subst hc;rfl
def cv (a b c:Nat) (s w cu:Value) (k s0 s1 tr:Nat):Value:= .agg #[.int .u8 (a:Nat),.int .u8 (b:Nat),.int .u16 (c:Nat),s,w,cu,.int .u8 (k:Nat),.int .u8 (s0:Nat),.int .u8 (s1:Nat),.int .u8 (tr:Nat)]
theorem c9n {s w cu:Value} (h:a7M s=true) (h2:a7M w=true) (h3:a7M cu=true) (a b c k s0 s1 tr:Nat):(cv a b c s w cu k s0 s1 tr).cells.size=10/\a0J (cv a b c s w cu k s0 s1 tr).cells:=by
 refine⟨rfl,fun x hx=> ?_⟩
 rw[cv,a1F]at hx
 simp only[List.mem_cons,List.not_mem_nil,or_false]at hx
 rcases hx with rfl|rfl|rfl|rfl|rfl|rfl|rfl|rfl|rfl|rfl<;>first|rfl|assumption
theorem d1U {ρ:List Value} {x:SV} {a b c:Nat} {s w cu:Value} {k s0 s1 tr:Nat} (hx:D prog ρ x=cv a b c s w cu k s0 s1 tr) (hs:s.cells= #[s]):
  D prog ρ (.cat (.op2 .rem .u8 (.cell (.sub x 0 4 0 noI) 0 0 noI) (.k (.int .u8 3))) 1 (.sub (.sub x 0 4 0 noI) 1 3 0 noI))=dv ((a%3:Nat):Int) b c s:=by
 have h1:D prog ρ (.sub x 0 4 0 noI)=dv (a:Nat) b c s:=by
  show Value.agg ((D prog ρ x).cells.extract (0+0*a1R (D prog ρ noI)) (0+0*a1R (D prog ρ noI)+4))=_
  rw[hx,Nat.zero_mul];rfl
 have h2:D prog ρ (.cell (.sub x 0 4 0 noI) 0 0 noI)= .int .u8 (a:Nat):=by
  show(D prog ρ (.sub x 0 4 0 noI)).cells.getD (0+0*a1R (D prog ρ noI)) undef=_
  rw[h1,Nat.zero_mul];rfl
 have h3:D prog ρ (.op2 .rem .u8 (.cell (.sub x 0 4 0 noI) 0 0 noI) (.k (.int .u8 3)))= .int .u8 ((a%3:Nat):Int):=by
  show a1y .rem .u8 (intOf (D prog ρ (.cell (.sub x 0 4 0 noI) 0 0 noI))) 3=_
  rw[h2];rfl
 show Value.agg ((D prog ρ (.op2 .rem .u8 (.cell (.sub x 0 4 0 noI) 0 0 noI) (.k (.int .u8 3)))).cells++((D prog ρ (.sub x 0 4 0 noI)).cells.extract (1+0*a1R (D prog ρ noI)) (1+0*a1R (D prog ρ noI)+3)))=_
 rw[h3,h1,Nat.zero_mul];rfl
theorem a5K {ρ:List Value} {x y:SV} {wts u:Value} {lo hi k:Int} (hx:D prog ρ x=u) (hy:D prog ρ y=bv wts lo hi k) (hc:u.cells= #[u]):D prog ρ (.cat x 1 (.sub y 1 3 0 noI))=bv u lo hi k:=by
 show Value.agg ((D prog ρ x).cells++((D prog ρ y).cells.extract (1+0*a1R (D prog ρ noI)) (1+0*a1R (D prog ρ noI)+3)))=_
 rw[hx,hy,hc,Nat.zero_mul];rfl
theorem d4M {ρ:List Value} {x y z:SV} {wts:Value} {lo hi k lo' hi':Int} (hx:D prog ρ x=bv wts lo hi k) (hy:D prog ρ y=ii lo') (hz:D prog ρ z=ii hi'):
  D prog ρ (.cat (.sub x 0 1 0 noI) 1 (.cat y 1 (.cat z 1 (.sub (.sub x 2 2 0 noI) 1 1 0 noI))))=bv wts lo' hi' k:=by
 have h1:D prog ρ (.sub x 0 1 0 noI)= .agg #[wts]:=by
  show Value.agg ((D prog ρ x).cells.extract (0+0*a1R (D prog ρ noI)) (0+0*a1R (D prog ρ noI)+1))=_
  rw[hx,Nat.zero_mul];rfl
 have h2:D prog ρ (.sub (.sub x 2 2 0 noI) 1 1 0 noI)= .agg #[ii k]:=by
  show Value.agg ((Value.agg ((D prog ρ x).cells.extract (2+0*a1R (D prog ρ noI)) (2+0*a1R (D prog ρ noI)+2))).cells.extract (1+0*a1R (D prog ρ noI)) (1+0*a1R (D prog ρ noI)+1))=_
  rw[hx,Nat.zero_mul];rfl
 show Value.agg ((D prog ρ (.sub x 0 1 0 noI)).cells++(Value.agg ((D prog ρ y).cells++(Value.agg ((D prog ρ z).cells++(D prog ρ (.sub (.sub x 2 2 0 noI) 1 1 0 noI)).cells)).cells)).cells)=_
 rw[h1,h2,hy,hz];rfl
theorem b5t {ρ:List Value} {x y:SV} {c m:Nat} (hx:D prog ρ x= .int .u8 (c:Nat)) (hc:c<256) (hy:D prog ρ y=ii (m:Nat)):D prog ρ (.op2 .rem .i64 (.cv .i64 x) y)=ii ((c%m:Nat):Int):=by
 show a1y .rem .i64 (IntKind.i64.wrap (intOf (D prog ρ x))) (intOf (D prog ρ y))=_
 rw[hx,hy]
 show Value.int .i64 (Int.tmod (IntKind.i64.wrap ((c:Nat):Int)) ((m:Nat):Int))=_
 rw[show IntKind.i64.wrap ((c:Nat):Int)=((c:Nat):Int) by rw[IntKind.wrap_i64];omega,<-Int.ofNat_tmod]
 rfl
theorem d8B:a0O prog 32= .slice none 0 0:=by kernel_rfl
theorem d8C {ρ:List Value} {y:SV} {k:Int} (hy:D prog ρ y=ii k):D prog ρ (.cat (.z 32) 1 (.cat (.z 3) 1 (.cat (.z 3) 1 y)))=bv (.slice none 0 0) 0 0 k:=by
 show Value.agg ((a0O prog 32).cells++(Value.agg ((a0O prog 3).cells++(Value.agg ((a0O prog 3).cells++(D prog ρ y).cells)).cells)).cells)=_
 rw[d8B,c0s,hy];rfl
theorem c7x:∀n:Fin 10,card (2^n.val-1)=n.val:=by decide
theorem d1V {n x:Nat}:bit (2^n-1) x=decide (x<n):=Nat.testBit_two_pow_sub_one n x
def a5P:List (Nat×Nat):=[(0,1),(0,2),(1,3),(2,3)]
theorem c7y:GV 4 a5P:=⟨by decide,by decide,by decide,by decide,by unfold a5P elt;simp⟩
theorem c7z:Cn a5P 15:=by
 have hb:∀x,bit 15 x=decide (x<4):=fun x=>d1V (n:=4)
 have h0:Rch a5P 15 0 0:= .base
 have h1:Rch a5P 15 0 1:= .step h0 (by simp[adj,a5P]) (by rw[hb];rfl)
 have h2:Rch a5P 15 0 2:= .step h0 (by simp[adj,a5P]) (by rw[hb];rfl)
 have h3:Rch a5P 15 0 3:= .step h1 (by simp[adj,a5P]) (by rw[hb];rfl)
 refine⟨0,by rw[hb];rfl,fun y hy=> ?_⟩
 rw[hb]at hy
 have hy:=of_decide_eq_true hy
 match y,hy with
 |0,_=>exact h0
 |1,_=>exact h1
 |2,_=>exact h2
 |3,_=>exact h3
def d7r (H:PH) (r:Value):Prop:=∃(n:Nat) (w:Value) (es:List (Nat×Nat)) (wts:Value) (wl:List Int) (lo hi:Int) (k:Nat) (u:Value) (p:List Int),
 r= .tuple #[gv n w,bv wts lo hi (k:Nat),u]/\SG H w es/\GV n es/\n<=9/\Cn es (2^n-1)/\SI H wts wl/\wl.length=n/\1<=k/\k<=4/\SI H u p/\p.length=n/\∀x∈p,0<=x/\x<8
section
variable {H:PH} {s wv cu:Value} {more:List (Nat×Nat)} {wl0 cuts:List Nat} {da db dc dk s0 s1 tr:Nat}
set_option maxHeartbeats 4000000 in
theorem b6V (hs:SE H 2 bc s more) (hwv:SE H 1 c8 wv wl0) (hcu:SE H 1 c8 cu cuts) (hc256:∀c∈cuts,c<256) (htr:tr<256):Con prog 8 [cv da db dc s wv cu dk s0 s1 tr] H fun r H'=>PH.le H H'/\d7r H' r:=by
 refine a0j a0n c1H ?_
 refine a0c (c9n (a0T hs) (a0T hwv) (a0T hcu) _ _ _ _ _ _ _) ?_
 refine a0a ?_
 refine a0f (b6U (da:=da%3) (db:=db) (dc:=dc) hs) (a2S (d1U rfl hs.cells)) ?_
 rintro _ H1 ⟨l1,w0,es0,rfl,o1,hg0⟩
 refine⟨fun h=>(nomatch h),?_⟩
 simp only[cA,nA]
 have hn9:(1+da%3%4)*(1+db%3)<=9:=Nat.mul_le_mul (show 1+da%3%4<=3 by omega) (show 1+db%3<=3 by omega)
 generalize (1+da%3%4)*(1+db%3)=n0 at hg0 hn9
 have hn1:=hg0.n1
 have hp2:2^n0-1<2^n0:=Nat.sub_lt (Nat.two_pow_pos n0) (by decide)
 have hpM:2^n0<M64:=a0R (by omega)
 refine a0c (a0G o1.se) ?_
 refine a0x (a1j (n:=n0) (by omega)) rfl ?_
 simp only[cA,nA]
 have hD1:∀ρ,D prog ρ (.v 2)=uv (2^n0)->D prog ρ (.op2 .sub .u64 (.v 2) (.k (.int .u64 1)))=uv (2^n0-1):=fun ρ h=>a8c (B:=1) h rfl hpM (Nat.two_pow_pos n0)
 refine a0a ?_
 refine a0v (a2V o1.se hg0 hp2) (a0F rfl (hD1 _ rfl)) fun H2 l2=> ?_
 simp only[cA,nA]
 refine a0a ?_
 refine⟨(fun l H'=>PH.le H H'/\∃n w es,l=[uv (2^n-1),gv n w]/\SG H' w es/\GV n es/\n<=9/\Cn es (2^n-1)),?_,?_⟩
 ·skip
  refine a0e (b:= !cnB es0 (2^n0-1)) rfl (fun h=> ?_) (fun h=> ?_)
  ·skip
   refine a5h el_edge (l:=a5P) (vs:=[ev2 (0,1),ev2 (0,2),ev2 (1,3),ev2 (2,3)]) rfl (by decide) (by decide) rfl rfl (c8z (c9l (a:=0) (b:=1) rfl rfl) (c9l (a:=0) (b:=2) rfl rfl) (c9l (a:=1) (b:=3) rfl rfl) (c9l (a:=2) (b:=3) rfl rfl)) fun v H4 l4 o4 _=> ?_
   simp only[cA,nA]
   refine a0c o4.se.one ?_
   exact⟨(l1.trans l2).trans l4,4,v,a5P,a0F rfl (by show Value.agg (#[ii 4]++v.cells)=_;rw[o4.se.cells];rfl),o4.se,c7y,by decide,c7z⟩
  ·skip
   exact⟨l1.trans l2,n0,w0,es0,a0F (hD1 _ rfl) rfl,o1.se.mono l2,hg0,hn9,cnB_iff.1 (by simpa using h)⟩
 rintro _ H3 _ ⟨l3,n,w,es,rfl,hw,hg,hn,hC⟩
 simp only[cA,nA]
 have hn1:=hg.n1
 have hes:=hg.len
 have hcard:=c7x ⟨n,by omega⟩
 simp only at hcard
 have hne:2^n-1≠0:=by have:=Nat.pow_le_pow_right (n:=2) (by decide) hn1;omega
 have hp2:2^n-1<2^n:=Nat.sub_lt (Nat.two_pow_pos n) (by decide)
 refine a0f (b6R hw hg hp2 hne (by omega)) rfl ?_
 rintro v6 H4 ⟨l4,sl,⟨o6,htrs,hsl⟩,hnil⟩
 refine⟨fun h=>(nomatch h),?_⟩
 simp only[cA,nA]
 have hs0:0<sl.length:=List.length_pos_iff.2 (hnil hC)
 refine a0a ?_
 refine a1C b1S rfl rfl o6.se rfl ?_
 refine a0a ?_
 refine a0c (show((sl.length:Nat):Int)≠0 by omega) ?_
 have htm:tr%sl.length<sl.length:=Nat.mod_lt _ hs0
 have hsa:=List.getElem?_eq_getElem htm
 refine a0I b1S rfl rfl rfl rfl (fun _=>rfl) o6.se hsa (a0F rfl (b5t rfl htr rfl)) (fun _=>rfl) fun _=> ?_
 simp only[cA,nA]
 obtain⟨t0,ot,hT⟩:=htrs _ (List.mem_of_getElem? hsa)
 have htl:=hT.len
 refine a0a ?_
 refine a0a ?_
 refine⟨(fun l H'=>H'=H4/\∃k:Nat,l=[ii (k:Nat)]/\1<=k/\k<=4/\k<=n),?_,?_⟩
 ·skip
  have hdk:=Nat.mod_lt dk (show 0<4 by decide)
  have hDk:∀ρ:List Value,D prog ρ (.v 0)=cv da db dc s wv cu dk s0 s1 tr->D prog ρ (.op2 .add .i64 (.k (.int .i64 1)) (.cv .i64 (.op2 .rem .u8 (.cell (.v 0) 6 0 noI) (.k (.int .u8 4)))))=ii ((1+dk%4:Nat):Int):=fun ρ h=>c7u (m:=4) (mi:=4) (by show(D prog ρ (.v 0)).cells.getD _ undef=_;rw[h];rfl) rfl (by decide) (by decide)
  refine a0o (p:=(((1+dk%4:Nat):Int)>(n:Nat))) (by show Value.bool (decide (intOf (D prog _ (.op2 .add .i64 _ _))>_))=_;rw[hDk _ rfl];rfl) (fun h=> ?_) fun h=> ?_
  ·exact⟨rfl,n,rfl,hn1,by omega,Nat.le_refl _⟩
  ·exact⟨rfl,1+dk%4,a2S (hDk _ rfl),by omega,by omega,by omega⟩
 rintro _ H4 _ ⟨rfl,k,rfl,hk1,hk4,hkn⟩
 simp only[cA,nA]
 have lH4:=l3.trans l4
 refine a0i (α:=List Int×Value×Nat) (fun⟨t,u,i⟩=>[u,ii (i:Nat)]) (fun⟨t,u,i⟩=>fun H'=>PH.le H4 H'/\SI H' u t/\i<=k-1/\t.length+1+i=n/\∀z∈t,0<=z/\z.toNat<es.length) (fun⟨t,u,i⟩=>k-i) ((t0,vs sl[tr%sl.length],0)) rfl (⟨PH.le.refl _,ot.se,Nat.zero_le _,by omega,fun z hz=>⟨(hT.ok z hz).1,(hT.ok z hz).2.1⟩⟩) fun⟨t,u,i⟩ H' hQ=> ?_
 simp only[cA,nA]
 obtain⟨l5,hu,hi,hlen,hok⟩:=hQ
 have hcu2:=hcu.mono (lH4.trans l5)
 refine a0a ?_
 refine a0a ?_
 refine a0o (p:=(((i:Nat):Int)<((k:Nat):Int)-1)) (by show Value.bool (decide (((i:Nat):Int)<IntKind.i64.wrap (((k:Nat):Int)-1)))=_;rw[show IntKind.i64.wrap (((k:Nat):Int)-1)=((k:Nat):Int)-1 by rw[IntKind.wrap_i64];omega]) (fun h=> ?_) fun h=> ?_
 ·refine a0p c7w hcu2 ?_
  refine a0a ?_
  refine⟨(fun l H''=>H''=H'/\∃j:Nat,l=[ii (j:Nat)]/\j<t.length),?_,?_⟩
  ·skip
   refine a0e (b:=decide (((i:Nat):Int)<(cuts.length:Nat))) rfl (fun h2=> ?_) (fun h2=> ?_)
   ·replace h2:=of_decide_eq_true h2
    have hi2:i<cuts.length:=by omega
    refine a0t c7w hcu2 (List.getElem?_eq_getElem hi2) fun _=> ?_
    simp only[cA,nA]
    refine a0a ?_
    refine a0p el_int hu ?_
    refine a0a ?_
    refine a0c (show((t.length:Nat):Int)≠0 by omega) ?_
    exact⟨rfl,cuts[i]%t.length,a2S (b5t rfl (hc256 _ (List.getElem_mem hi2)) rfl),Nat.mod_lt _ (by omega)⟩
   ·replace h2:=of_decide_eq_false h2
    exact⟨rfl,0,rfl,by omega⟩
  rintro _ H' _ ⟨rfl,j,rfl,hj⟩
  simp only[cA,nA]
  refine a2P el_int rfl rfl fun v15 H6 l6 o6 _=> ?_
  simp only[cA,nA]
  obtain⟨u2,hy2,hs2⟩:=b8l el_int (vs:=[u,ii (j:Nat)]) (k:= .i64) (j:=j) a7H rfl rfl (hu.mono l6) (by omega)
  refine a0u (hy2.rds _) rfl ?_
  simp only[cA,nA]
  have hl2:(t.take j).length<=64:=by rw[List.length_take];omega
  refine a1z el_int rfl rfl rfl l6 o6 hs2 (by simp only[List.length_nil];omega) rfl rfl fun v17 H7 l7 o7 _=> ?_
  simp only[cA,nA]
  obtain⟨u3,hy3,hs3⟩:=a6I el_int (vs:=[u,ii ((j+1:Nat):Int)]) (k:= .i64) (j:=j+1) a7I rfl rfl (hu.mono l7) (by omega)
  refine a0a ?_
  refine a0u (hy3.rds _) (a0F rfl (a0k rfl (by omega))) ?_
  simp only[cA,nA]
  have hl3:(t.drop (j+1)).length<=64:=by rw[List.length_drop];omega
  refine a1z el_int rfl rfl rfl l7 o7 hs3 (by rw[List.nil_append];omega) rfl rfl fun v19 H8 l8 o8 _=> ?_
  simp only[cA,nA]
  rw[List.nil_append]at o8
  have hlen2:(t.take j++t.drop (j+1)).length+1+(i+1)=n:=by rw[List.length_append,List.length_take,List.length_drop];omega
  have hok2:∀z∈t.take j++t.drop (j+1),0<=z/\z.toNat<es.length:=fun z hz=>hok z ((List.mem_append.1 hz).elim List.mem_of_mem_take List.mem_of_mem_drop)
  exact⟨(t.take j++t.drop (j+1),v19,i+1),by show k-(i+1)<k-i;omega,(a0F rfl (a0k rfl (by omega))),⟨l5.trans l8,o8.se,by show i+1<=k-1;omega,hlen2,hok2⟩⟩
 ·have hie:i=k-1:=by omega
  have hw5:SG H' w es:=hw.mono (l4.trans l5)
  obtain⟨e,he,hf,h0⟩:∃e:Nat×Nat,e.1<e.2/\(∀y,t[0]? =some y->Ed es y=e/\e.2<n)/\(t=[]->n<=e.1):=by
   cases t with
   |nil=>exact⟨(n,n+1),by show n<n+1;omega,fun y hy=>by simp at hy,fun _=>Nat.le_refl _⟩
   |cons y t=>
    obtain⟨h1,h2⟩:=hok y (List.mem_cons_self ..)
    have hm:=hg.ed _ (List.getElem_mem h2)
    have hE:Ed es y=es[y.toNat]:=by unfold Ed;rw[List.getD_eq_getElem?_getD,List.getElem?_eq_getElem h2];rfl
    exact⟨Ed es y,by rw[hE];exact hm.1,fun z hz=>by simp at hz;subst hz;exact⟨rfl,by rw[hE];exact hm.2⟩,fun h=>nomatch h⟩
  refine a0f (b6S hw5 hg hu hok (by omega) he (fun y hy=>(hf y hy).1) h0) rfl ?_
  rintro v13 H9 ⟨l9,p,nx,hp,hL⟩
  refine⟨fun h=>(nomatch h),?_⟩
  simp only[cA,nA]
  have hnx:nx<=8:=by
   have h1:=hL.nx
   by_cases h9:n=9
   ·have ht:0<t.length:=by omega
    have:=hL.kb (hf _ (List.getElem?_eq_getElem ht)).2
    omega
   ·omega
  have hpl:=hL.len
  have hp8:∀x∈p,0<=x/\x<8:=fun x hx=>by
   obtain⟨y,hy⟩:=List.mem_iff_getElem?.1 hx
   have hyn:y<n:=by rw[<-hpl];exact(List.getElem?_eq_some_iff.1 hy).1
   have h1:=hL.lo y x hy
   have h2:=hL.done y x hyn hy
   omega
  refine a0c (a7r _) ?_
  have lH9:=(lH4.trans l5).trans l9
  refine a0i (α:=Nat×Value×List Int) (fun⟨x,wt,wl⟩=>[ii (x:Nat),bv wt 0 0 (k:Nat)]) (fun⟨x,wt,wl⟩=>fun H'=>PH.le H9 H'/\x<=n/\SO H9 H' 3 1 (fun z:Int=>[ii z]) wt wl/\wl.length=x) (fun⟨x,wt,wl⟩=>n-x) ((0,.slice none 0 0,[])) (a0F rfl (d8C rfl)) (⟨PH.le.refl _,Nat.zero_le _,SO.nil _ _ _ _ _,rfl⟩) fun⟨x,wt,wl⟩ H10 hQ10=> ?_
  simp only[cA,nA]
  obtain⟨l10,hx,o10,hwl⟩:=hQ10
  have hwv2:=hwv.mono (lH9.trans l10)
  refine a0a ?_
  refine a0e (b:=decide (((x:Nat):Int)<(n:Nat))) rfl (fun h2=> ?_) (fun h2=> ?_)
  ·replace h2:=of_decide_eq_true h2
   refine a0p c7w hwv2 ?_
   refine a0a ?_
   refine⟨(fun l H''=>H''=H10/\∃z:Int,l=[ii z]),?_,?_⟩
   ·skip
    refine a0e (b:=decide (((x:Nat):Int)<(wl0.length:Nat))) rfl (fun h3=> ?_) (fun h3=> ?_)
    ·replace h3:=of_decide_eq_true h3
     refine a0t c7w hwv2 (List.getElem?_eq_getElem (show x<wl0.length by omega)) fun _=> ?_
     simp only[cA,nA]
     refine a0a ?_
     exact⟨rfl,_,rfl⟩
    ·replace h3:=of_decide_eq_false h3
     exact⟨rfl,_,rfl⟩
   rintro _ H10 _ ⟨rfl,z,rfl⟩
   simp only[cA,nA]
   refine a0B el_int rfl rfl rfl (fun _=>rfl) (fun _=>rfl) l10 o10 (by omega) rfl (fun _=>rfl) rfl fun q v19 H11 l11 o11=> ?_
   simp only[cA,nA]
   refine a0c o11.se.one ?_
   exact⟨(x+1,v19,wl++[z]),by show n-(x+1)<n-x;omega,(a0F (a0k rfl (by omega)) (a5K rfl rfl o11.se.cells)),⟨l11,by show x+1<=n;omega,o11,by show(wl++[z]).length=x+1;rw[List.length_append,hwl];rfl⟩⟩
  ·replace h2:=of_decide_eq_false h2
   have hxn:x=n:=by omega
   refine a0f (b6T (lo:=0) (hi:=0) (k:=k) (hp.mono l10) o10.se (by omega) hp8 (by omega)) rfl ?_
   rintro _ _ ⟨rfl,a,b,rfl⟩
   refine⟨fun h=>(nomatch h),?_⟩
   simp only[cA,nA]
   refine a0m ?_
   refine a0m ?_
   refine a0a ?_
   refine a0a ?_
   refine a0u ((a9W (vs:=[ii 0,ii (IntKind.i64.wrap (a-IntKind.i64.wrap (Int.tmod ((s0:Nat):Int) 6)))]) rfl rfl rfl).rds _) rfl ?_
   simp only[cA,nA]
   have hB:∀(lo':Int) (ρ:List Value),D prog ρ (.v 0)=cv da db dc s wv cu dk s0 s1 tr->D prog ρ (.v 15)=bv wt 0 0 (k:Nat)->D prog ρ (.v 16)= .tuple #[ii a,ii b]->D prog ρ (.v 17)=ii lo'->D prog ρ (.cat (.sub (.v 15) 0 1 0 noI) 1 (.cat (.v 17) 1 (.cat (.op2 .add .i64 (.proj (.v 16) 1) (.cv .i64 (.op2 .rem .u8 (.cell (.v 0) 8 0 noI) (.k (.int .u8 6))))) 1 (.sub (.sub (.v 15) 2 2 0 noI) 1 1 0 noI))))=bv wt lo' (IntKind.i64.wrap (b+IntKind.i64.wrap (Int.tmod ((s1:Nat):Int) 6))) (k:Nat):=fun lo' ρ h0 h1 h2 h3=>d4M h1 h3 (by show a1y .add .i64 (intOf (match D prog ρ (.v 16)with| .tuple vs=>vs.getD 1 undef|_=>undef)) (IntKind.i64.wrap (Int.tmod (intOf ((D prog ρ (.v 0)).cells.getD (8+0*a1R (D prog ρ noI)) undef)) 6))=_;rw[h0,h2,Nat.zero_mul];rfl)
   refine a0a ?_
   refine a0a ?_
   refine a0c (a7r _) ?_
   refine a0c (by show(D prog _ (.cat _ 1 (.cat _ 1 (.cat _ 1 _)))).cells.size=4/\_;rw[hB _ _ rfl rfl rfl rfl];exact a2L (a0T o10.se) _ _ _) ?_
   exact a0b (by show Value.tuple #[_,D prog _ (.cat _ 1 (.cat _ 1 (.cat _ 1 _))),_]=_;rw[hB _ _ rfl rfl rfl rfl];rfl) ⟨lH9.trans l10,n,w,es,wt,wl,_,_,k,v13,p,rfl,hw5.mono (l9.trans l10),hg,hn,hC,o10.se,by omega,hk1,hk4,hp.mono l10,hpl,hp8⟩
end
end Go.Proofs.YtkcjbfoejpfbbaaGreatDoor

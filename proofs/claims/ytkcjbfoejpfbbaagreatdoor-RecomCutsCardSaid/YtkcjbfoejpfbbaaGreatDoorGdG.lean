/- Chapter 32: the reference's trees by number. -/
import Derived.Test.YtkcjbfoejpfbbaaGreatDoorGdD
import Derived.Test.YtkcjbfoejpfbbaaGreatDoorRfM
import Derived.Test.YtkcjbfoejpfbbaaGreatDoorWdR
namespace Go.Proofs.YtkcjbfoejpfbbaaGreatDoor
open Go.Proofs.Tryz
open Go.RowKit Go.RX Go.GS
open Go.WD (wd toI iw)
section
variable {H:PH} {n:Nat} {w:Value} {es:List (Nat×Nat)} {set:Nat}
theorem b2A (a:Nat):(wd a).cells.size=8/\a0u (wd a).cells:=⟨Go.WD.words_size a,Go.WD.words_one a⟩
end
end Go.Proofs.YtkcjbfoejpfbbaaGreatDoor
/- Chapter 32: drafted graphs. -/
namespace Go.Proofs.YtkcjbfoejpfbbaaGreatDoor
open Go.Proofs.Tryz
open Go.RowKit Go.RX Go.GS
def bc (e:Nat×Nat):List Value:=[.int .u8 (e.1:Nat),.int .u8 (e.2:Nat)]
theorem d0x:El prog 23 27 2 true bc (fun e=> .agg (bc e).toArray) where
 und:=by kernel_rfl
 has:=by kernel_rfl
 cel:=by kernel_rfl
 agg:=by kernel_rfl
 pos:=by decide
 one1:=fun h=>by cases h
 small:=by decide
 inf:=⟨(prog.info? 27).getD default,.agg #[.int .u8 0,.int .u8 0],by kernel_rfl,by kernel_rfl,by kernel_rfl,rfl,of_decide_eq_true (by kernel_rfl)⟩
 len:=fun _=>rfl
 val:=fun _=>rfl
 cells:=fun _=>rfl
 one:=fun x c hc=>by simp[bc]at hc;rcases hc with rfl|rfl<;>rfl
theorem d6l:Sc prog 5:=⟨by kernel_rfl,by kernel_rfl,by kernel_rfl⟩
theorem d3J:Ar prog 27 5 2:=⟨by kernel_rfl,by kernel_rfl,by kernel_rfl,by kernel_rfl,d6l⟩
def dv (a b c:Int) (s:Value):Value:= .agg #[.int .u8 a,.int .u8 b,.int .u16 c,s]
theorem d7h:a0G prog 36= .slice none 0 0:=by kernel_rfl
theorem d6Z {ρ:List Value} {a b c d e:SV} {x y z u v:Value} (h:D prog ρ a=x) (h2:D prog ρ b=y) (h3:D prog ρ c=z) (h4:D prog ρ d=u) (h5:D prog ρ e=v):[a,b,c,d,e].map (D prog ρ)=[x,y,z,u,v]:=by rw[List.map_cons,h,d1J h2 h3 h4 h5]
theorem b4W (z:Int):(ii z).cells.size=1/\a0u (ii z).cells:=⟨rfl,fun x hx=>by rw[show(ii z).cells= #[ii z]from rfl]at hx;simp at hx;subst hx;rfl⟩
theorem d3K {s:Value} (h:a7l s=true) (a b c:Int):(dv a b c s).cells.size=4/\a0u (dv a b c s).cells:=by
 refine⟨rfl,fun x hx=> ?_⟩
 rw[dv,a1J]at hx
 simp only[List.mem_cons,List.not_mem_nil,or_false]at hx
 rcases hx with rfl|rfl|rfl|rfl
 ·rfl
 ·rfl
 ·rfl
 ·exact h
theorem c5i {ρ:List Value} {x:SV} {a m:Nat} {mi:Int} (hx:D prog ρ x= .int .u8 (a:Nat)) (hmi:mi=(m:Nat)) (hm:m<1000) (h0:0<m):D prog ρ (.op2 .add .i64 (.k (.int .i64 1)) (.cv .i64 (.op2 .rem .u8 x (.k (.int .u8 mi)))))=ii ((1+a%m:Nat):Int):=by
 subst hmi
 show a1H .add .i64 1 (IntKind.i64.wrap (Int.tmod (intOf (D prog ρ x)) (m:Nat)))=_
 rw[hx]
 show Value.int .i64 (IntKind.i64.wrap (1+IntKind.i64.wrap (Int.tmod ((a:Nat):Int) (m:Nat))))=_
 rw[<-Int.ofNat_tmod]
 have:=Nat.mod_lt a h0
 congr 1
 rw[IntKind.wrap_i64,IntKind.wrap_i64]
 omega
theorem d3L {ρ:List Value} {x y:SV} {a b:Nat} (hx:D prog ρ x=ii (a:Nat)) (hy:D prog ρ y=ii (b:Nat)) (h:a*b<9223372036854775808):D prog ρ (.op2 .mul .i64 x y)=ii ((a*b:Nat):Int):=by
 show a1H .mul .i64 (intOf (D prog ρ x)) (intOf (D prog ρ y))=_
 rw[hx,hy]
 show Value.int .i64 (IntKind.i64.wrap (((a:Nat):Int)*((b:Nat):Int)))=_
 rw[<-Int.natCast_mul]
 congr 1
 rw[IntKind.wrap_i64]
 omega
theorem b2B (x:Int):0<=IntKind.u64.wrap x:=by rw[IntKind.wrap_u64];omega
theorem d3M {ρ:List Value} {x y:SV} {a b:Nat} (hx:D prog ρ x=ii (a:Nat)) (hy:D prog ρ y=ii (b:Nat)):D prog ρ (.put (.put (.z 100) 0 1 x 0 noI) 1 1 y 0 noI)=ev2 (a,b):=by
 show Value.agg (spl (Value.agg (spl (a0G prog 100).cells (0+0*a1w (D prog ρ noI)) (D prog ρ x).cells.toList)).cells (1+0*a1w (D prog ρ noI)) (D prog ρ y).cells.toList)=_
 rw[z_2,hx,hy,Nat.zero_mul]
 rfl
theorem d3N {ρ:List Value} {x y:SV} {n:Nat} {w u:Value} (hx:D prog ρ x=gv n w) (hy:D prog ρ y=u) (hc:u.cells= #[u]):D prog ρ (.cat (.sub x 0 1 0 noI) 1 y)=gv n u:=by
 show Value.agg ((Value.agg ((D prog ρ x).cells.extract (0+0*a1w (D prog ρ noI)) (0+0*a1w (D prog ρ noI)+1))).cells++(D prog ρ y).cells)=_
 rw[hx,hy,hc,Nat.zero_mul]
 rfl
def Upto (a b:Nat) (es:List (Nat×Nat)):Prop:=es.Pairwise elt/\∀e∈es,e.1<e.2/\elt e (a,b)
theorem Upto.row {a b:Nat} {es:List (Nat×Nat)} (h:Upto a b es):Upto (a+1) (a+2) es:=⟨h.1,fun e he=>⟨(h.2 e he).1,.inl (by rcases(h.2 e he).2 with h1|⟨h1,_⟩<;>simp only at h1<;>omega)⟩⟩
theorem Upto.skip {a b:Nat} {es:List (Nat×Nat)} (h:Upto a b es):Upto a (b+1) es:=⟨h.1,fun e he=>⟨(h.2 e he).1,by rcases(h.2 e he).2 with h1|⟨h1,h2⟩;exact .inl h1;exact .inr ⟨h1,by simp only at h2;show e.2<b+1;omega⟩⟩⟩
theorem Upto.put {a b:Nat} {es:List (Nat×Nat)} (h:Upto a b es) (hab:a<b):Upto a (b+1) (es++[(a,b)]):=by
 refine⟨List.pairwise_append.2 ⟨h.1,List.pairwise_singleton _ _,fun e he f hf=> ?_⟩,fun e he=> ?_⟩
 ·rw[List.mem_singleton]at hf;subst hf;exact(h.2 e he).2
 ·rcases List.mem_append.1 he with he|he
  ·exact h.skip.2 e he
  ·rw[List.mem_singleton]at he;subst he;exact⟨hab,.inr ⟨rfl,by show b<b+1;omega⟩⟩
section
variable {H:PH} {s:Value} {more:List (Nat×Nat)} {da db dc:Nat}
abbrev c5j (H:PH):List Value->PH->Prop:=fun l H'=>H'=H/\∃p:Bool,l=[.bool p]
set_option maxHeartbeats 2000000 in
theorem b6r (hs:SE H 2 bc s more):Con prog 44 [dv (da:Nat) (db:Nat) (dc:Nat) s] H fun r H'=>PH.le H H'/\∃w es,r=gv ((1+da%4)*(1+db%3)) w/\SO H H' 100 2 ec w es/\GV ((1+da%4)*(1+db%3)) es:=by
 refine a0d a0r c0f (by kernel_rfl) rfl ?_
 have hw4:1+da%4<=4:=by have:=Nat.mod_lt da (show 0<4 by decide);omega
 have hh3:1+db%3<=3:=by have:=Nat.mod_lt db (show 0<3 by decide);omega
 have hn12:(1+da%4)*(1+db%3)<=12:=Nat.mul_le_mul hw4 hh3
 have hn1:1<=(1+da%4)*(1+db%3):=Nat.mul_pos (by omega) (by omega)
 generalize hn:(1+da%4)*(1+db%3)=n at hn12 hn1
 obtain⟨zg,hzg⟩:∃zg,a0G prog 38=zg:=⟨_,rfl⟩
 refine a0a (d3K (a0W hs) _ _ _) ?_
 refine a0a ⟨_,rfl⟩ ?_
 refine a0a ⟨_,rfl⟩ ?_
 refine a0n (α:=Int×Nat×Value×List (Nat×Nat)) (fun⟨c,a,w,es⟩=>[ii c,ii (a:Nat),dv (da:Nat) (db:Nat) (dc:Nat) s,zg,gv n w]) (fun⟨c,a,w,es⟩=>fun H'=>PH.le H H'/\a<=n/\SO H H' 100 2 ec w es/\Upto a (a+1) es/\es.length<=a*12/\∀e∈es,e.2<n) (fun⟨c,a,w,es⟩=>n-a) ((0,0,.slice none 0 0,[])) (by rw[<-hn];refine d6Z rfl rfl rfl hzg ?_;show Value.agg ((D prog _ (.op2 .mul .i64 _ _)).cells++(a0G prog 36).cells)=_;rw[d7h,d3L (c5i (m:=4) (mi:=4) rfl rfl (by decide) (by decide)) (c5i (m:=3) (mi:=3) rfl rfl (by decide) (by decide)) (by omega)];rfl) (⟨PH.le.refl _,Nat.zero_le _,SO.nil _ _ _ _ _,⟨List.Pairwise.nil,fun _ h=>nomatch h⟩,Nat.zero_le _,fun _ h=>nomatch h⟩) fun⟨c,a,w,es⟩ H' hQ=> ?_
 simp only[cA,nA]
 obtain⟨l1,han,o1,hU,hlen,hed⟩:=hQ
 have hs1:=hs.mono l1
 refine a0a ⟨_,rfl⟩ ?_
 refine a0a ⟨_,rfl⟩ ?_
 refine a0e (b:=decide (((a:Nat):Int)<(n:Nat))) rfl (fun h=> ?_) (fun h=> ?_)
 ·replace h:=of_decide_eq_true h
  have han2:a<n:=by omega
  refine a0n (α:=Int×Nat×Value×List (Nat×Nat)) (fun⟨c2,b,w2,es2⟩=>[ii c2,ii (b:Nat),gv n w2]) (fun⟨c2,b,w2,es2⟩=>fun H''=>PH.le H H''/\a<b/\b<=n/\SO H H'' 100 2 ec w2 es2/\Upto a b es2/\es2.length<=a*12+b/\∀e∈es2,e.2<n) (fun⟨c2,b,w2,es2⟩=>n-b) ((c,a+1,w,es)) (a7m rfl (a0x rfl (by omega)) rfl) (⟨l1,by omega,by omega,o1,hU,by omega,hed⟩) fun⟨c2,b,w2,es2⟩ H2 hQ2=> ?_
  simp only[cA,nA]
  obtain⟨l2,hab,hbn,o2,hU2,hlen2,hed2⟩:=hQ2
  have hs2:=hs.mono l2
  refine a0a ⟨_,rfl⟩ ?_
  refine a0a ⟨_,rfl⟩ ?_
  refine a0e (b:=decide (((b:Nat):Int)<(n:Nat))) rfl (fun h2=> ?_) (fun h2=> ?_)
  ·replace h2:=of_decide_eq_true h2
   have hbn2:b<n:=by omega
   refine⟨(c5j H2),?_,?_⟩
   ·skip
    refine a0e (b:=_) rfl (fun h3=> ?_) (fun h3=> ?_)
    ·skip
     exact⟨rfl,_,rfl⟩
    ·skip
     refine a0e (b:=_) rfl (fun h4=> ?_) (fun h4=> ?_)
     ·skip
      refine a0a (by show intOf (D prog _ _)≠0;rw[c5i (m:=4) (mi:=4) rfl rfl (by decide) (by decide)];show((1+da%4:Nat):Int)≠0;omega) ?_
      exact⟨rfl,_,rfl⟩
     ·skip
      exact⟨rfl,_,rfl⟩
   rintro _ H2 _ ⟨rfl,p,rfl⟩
   simp only[cA,nA]
   refine⟨(fun l H'=>H'=H2/\∃(c:Int) (p:Bool),l=[ii c,.bool p]),?_,?_⟩
   ·skip
    refine a0a ⟨_,rfl⟩ ?_
    refine a0e (b:=p) rfl (fun h3=> ?_) (fun h3=> ?_)
    ·skip
     refine⟨(c5j H2),?_,?_⟩
     ·skip
      refine a0a ⟨_,rfl⟩ ?_
      refine a0e (b:=_) rfl (fun h4=> ?_) (fun h4=> ?_)
      ·skip
       refine a0a ⟨_,rfl⟩ ?_
       refine a0a (b2B _) ?_
       exact⟨rfl,_,rfl⟩
      ·skip
       exact⟨rfl,_,rfl⟩
     rintro _ H2 _ ⟨rfl,p4,rfl⟩
     simp only[cA,nA]
     refine⟨(c5j H2),?_,?_⟩
     ·skip
      refine a0a ⟨_,rfl⟩ ?_
      refine a0e (b:=p4) rfl (fun h4=> ?_) (fun h4=> ?_)
      ·skip
       exact⟨rfl,_,rfl⟩
      ·skip
       exact⟨rfl,_,rfl⟩
     rintro _ H2 _ ⟨rfl,p5,rfl⟩
     simp only[cA,nA]
     refine a0a ⟨_,rfl⟩ ?_
     exact⟨rfl,_,_,rfl⟩
    ·skip
     exact⟨rfl,_,_,rfl⟩
   rintro _ H2 _ ⟨rfl,c3,p3,rfl⟩
   simp only[cA,nA]
   refine a0S (α:=Bool×Nat) (fun⟨p6,i⟩=>[.bool p6,ii (i:Nat)]) (fun⟨p6,i⟩=>i<=3) (fun⟨p6,i⟩=>3-i) ((p3,0)) rfl (Nat.zero_le _) fun⟨p6,i⟩ hQ=> ?_
   simp only[cA,nA]
   refine⟨(fun l H'=>H'=H2/\∃q:Bool,l=[.bool q]/\(q=true->i<more.length/\i<3)),?_,?_⟩
   ·skip
    refine a0j d0x rfl rfl hs2 rfl ?_
    refine a0a ⟨_,rfl⟩ ?_
    refine a0a ⟨_,rfl⟩ ?_
    refine a0e (b:=decide (((i:Nat):Int)<(more.length:Nat))) rfl (fun h3=> ?_) (fun h3=> ?_)
    ·replace h3:=of_decide_eq_true h3
     exact⟨rfl,decide (((i:Nat):Int)<3),rfl,fun e=>⟨by omega,by have:=of_decide_eq_true e;omega⟩⟩
    ·replace h3:=of_decide_eq_false h3
     exact⟨rfl,false,rfl,fun e=>nomatch e⟩
   rintro _ H2 _ ⟨rfl,q,rfl,hq⟩
   simp only[cA,nA]
   refine a0a ⟨_,rfl⟩ ?_
   refine a0e (b:=q) rfl (fun h3=> ?_) (fun h3=> ?_)
   ·skip
    obtain⟨hi1,hi2⟩:=hq h3
    have hm:=List.getElem?_eq_getElem hi1
    refine b7t d0x (c:=(.int .u8 ((more[i]).1:Nat))) d3J (by decide) rfl rfl rfl rfl rfl rfl (fun _=>rfl) (fun _=>rfl) (fun _=>rfl) hs2 hm rfl (fun _=>rfl) (fun _ _=>rfl) fun _ _=> ?_
    simp only[cA,nA]
    refine a0a ⟨_,rfl⟩ ?_
    refine a0a (show((n:Nat):Int)≠0 by omega) ?_
    refine b7t d0x (c:=(.int .u8 ((more[i]).2:Nat))) d3J (by decide) rfl rfl rfl rfl rfl rfl (fun _=>rfl) (fun _=>rfl) (fun _=>rfl) hs2 hm rfl (fun _=>rfl) (fun _ _=>rfl) fun _ _=> ?_
    simp only[cA,nA]
    refine a0a ⟨_,rfl⟩ ?_
    refine⟨(c5j H2),?_,?_⟩
    ·skip
     refine a0a ⟨_,rfl⟩ ?_
     refine a0e (b:=p6) rfl (fun h4=> ?_) (fun h4=> ?_)
     ·skip
      exact⟨rfl,_,rfl⟩
     ·skip
      refine a0e (b:=_) rfl (fun h5=> ?_) (fun h5=> ?_)
      ·skip
       refine a0e (b:=_) rfl (fun h6=> ?_) (fun h6=> ?_)
       ·skip
        exact⟨rfl,_,rfl⟩
       ·skip
        refine a0e (b:=_) rfl (fun h7=> ?_) (fun h7=> ?_)
        ·skip
         exact⟨rfl,_,rfl⟩
        ·skip
         exact⟨rfl,_,rfl⟩
      ·skip
       refine a0e (b:=_) rfl (fun h6=> ?_) (fun h6=> ?_)
       ·skip
        exact⟨rfl,_,rfl⟩
       ·skip
        exact⟨rfl,_,rfl⟩
    rintro _ H2 _ ⟨rfl,p7,rfl⟩
    simp only[cA,nA]
    refine a0a ⟨_,rfl⟩ ?_
    exact⟨(p7,i+1),by show 3-(i+1)<3-i;omega,(a1s rfl (a0x rfl (by omega))),⟨by show i+1<=3;omega,rfl⟩⟩
   ·skip
    refine a0a ⟨_,rfl⟩ ?_
    refine a0e (b:=p6) rfl (fun h4=> ?_) (fun h4=> ?_)
    ·skip
     refine a0a (b4W _) ?_
     refine a0a (b4W _) ?_
     refine a2z el_edge rfl rfl rfl (fun _=>rfl) (fun _=>rfl) l2 o2 (by omega) (a5E (d3M rfl rfl)) (fun _=>rfl) rfl fun q2 w3 H3 l3 o3=> ?_
     simp only[cA,nA]
     have hsl3:=o3.se
     refine a0a hsl3.one ?_
     exact⟨(c3,b+1,w3,es2++[(a,b)]),by show n-(b+1)<n-b;omega,(a7m rfl (a0x rfl (by omega)) (d3N rfl rfl hsl3.cells)),⟨l3,by show a<b+1;omega,by show b+1<=n;omega,o3,hU2.put hab,by show(es2++[(a,b)]).length<=a*12+(b+1);rw[List.length_append];simp only[List.length_cons,List.length_nil];omega,fun e he=>by rcases List.mem_append.1 he with he|he;exact hed2 e he;rw[List.mem_singleton]at he;subst he;exact hbn2⟩⟩
    ·skip
     exact⟨(c3,b+1,w2,es2),by show n-(b+1)<n-b;omega,(a7m rfl (a0x rfl (by omega)) rfl),⟨l2,by show a<b+1;omega,by show b+1<=n;omega,o2,hU2.skip,by show es2.length<=a*12+(b+1);omega,hed2⟩⟩
  ·replace h2:=of_decide_eq_false h2
   exact⟨(c2,a+1,w2,es2),by show n-(a+1)<n-a;omega,(d6Z rfl (a0x rfl (by omega)) rfl rfl rfl),⟨l2,by show a+1<=n;omega,o2,hU2.row,by show es2.length<=(a+1)*12;omega,hed2⟩⟩
 ·replace h:=of_decide_eq_false h
  exact a0f rfl ⟨l1,w,es,rfl,o1,hn1,by omega,by omega,fun e he=>⟨(hU.2 e he).1,hed e he⟩,hU.1⟩
end
end Go.Proofs.YtkcjbfoejpfbbaaGreatDoor
/- Chapter 32: drafts. -/
namespace Go.Proofs.YtkcjbfoejpfbbaaGreatDoor
open Go.Proofs.Tryz
open Go.RowKit Go.RX Go.GS
def c8 (c:Nat):List Value:=[.int .u8 (c:Nat)]
theorem c5k:El prog 26 5 1 false c8 (fun c:Nat=> .int .u8 (c:Nat)) where
 und:=by kernel_rfl
 has:=by kernel_rfl
 cel:=by kernel_rfl
 agg:=by kernel_rfl
 pos:=by decide
 one1:=fun _=>rfl
 small:=by decide
 inf:=⟨(prog.info? 5).getD default,.int .u8 0,by kernel_rfl,by kernel_rfl,by kernel_rfl,rfl,of_decide_eq_true (by kernel_rfl)⟩
 len:=fun _=>rfl
 val:=fun _=>rfl
 cells:=fun _=>rfl
 one:=fun x c hc=>by simp[c8]at hc;subst hc;rfl
def cv (a b c:Nat) (s w cu:Value) (k s0 s1 tr:Nat):Value:= .agg #[.int .u8 (a:Nat),.int .u8 (b:Nat),.int .u16 (c:Nat),s,w,cu,.int .u8 (k:Nat),.int .u8 (s0:Nat),.int .u8 (s1:Nat),.int .u8 (tr:Nat)]
theorem c7a {s w cu:Value} (h:a7l s=true) (h2:a7l w=true) (h3:a7l cu=true) (a b c k s0 s1 tr:Nat):(cv a b c s w cu k s0 s1 tr).cells.size=10/\a0u (cv a b c s w cu k s0 s1 tr).cells:=by
 refine⟨rfl,fun x hx=> ?_⟩
 rw[cv,a1J]at hx
 simp only[List.mem_cons,List.not_mem_nil,or_false]at hx
 rcases hx with rfl|rfl|rfl|rfl|rfl|rfl|rfl|rfl|rfl|rfl<;>first|rfl|assumption
theorem d0y {ρ:List Value} {x:SV} {a b c:Nat} {s w cu:Value} {k s0 s1 tr:Nat} (hx:D prog ρ x=cv a b c s w cu k s0 s1 tr) (hs:s.cells= #[s]):
  D prog ρ (.cat (.op2 .rem .u8 (.cell (.sub x 0 4 0 noI) 0 0 noI) (.k (.int .u8 3))) 1 (.sub (.sub x 0 4 0 noI) 1 3 0 noI))=dv ((a%3:Nat):Int) b c s:=by
 have h1:D prog ρ (.sub x 0 4 0 noI)=dv (a:Nat) b c s:=by
  show Value.agg ((D prog ρ x).cells.extract (0+0*a1w (D prog ρ noI)) (0+0*a1w (D prog ρ noI)+4))=_
  rw[hx,Nat.zero_mul];rfl
 have h2:D prog ρ (.cell (.sub x 0 4 0 noI) 0 0 noI)= .int .u8 (a:Nat):=by
  show(D prog ρ (.sub x 0 4 0 noI)).cells.getD (0+0*a1w (D prog ρ noI)) undef=_
  rw[h1,Nat.zero_mul];rfl
 have h3:D prog ρ (.op2 .rem .u8 (.cell (.sub x 0 4 0 noI) 0 0 noI) (.k (.int .u8 3)))= .int .u8 ((a%3:Nat):Int):=by
  show a1H .rem .u8 (intOf (D prog ρ (.cell (.sub x 0 4 0 noI) 0 0 noI))) 3=_
  rw[h2];rfl
 show Value.agg ((D prog ρ (.op2 .rem .u8 (.cell (.sub x 0 4 0 noI) 0 0 noI) (.k (.int .u8 3)))).cells++((D prog ρ (.sub x 0 4 0 noI)).cells.extract (1+0*a1w (D prog ρ noI)) (1+0*a1w (D prog ρ noI)+3)))=_
 rw[h3,h1,Nat.zero_mul];rfl
theorem d3O {ρ:List Value} {x y:SV} {wts u:Value} {lo hi k:Int} (hx:D prog ρ x=u) (hy:D prog ρ y=bv wts lo hi k) (hc:u.cells= #[u]):D prog ρ (.cat x 1 (.sub y 1 3 0 noI))=bv u lo hi k:=by
 show Value.agg ((D prog ρ x).cells++((D prog ρ y).cells.extract (1+0*a1w (D prog ρ noI)) (1+0*a1w (D prog ρ noI)+3)))=_
 rw[hx,hy,hc,Nat.zero_mul];rfl
theorem d3P {ρ:List Value} {x y z:SV} {wts:Value} {lo hi k lo' hi':Int} (hx:D prog ρ x=bv wts lo hi k) (hy:D prog ρ y=ii lo') (hz:D prog ρ z=ii hi'):
  D prog ρ (.cat (.sub x 0 1 0 noI) 1 (.cat y 1 (.cat z 1 (.sub (.sub x 2 2 0 noI) 1 1 0 noI))))=bv wts lo' hi' k:=by
 have h1:D prog ρ (.sub x 0 1 0 noI)= .agg #[wts]:=by
  show Value.agg ((D prog ρ x).cells.extract (0+0*a1w (D prog ρ noI)) (0+0*a1w (D prog ρ noI)+1))=_
  rw[hx,Nat.zero_mul];rfl
 have h2:D prog ρ (.sub (.sub x 2 2 0 noI) 1 1 0 noI)= .agg #[ii k]:=by
  show Value.agg ((Value.agg ((D prog ρ x).cells.extract (2+0*a1w (D prog ρ noI)) (2+0*a1w (D prog ρ noI)+2))).cells.extract (1+0*a1w (D prog ρ noI)) (1+0*a1w (D prog ρ noI)+1))=_
  rw[hx,Nat.zero_mul];rfl
 show Value.agg ((D prog ρ (.sub x 0 1 0 noI)).cells++(Value.agg ((D prog ρ y).cells++(Value.agg ((D prog ρ z).cells++(D prog ρ (.sub (.sub x 2 2 0 noI) 1 1 0 noI)).cells)).cells)).cells)=_
 rw[h1,h2,hy,hz];rfl
theorem c7b {ρ:List Value} {x y:SV} {c m:Nat} (hx:D prog ρ x= .int .u8 (c:Nat)) (hc:c<256) (hy:D prog ρ y=ii (m:Nat)):D prog ρ (.op2 .rem .i64 (.cv .i64 x) y)=ii ((c%m:Nat):Int):=by
 show a1H .rem .i64 (IntKind.i64.wrap (intOf (D prog ρ x))) (intOf (D prog ρ y))=_
 rw[hx,hy]
 show Value.int .i64 (Int.tmod (IntKind.i64.wrap ((c:Nat):Int)) ((m:Nat):Int))=_
 rw[show IntKind.i64.wrap ((c:Nat):Int)=((c:Nat):Int) by rw[IntKind.wrap_i64];omega,<-Int.ofNat_tmod]
 rfl
theorem d7i:a0G prog 32= .slice none 0 0:=by kernel_rfl
theorem d7j {ρ:List Value} {y:SV} {k:Int} (hy:D prog ρ y=ii k):D prog ρ (.cat (.z 32) 1 (.cat (.z 3) 1 (.cat (.z 3) 1 y)))=bv (.slice none 0 0) 0 0 k:=by
 show Value.agg ((a0G prog 32).cells++(Value.agg ((a0G prog 3).cells++(Value.agg ((a0G prog 3).cells++(D prog ρ y).cells)).cells)).cells)=_
 rw[d7i,c9B,hy];rfl
theorem c5l:∀n:Fin 10,card (2^n.val-1)=n.val:=by decide
theorem d0z {n x:Nat}:bit (2^n-1) x=decide (x<n):=Nat.testBit_two_pow_sub_one n x
def a5y:List (Nat×Nat):=[(0,1),(0,2),(1,3),(2,3)]
theorem c5m:GV 4 a5y:=⟨by decide,by decide,by decide,by decide,by unfold a5y elt;simp⟩
theorem c5n:Cn a5y 15:=by
 have hb:∀x,bit 15 x=decide (x<4):=fun x=>d0z (n:=4)
 have h0:Rch a5y 15 0 0:= .base
 have h1:Rch a5y 15 0 1:= .step h0 (by simp[adj,a5y]) (by rw[hb];rfl)
 have h2:Rch a5y 15 0 2:= .step h0 (by simp[adj,a5y]) (by rw[hb];rfl)
 have h3:Rch a5y 15 0 3:= .step h1 (by simp[adj,a5y]) (by rw[hb];rfl)
 refine⟨0,by rw[hb];rfl,fun y hy=> ?_⟩
 rw[hb]at hy
 have hy:=of_decide_eq_true hy
 match y,hy with
 |0,_=>exact h0
 |1,_=>exact h1
 |2,_=>exact h2
 |3,_=>exact h3
end Go.Proofs.YtkcjbfoejpfbbaaGreatDoor

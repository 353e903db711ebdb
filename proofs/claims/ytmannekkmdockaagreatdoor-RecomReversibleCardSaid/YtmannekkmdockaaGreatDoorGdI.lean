/- Chapter 32: drafted graphs. -/
import Derived.Test.YtmannekkmdockaaGreatDoorGdE
import Derived.Test.YtmannekkmdockaaGreatDoorGyD
import Derived.Test.YtmannekkmdockaaGreatDoorGsN
namespace Go.Proofs.YtmannekkmdockaaGreatDoor
open Go.Proofs.Tryz
open Go.RowKit Go.RX Go.GS
def bc (e:Nat×Nat):List Value:=[.int .u8 (e.1:Nat),.int .u8 (e.2:Nat)]
theorem d1M:El prog 23 27 2 true bc (fun e=> .agg (bc e).toArray) where
 und:=by kernel_rfl
 has:=by kernel_rfl
 cel:=by kernel_rfl
 agg:=by kernel_rfl
 pos:=by decide
 one1:=fun h=>by cases h
 small:=by decide
 inf:=⟨(prog.info? 27).getD default,.agg #[.int .u8 0,.int .u8 0],by kernel_rfl,by kernel_rfl,by kernel_rfl,rfl,of_decide_eq_true (by kernel_rfl)⟩
 len:=fun _=>rfl
 val:=fun _=>rfl
 cells:=fun _=>rfl
 one:=fun x c hc=>by simp[bc]at hc;rcases hc with rfl|rfl<;>rfl
theorem d7b:Sc prog 5:=⟨by kernel_rfl,by kernel_rfl,by kernel_rfl⟩
theorem d5h:Ar prog 27 5 2:=⟨by kernel_rfl,by kernel_rfl,by kernel_rfl,by kernel_rfl,d7b⟩
def dv (a b c:Int) (s:Value):Value:= .agg #[.int .u8 a,.int .u8 b,.int .u16 c,s]
theorem d7D:a0I prog 35= .slice none 0 0:=by kernel_rfl
theorem d7E {ρ:List Value} {a b c d e:SV} {x y z u v:Value} (h:D prog ρ a=x) (h2:D prog ρ b=y) (h3:D prog ρ c=z) (h4:D prog ρ d=u) (h5:D prog ρ e=v):[a,b,c,d,e].map (D prog ρ)=[x,y,z,u,v]:=by rw[List.map_cons,h,d3a h2 h3 h4 h5]
theorem b2Y (z:Int):(ii z).cells.size=1/\a0t (ii z).cells:=⟨rfl,fun x hx=>by rw[show(ii z).cells= #[ii z]from rfl]at hx;simp at hx;subst hx;rfl⟩
theorem d5i {s:Value} (h:a8V s=true) (a b c:Int):(dv a b c s).cells.size=4/\a0t (dv a b c s).cells:=by
 refine⟨rfl,fun x hx=> ?_⟩
 rw[dv,a1v]at hx
 simp only[List.mem_cons,List.not_mem_nil,or_false]at hx
 rcases hx with rfl|rfl|rfl|rfl
 ·rfl
 ·rfl
 ·rfl
 ·exact h
theorem c6w {ρ:List Value} {x:SV} {a m:Nat} {mi:Int} (hx:D prog ρ x= .int .u8 (a:Nat)) (hmi:mi=(m:Nat)) (hm:m<1000) (h0:0<m):D prog ρ (.op2 .add .i64 (.k (.int .i64 1)) (.cv .i64 (.op2 .rem .u8 x (.k (.int .u8 mi)))))=ii ((1+a%m:Nat):Int):=by
 subst hmi
 show a2O .add .i64 1 (IntKind.i64.wrap (Int.tmod (intOf (D prog ρ x)) (m:Nat)))=_
 rw[hx]
 show Value.int .i64 (IntKind.i64.wrap (1+IntKind.i64.wrap (Int.tmod ((a:Nat):Int) (m:Nat))))=_
 rw[<-Int.ofNat_tmod]
 have:=Nat.mod_lt a h0
 congr 1
 rw[IntKind.wrap_i64,IntKind.wrap_i64]
 omega
theorem c8h {ρ:List Value} {x y:SV} {a b:Nat} (hx:D prog ρ x=ii (a:Nat)) (hy:D prog ρ y=ii (b:Nat)) (h:a*b<9223372036854775808):D prog ρ (.op2 .mul .i64 x y)=ii ((a*b:Nat):Int):=by
 show a2O .mul .i64 (intOf (D prog ρ x)) (intOf (D prog ρ y))=_
 rw[hx,hy]
 show Value.int .i64 (IntKind.i64.wrap (((a:Nat):Int)*((b:Nat):Int)))=_
 rw[<-Int.natCast_mul]
 congr 1
 rw[IntKind.wrap_i64]
 omega
theorem b4C (x:Int):0<=IntKind.u64.wrap x:=by rw[IntKind.wrap_u64];omega
theorem c6x {ρ:List Value} {x y:SV} {a b:Nat} (hx:D prog ρ x=ii (a:Nat)) (hy:D prog ρ y=ii (b:Nat)):D prog ρ (.put (.put (.z 99) 0 1 x 0 noI) 1 1 y 0 noI)=ev2 (a,b):=by
 show Value.agg (spl (Value.agg (spl (a0I prog 99).cells (0+0*a2r (D prog ρ noI)) (D prog ρ x).cells.toList)).cells (1+0*a2r (D prog ρ noI)) (D prog ρ y).cells.toList)=_
 rw[z_2,hx,hy,Nat.zero_mul]
 rfl
theorem d5j {ρ:List Value} {x y:SV} {n:Nat} {w u:Value} (hx:D prog ρ x=gv n w) (hy:D prog ρ y=u) (hc:u.cells= #[u]):D prog ρ (.cat (.sub x 0 1 0 noI) 1 y)=gv n u:=by
 show Value.agg ((Value.agg ((D prog ρ x).cells.extract (0+0*a2r (D prog ρ noI)) (0+0*a2r (D prog ρ noI)+1))).cells++(D prog ρ y).cells)=_
 rw[hx,hy,hc,Nat.zero_mul]
 rfl
def Upto (a b:Nat) (es:List (Nat×Nat)):Prop:=es.Pairwise elt/\∀e∈es,e.1<e.2/\elt e (a,b)
theorem Upto.row {a b:Nat} {es:List (Nat×Nat)} (h:Upto a b es):Upto (a+1) (a+2) es:=⟨h.1,fun e he=>⟨(h.2 e he).1,.inl (by rcases(h.2 e he).2 with h1|⟨h1,_⟩<;>simp only at h1<;>omega)⟩⟩
theorem Upto.skip {a b:Nat} {es:List (Nat×Nat)} (h:Upto a b es):Upto a (b+1) es:=⟨h.1,fun e he=>⟨(h.2 e he).1,by rcases(h.2 e he).2 with h1|⟨h1,h2⟩;exact .inl h1;exact .inr ⟨h1,by simp only at h2;show e.2<b+1;omega⟩⟩⟩
theorem Upto.put {a b:Nat} {es:List (Nat×Nat)} (h:Upto a b es) (hab:a<b):Upto a (b+1) (es++[(a,b)]):=by
 refine⟨List.pairwise_append.2 ⟨h.1,List.pairwise_singleton _ _,fun e he f hf=> ?_⟩,fun e he=> ?_⟩
 ·rw[List.mem_singleton]at hf;subst hf;exact(h.2 e he).2
 ·rcases List.mem_append.1 he with he|he
  ·exact h.skip.2 e he
  ·rw[List.mem_singleton]at he;subst he;exact⟨hab,.inr ⟨rfl,by show b<b+1;omega⟩⟩
section
variable {H:PH} {s:Value} {more:List (Nat×Nat)} {da db dc:Nat}
abbrev c6y (H:PH):List Value->PH->Prop:=fun l H'=>H'=H/\∃p:Bool,l=[.bool p]
set_option maxHeartbeats 2000000 in
theorem b8m (hs:SE H 2 bc s more):Con prog 39 [dv (da:Nat) (db:Nat) (dc:Nat) s] H fun r H'=>PH.le H H'/\∃w es,r=gv ((1+da%4)*(1+db%3)) w/\SO H H' 99 2 ec w es/\GV ((1+da%4)*(1+db%3)) es:=by
 refine a0b mixed c1z (by kernel_rfl) rfl ?_
 have hw4:1+da%4<=4:=by have:=Nat.mod_lt da (show 0<4 by decide);omega
 have hh3:1+db%3<=3:=by have:=Nat.mod_lt db (show 0<3 by decide);omega
 have hn12:(1+da%4)*(1+db%3)<=12:=Nat.mul_le_mul hw4 hh3
 have hn1:1<=(1+da%4)*(1+db%3):=Nat.mul_pos (by omega) (by omega)
 generalize hn:(1+da%4)*(1+db%3)=n at hn12 hn1
 obtain⟨zg,hzg⟩:∃zg,a0I prog 37=zg:=⟨_,rfl⟩
 refine a0a (d5i (a0z hs) _ _ _) ?_
 refine a0a ⟨_,rfl⟩ ?_
 refine a0a ⟨_,rfl⟩ ?_
 refine a0k (α:=Int×Nat×Value×List (Nat×Nat)) (fun⟨c,a,w,es⟩=>[ii c,ii (a:Nat),dv (da:Nat) (db:Nat) (dc:Nat) s,zg,gv n w]) (fun⟨c,a,w,es⟩=>fun H'=>PH.le H H'/\a<=n/\SO H H' 99 2 ec w es/\Upto a (a+1) es/\es.length<=a*12/\∀e∈es,e.2<n) (fun⟨c,a,w,es⟩=>n-a) ((0,0,.slice none 0 0,[])) (by rw[<-hn];refine d7E rfl rfl rfl hzg ?_;show Value.agg ((D prog _ (.op2 .mul .i64 _ _)).cells++(a0I prog 35).cells)=_;rw[d7D,c8h (c6w (m:=4) (mi:=4) rfl rfl (by decide) (by decide)) (c6w (m:=3) (mi:=3) rfl rfl (by decide) (by decide)) (by omega)];rfl) (⟨PH.le.refl _,Nat.zero_le _,SO.nil _ _ _ _ _,⟨List.Pairwise.nil,fun _ h=>nomatch h⟩,Nat.zero_le _,fun _ h=>nomatch h⟩) fun⟨c,a,w,es⟩ H' hQ=> ?_
 simp only[cA,nA]
 obtain⟨l1,han,o1,hU,hlen,hed⟩:=hQ
 have hs1:=hs.mono l1
 refine a0a ⟨_,rfl⟩ ?_
 refine a0a ⟨_,rfl⟩ ?_
 refine a0e (b:=decide (((a:Nat):Int)<(n:Nat))) rfl (fun h=> ?_) (fun h=> ?_)
 ·replace h:=of_decide_eq_true h
  have han2:a<n:=by omega
  refine a0k (α:=Int×Nat×Value×List (Nat×Nat)) (fun⟨c2,b,w2,es2⟩=>[ii c2,ii (b:Nat),gv n w2]) (fun⟨c2,b,w2,es2⟩=>fun H''=>PH.le H H''/\a<b/\b<=n/\SO H H'' 99 2 ec w2 es2/\Upto a b es2/\es2.length<=a*12+b/\∀e∈es2,e.2<n) (fun⟨c2,b,w2,es2⟩=>n-b) ((c,a+1,w,es)) (a8T rfl (a0w rfl (by omega)) rfl) (⟨l1,by omega,by omega,o1,hU,by omega,hed⟩) fun⟨c2,b,w2,es2⟩ H2 hQ2=> ?_
  simp only[cA,nA]
  obtain⟨l2,hab,hbn,o2,hU2,hlen2,hed2⟩:=hQ2
  have hs2:=hs.mono l2
  refine a0a ⟨_,rfl⟩ ?_
  refine a0a ⟨_,rfl⟩ ?_
  refine a0e (b:=decide (((b:Nat):Int)<(n:Nat))) rfl (fun h2=> ?_) (fun h2=> ?_)
  ·replace h2:=of_decide_eq_true h2
   have hbn2:b<n:=by omega
   refine⟨(c6y H2),?_,?_⟩
   ·skip
    refine a0e (b:=_) rfl (fun h3=> ?_) (fun h3=> ?_)
    ·skip
     exact⟨rfl,_,rfl⟩
    ·skip
     refine a0e (b:=_) rfl (fun h4=> ?_) (fun h4=> ?_)
     ·skip
      refine a0a (by show intOf (D prog _ _)≠0;rw[c6w (m:=4) (mi:=4) rfl rfl (by decide) (by decide)];show((1+da%4:Nat):Int)≠0;omega) ?_
      exact⟨rfl,_,rfl⟩
     ·skip
      exact⟨rfl,_,rfl⟩
   rintro _ H2 _ ⟨rfl,p,rfl⟩
   simp only[cA,nA]
   refine⟨(fun l H'=>H'=H2/\∃(c:Int) (p:Bool),l=[ii c,.bool p]),?_,?_⟩
   ·skip
    refine a0a ⟨_,rfl⟩ ?_
    refine a0e (b:=p) rfl (fun h3=> ?_) (fun h3=> ?_)
    ·skip
     refine⟨(c6y H2),?_,?_⟩
     ·skip
      refine a0a ⟨_,rfl⟩ ?_
      refine a0e (b:=_) rfl (fun h4=> ?_) (fun h4=> ?_)
      ·skip
       refine a0a ⟨_,rfl⟩ ?_
       refine a0a (b4C _) ?_
       exact⟨rfl,_,rfl⟩
      ·skip
       exact⟨rfl,_,rfl⟩
     rintro _ H2 _ ⟨rfl,p4,rfl⟩
     simp only[cA,nA]
     refine⟨(c6y H2),?_,?_⟩
     ·skip
      refine a0a ⟨_,rfl⟩ ?_
      refine a0e (b:=p4) rfl (fun h4=> ?_) (fun h4=> ?_)
      ·skip
       exact⟨rfl,_,rfl⟩
      ·skip
       exact⟨rfl,_,rfl⟩
     rintro _ H2 _ ⟨rfl,p5,rfl⟩
     simp only[cA,nA]
     refine a0a ⟨_,rfl⟩ ?_
     exact⟨rfl,_,_,rfl⟩
    ·skip
     exact⟨rfl,_,_,rfl⟩
   rintro _ H2 _ ⟨rfl,c3,p3,rfl⟩
   simp only[cA,nA]
   refine a0K (α:=Bool×Nat) (fun⟨p6,i⟩=>[.bool p6,ii (i:Nat)]) (fun⟨p6,i⟩=>i<=3) (fun⟨p6,i⟩=>3-i) ((p3,0)) rfl (Nat.zero_le _) fun⟨p6,i⟩ hQ=> ?_
   simp only[cA,nA]
   refine⟨(fun l H'=>H'=H2/\∃q:Bool,l=[.bool q]/\(q=true->i<more.length/\i<3)),?_,?_⟩
   ·skip
    refine a0h d1M rfl rfl hs2 rfl ?_
    refine a0a ⟨_,rfl⟩ ?_
    refine a0a ⟨_,rfl⟩ ?_
    refine a0e (b:=decide (((i:Nat):Int)<(more.length:Nat))) rfl (fun h3=> ?_) (fun h3=> ?_)
    ·replace h3:=of_decide_eq_true h3
     exact⟨rfl,decide (((i:Nat):Int)<3),rfl,fun e=>⟨by omega,by have:=of_decide_eq_true e;omega⟩⟩
    ·replace h3:=of_decide_eq_false h3
     exact⟨rfl,false,rfl,fun e=>nomatch e⟩
   rintro _ H2 _ ⟨rfl,q,rfl,hq⟩
   simp only[cA,nA]
   refine a0a ⟨_,rfl⟩ ?_
   refine a0e (b:=q) rfl (fun h3=> ?_) (fun h3=> ?_)
   ·skip
    obtain⟨hi1,hi2⟩:=hq h3
    have hm:=List.getElem?_eq_getElem hi1
    refine c0N d1M (c:=(.int .u8 ((more[i]).1:Nat))) d5h (by decide) rfl rfl rfl rfl rfl rfl (fun _=>rfl) (fun _=>rfl) (fun _=>rfl) hs2 hm rfl (fun _=>rfl) (fun _ _=>rfl) fun _ _=> ?_
    simp only[cA,nA]
    refine a0a ⟨_,rfl⟩ ?_
    refine a0a (show((n:Nat):Int)≠0 by omega) ?_
    refine c0N d1M (c:=(.int .u8 ((more[i]).2:Nat))) d5h (by decide) rfl rfl rfl rfl rfl rfl (fun _=>rfl) (fun _=>rfl) (fun _=>rfl) hs2 hm rfl (fun _=>rfl) (fun _ _=>rfl) fun _ _=> ?_
    simp only[cA,nA]
    refine a0a ⟨_,rfl⟩ ?_
    refine⟨(c6y H2),?_,?_⟩
    ·skip
     refine a0a ⟨_,rfl⟩ ?_
     refine a0e (b:=p6) rfl (fun h4=> ?_) (fun h4=> ?_)
     ·skip
      exact⟨rfl,_,rfl⟩
     ·skip
      refine a0e (b:=_) rfl (fun h5=> ?_) (fun h5=> ?_)
      ·skip
       refine a0e (b:=_) rfl (fun h6=> ?_) (fun h6=> ?_)
       ·skip
        exact⟨rfl,_,rfl⟩
       ·skip
        refine a0e (b:=_) rfl (fun h7=> ?_) (fun h7=> ?_)
        ·skip
         exact⟨rfl,_,rfl⟩
        ·skip
         exact⟨rfl,_,rfl⟩
      ·skip
       refine a0e (b:=_) rfl (fun h6=> ?_) (fun h6=> ?_)
       ·skip
        exact⟨rfl,_,rfl⟩
       ·skip
        exact⟨rfl,_,rfl⟩
    rintro _ H2 _ ⟨rfl,p7,rfl⟩
    simp only[cA,nA]
    refine a0a ⟨_,rfl⟩ ?_
    exact⟨(p7,i+1),by show 3-(i+1)<3-i;omega,(a1s rfl (a0w rfl (by omega))),⟨by show i+1<=3;omega,rfl⟩⟩
   ·skip
    refine a0a ⟨_,rfl⟩ ?_
    refine a0e (b:=p6) rfl (fun h4=> ?_) (fun h4=> ?_)
    ·skip
     refine a0a (b2Y _) ?_
     refine a0a (b2Y _) ?_
     refine a3k el_edge rfl rfl rfl (fun _=>rfl) (fun _=>rfl) l2 o2 (by omega) (a3K (c6x rfl rfl)) (fun _=>rfl) rfl fun q2 w3 H3 l3 o3=> ?_
     simp only[cA,nA]
     have hsl3:=o3.se
     refine a0a hsl3.one ?_
     exact⟨(c3,b+1,w3,es2++[(a,b)]),by show n-(b+1)<n-b;omega,(a8T rfl (a0w rfl (by omega)) (d5j rfl rfl hsl3.cells)),⟨l3,by show a<b+1;omega,by show b+1<=n;omega,o3,hU2.put hab,by show(es2++[(a,b)]).length<=a*12+(b+1);rw[List.length_append];simp only[List.length_cons,List.length_nil];omega,fun e he=>by rcases List.mem_append.1 he with he|he;exact hed2 e he;rw[List.mem_singleton]at he;subst he;exact hbn2⟩⟩
    ·skip
     exact⟨(c3,b+1,w2,es2),by show n-(b+1)<n-b;omega,(a8T rfl (a0w rfl (by omega)) rfl),⟨l2,by show a<b+1;omega,by show b+1<=n;omega,o2,hU2.skip,by show es2.length<=a*12+(b+1);omega,hed2⟩⟩
  ·replace h2:=of_decide_eq_false h2
   exact⟨(c2,a+1,w2,es2),by show n-(a+1)<n-a;omega,(d7E rfl (a0w rfl (by omega)) rfl rfl rfl),⟨l2,by show a+1<=n;omega,o2,hU2.row,by show es2.length<=(a+1)*12;omega,hed2⟩⟩
 ·replace h:=of_decide_eq_false h
  exact a0c rfl ⟨l1,w,es,rfl,o1,hn1,by omega,by omega,fun e he=>⟨(hU.2 e he).1,hed e he⟩,hU.1⟩
end
end Go.Proofs.YtmannekkmdockaaGreatDoor
/- Chapter 32: parts of a step. -/
namespace Go.Proofs.YtmannekkmdockaaGreatDoor
open Go.Proofs.Tryz
open Go.RowKit Go.RX Go.GS
section
variable {H H0:PH} {u v w wts:Value} {p wl t:List Int} {n:Nat} {es:List (Nat×Nat)} {lo hi ds k:Int} {set x:Nat}
theorem SO.putM {α:Type} {e:TypeId} {sz:Nat} {ce:α->List Value} {v:Value} {l:List α} {X H:PH} {r:Nat} {E:Array MapEntry} {c:Nat} (h:SO X H e sz ce v l) (hr:H r=some (.map E c)) (ob:Obj):SO X (H.put r ob) e sz ce v l:=by
 obtain⟨hlen,hv⟩:=h
 refine⟨hlen,hv.imp id ?_⟩
 rintro⟨g,cap,cur,h3,hg0,hg,h4⟩
 exact⟨g,cap,cur,h3,hg0,by rw[PH.put_ne _ _ (fun e=>by subst e;rw[hr]at hg;cases hg)];exact hg,h4⟩
theorem SO.splitM {α:Type} {e:TypeId} {sz:Nat} {ce:α->List Value} {v:Value} {l:List α} {B H:PH} (h:SO B H e sz ce v l) (hl:PH.le B H):∃Bi,PH.le Bi H/\SO Bi H e sz ce v l/\PH.le B Bi/\∀r E c,H r=some (.map E c)->Bi r=some (.map E c):=by
 obtain⟨hlen,hv⟩:=h
 rcases hv with⟨rfl,h0⟩|⟨g,cap,cur,rfl,hg0,hg,h4⟩
 ·exact⟨H,PH.le.refl _,⟨hlen,.inl ⟨rfl,h0⟩⟩,hl,fun _ _ _ h=>h⟩
 ·refine⟨a1B H g,b2N _ _,⟨hlen,.inr ⟨g,cap,cur,rfl,by unfold a1B;rw[if_pos rfl],hg,h4⟩⟩,fun k o hk=> ?_,fun r E c hr=> ?_⟩
  ·unfold a1B;rw[if_neg (fun e=>by subst e;rw[hg0]at hk;cases hk)];exact hl _ _ hk
  ·unfold a1B;rw[if_neg (fun e=>by subst e;rw[hg]at hr;cases hr)];exact hr
theorem MO.tr {B H H2:PH} {m:Value} {L:List (Int×Int)} (h:MO B H m L) (h2:∀r E c,H r=some (.map E c)->H2 r=some (.map E c)):MO B H2 m L:=by
 obtain⟨h0,r,es,c,h1,h4,h3,h5⟩:=h
 exact⟨h0,r,es,c,h1,h4,h2 _ _ _ h3,h5⟩
theorem c2z {done r:List Int} {i:Nat} {y z:Int} (h:done.length=i):(done++z::r).set i y=(done++[y])++r:=by
 subst h
 rw[List.set_append_right _ _ (Nat.le_refl _),Nat.sub_self];simp
theorem a7k (hu:SI H u p) (hL:LabOk p 8):Con prog 21 [u] H fun r H'=>PH.le H H'/\∃z,r= .tuple #[z,ii 0]/\OI H H' z (a0x p):=by
 refine a0b mixed d0m (by kernel_rfl) rfl ?_
 have hl:=hu.len
 have hp64:=hL.2.2
 refine a0P (b1e hu 8) rfl ?_
 simp only[cA,nA]
 refine a0a ⟨_,rfl⟩ ?_
 refine a0j (by show Value.bool (!decide (LabOk p 8))=_;rw[decide_eq_true hL];rfl) ?_
 refine a0l (c1T rfl) rfl ?_
 rintro v2 H1 ⟨l1,m1⟩
 refine⟨fun h=>(nomatch h),?_⟩
 simp only[cA,nA]
 refine a0h el_plan rfl rfl (hu.mono l1) rfl ?_
 refine a3j el_plan (z:=(0:Int)) b8b rfl rfl rfl (by omega) rfl fun v4 H2 l2 o2 _=> ?_
 simp only[cA,nA]
 refine a0h el_plan rfl rfl (hu.mono (l1.trans l2)) rfl ?_
 refine a0k (α:=Nat×List Int×List (Int×Int)×List Int) (fun⟨i,F,L,done⟩=>[ii (i:Nat)]) (fun⟨i,F,L,done⟩=>fun H'=>i<=p.length/\done.length=i/\done++b8k F (p.drop i)=a0x p/\L.length=F.length/\F.Nodup/\(∀a b:Int,(a,b)∈L↔∃j:Nat,F[j]? =some a/\b=j)/\PH.le H H'/\MO H H' v2 L/\OI H H' v4 (done++List.replicate (p.length-i) 0)) (fun⟨i,F,L,done⟩=>p.length-i) ((0,[],[],[])) rfl (⟨Nat.zero_le _,rfl,rfl,rfl,List.nodup_nil,fun a b=>by simp,l1.trans l2,m1.mono l2,SO.less o2 l1⟩) fun⟨i,F,L,done⟩ H' hQ=> ?_
 simp only[cA,nA]
 obtain⟨hi,hdl,hR,hLF,hF,hL2,l3,m3,o3⟩:=hQ
 refine a0a ⟨_,rfl⟩ ?_
 refine a0a ⟨_,rfl⟩ ?_
 refine a0e (b:=decide (((i:Nat):Int)<(p.length:Nat))) rfl (fun h=> ?_) (fun h=> ?_)
 ·replace h:=of_decide_eq_true h
  have hi':i<p.length:=by omega
  obtain⟨x,hx,hdx⟩:=a0B hi'
  have hrep:List.replicate (p.length-i) (0:Int)=0::List.replicate (p.length-(i+1)) 0:=by rw[show p.length-i=(p.length-(i+1))+1 by omega,List.replicate_succ]
  refine a0i el_plan rfl rfl rfl rfl (fun _=>rfl) (hu.mono l3) hx rfl (fun _=>rfl) fun _=> ?_
  simp only[cA,nA]
  have hmF:∀y:Int,y∈F↔y∈L.map (·.1):=fun y=>by
   constructor
   ·intro h
    obtain⟨j,hj⟩:=List.mem_iff_getElem?.1 h
    exact List.mem_map.2 ⟨(y,(j:Int)),(hL2 _ _).2 ⟨j,hj,rfl⟩,rfl⟩
   ·intro h
    obtain⟨q,hq,rfl⟩:=List.mem_map.1 h
    obtain⟨j,hj,_⟩:=(hL2 q.1 q.2).1 hq
    exact List.mem_of_getElem? hj
  have hub:(decide (x∈F)=false/\((if x∈F then F.idxOf x else 0:Nat):Int)=0/\x∉L.map (·.1))\/(decide (x∈F)=true/\(x,((if x∈F then F.idxOf x else 0:Nat):Int))∈L):=by
   by_cases hxF:x∈F
   ·obtain⟨j,hj⟩:=List.mem_iff_getElem?.1 hxF
    have hjl:=(List.getElem?_eq_some_iff.1 hj).1
    have hidx:F.idxOf x=j:=by
     obtain⟨_,e⟩:=List.getElem?_eq_some_iff.1 hj
     rw[<-e];exact List.Nodup.idxOf_getElem hF j hjl
    exact .inr ⟨decide_eq_true hxF,by rw[if_pos hxF,hidx];exact(hL2 _ _).2 ⟨j,hj,rfl⟩⟩
   ·exact .inl ⟨decide_eq_false hxF,by rw[if_neg hxF];rfl,fun h=>hxF ((hmF x).2 h)⟩
  refine a0g (b1p (vs:=[v2,ii x]) (m:=v2) (k:=x) rfl rfl rfl a3E a4g c2s m3.mi hub) rfl ?_
  simp only[cA,nA]
  refine a0a ⟨_,rfl,by simp⟩ ?_
  refine a0a ⟨_,rfl,by simp⟩ ?_
  refine a0a ⟨_,rfl⟩ ?_
  refine a0e (b:= !decide (x∈F)) rfl (fun hb=> ?_) (fun hb=> ?_)
  ·skip
   have hxF:x∉F:=by simpa using hb
   refine a0g (a7g (m:=v2) rfl rfl a3E m3.mi) rfl ?_
   simp only[cA,nA]
   refine a0l (b6l (B:=H) (vs:=[v2,ii x,ii (L.length:Nat)]) (m:=v2) (k:=x) (v:=(L.length:Nat)) rfl rfl rfl rfl a3E a4g l3 m3) rfl ?_
   rintro u4 H4 ⟨rfl,l4,m4,g,ob,E,cc,hgB,hgm,rfl⟩
   refine⟨fun h=>(nomatch h),?_⟩
   simp only[cA,nA]
   have o4:=SO.putM o3 hgm ob
   obtain⟨Bi,g1,g2,g3,g4⟩:=SO.splitM o4 l4
   refine a0R el_plan (a:=((L.length:Nat):Int)) rfl rfl rfl rfl (fun _=>rfl) (fun _=>rfl) g1 g2 (by rw[List.length_append,List.length_replicate];omega) rfl (fun _=>rfl) rfl fun q u' H5 l5 o5 _=> ?_
   simp only[cA,nA]
   have hxL:x∉L.map (·.1):=fun h=>hxF ((hmF x).2 h)
   rw[hrep,c2z hdl,hLF]at o5
   exact⟨(i+1,F++[x],c3I L x (L.length:Nat),done++[((F.length:Nat):Int)]),by show p.length-(i+1)<p.length-i;omega,(a3K (a0w rfl (by omega))),⟨hi',by rw[List.length_append,hdl];rfl,by rw[<-hR,hdx];simp only[b8k,if_neg hxF];rw[List.append_assoc];rfl,by unfold c3I;rw[if_neg hxL];simp[hLF],List.nodup_append.2 ⟨hF,by simp,fun a ha b hb=>by obtain rfl:=List.mem_singleton.1 hb;exact fun e=>hxF (e ▸ ha)⟩,by
    intro a b
    unfold c3I;rw[if_neg hxL,List.mem_append,hL2,List.mem_singleton,Prod.mk.injEq,hLF]
    constructor
    ·rintro(⟨j,h1,h2⟩|⟨rfl,rfl⟩)
     ·exact⟨j,by rw[List.getElem?_append_left (List.getElem?_eq_some_iff.1 h1).1];exact h1,h2⟩
     ·exact⟨F.length,by simp,rfl⟩
    ·rintro⟨j,h1,h2⟩
     by_cases hj:j<F.length
     ·rw[List.getElem?_append_left hj]at h1;exact .inl ⟨j,h1,h2⟩
     ·have hj2:=(List.getElem?_eq_some_iff.1 h1).1
      simp only[List.length_append,List.length_cons,List.length_nil]at hj2
      have e:j=F.length:=by omega
      subst e
      rw[List.getElem?_append_right (Nat.le_refl _),Nat.sub_self]at h1
      simp only[List.getElem?_cons_zero,Option.some.injEq]at h1
      exact .inr ⟨h1.symm,h2⟩,g3.trans l5,MO.tr m4 fun r E c hr=>l5 _ _ (g4 r E c hr),SO.less o5 g3⟩⟩
  ·skip
   have hxF:x∈F:=by simpa using hb
   obtain⟨Bi,g1,g2,g3,g4⟩:=SO.splitM o3 l3
   rw[if_pos hxF]
   refine a0R el_plan (a:=((F.idxOf x:Nat):Int)) rfl rfl rfl rfl (fun _=>rfl) (fun _=>rfl) g1 g2 (by rw[List.length_append,List.length_replicate];omega) rfl (fun _=>rfl) rfl fun q u' H5 l5 o5 _=> ?_
   simp only[cA,nA]
   rw[hrep,c2z hdl]at o5
   exact⟨(i+1,F,L,done++[((F.idxOf x:Nat):Int)]),by show p.length-(i+1)<p.length-i;omega,(a3K (a0w rfl (by omega))),⟨hi',by rw[List.length_append,hdl];rfl,by rw[<-hR,hdx];simp only[b8k,if_pos hxF];rw[List.append_assoc];rfl,hLF,hF,hL2,g3.trans l5,MO.tr m3 fun r E c hr=>l5 _ _ (g4 r E c hr),SO.less o5 g3⟩⟩
 ·replace h:=of_decide_eq_false h
  have he:i=p.length:=by omega
  subst he
  rw[List.drop_length]at hR
  simp only[b8k,List.append_nil]at hR
  rw[Nat.sub_self,List.replicate_zero,List.append_nil,hR]at o3
  exact a0c rfl ⟨l3,v4,rfl,o3⟩
end
end Go.Proofs.YtmannekkmdockaaGreatDoor
/- Chapter 32: drafts. -/
namespace Go.RX
open Go.RowKit
theorem b8n {P:Program} {ρ:List Value} {x y:SV} {n:Nat} {a b:Value} (hx:D P ρ x=a) (hy:D P ρ y=b):D P ρ (.cat x n y)= .agg (a.cells++b.cells):=by
 show Value.agg ((D P ρ x).cells++(D P ρ y).cells)=_
 rw[hx,hy]
theorem d5k {P:Program} {ρ:List Value} {x:SV} {o n:Nat} {a:Value} (hx:D P ρ x=a):D P ρ (.sub x o n 0 noI)= .agg (a.cells.extract o (o+n)):=by
 show Value.agg ((D P ρ x).cells.extract (o+0*a2r (D P ρ noI)) (o+0*a2r (D P ρ noI)+n))=_
 rw[hx,Nat.zero_mul];rfl
end Go.RX
namespace Go.Proofs.YtmannekkmdockaaGreatDoor
open Go.Proofs.Tryz
open Go.RowKit Go.RX Go.GS
def c8 (c:Nat):List Value:=[.int .u8 (c:Nat)]
theorem c6z:El prog 26 5 1 false c8 (fun c:Nat=> .int .u8 (c:Nat)) where
 und:=by kernel_rfl
 has:=by kernel_rfl
 cel:=by kernel_rfl
 agg:=by kernel_rfl
 pos:=by decide
 one1:=fun _=>rfl
 small:=by decide
 inf:=⟨(prog.info? 5).getD default,.int .u8 0,by kernel_rfl,by kernel_rfl,by kernel_rfl,rfl,of_decide_eq_true (by kernel_rfl)⟩
 len:=fun _=>rfl
 val:=fun _=>rfl
 cells:=fun _=>rfl
 one:=fun x c hc=>by simp[c8]at hc;subst hc;rfl
def cv (a b c:Nat) (s w cu:Value) (k s0 s1 tr:Nat):Value:= .agg #[.int .u8 (a:Nat),.int .u8 (b:Nat),.int .u16 (c:Nat),s,w,cu,.int .u8 (k:Nat),.int .u8 (s0:Nat),.int .u8 (s1:Nat),.int .u8 (tr:Nat)]
theorem c8i {s w cu:Value} (h:a8V s=true) (h2:a8V w=true) (h3:a8V cu=true) (a b c k s0 s1 tr:Nat):(cv a b c s w cu k s0 s1 tr).cells.size=10/\a0t (cv a b c s w cu k s0 s1 tr).cells:=by
 refine⟨rfl,fun x hx=> ?_⟩
 rw[cv,a1v]at hx
 simp only[List.mem_cons,List.not_mem_nil,or_false]at hx
 rcases hx with rfl|rfl|rfl|rfl|rfl|rfl|rfl|rfl|rfl|rfl<;>first|rfl|assumption
theorem d1N {ρ:List Value} {x:SV} {a b c:Nat} {s w cu:Value} {k s0 s1 tr:Nat} (hx:D prog ρ x=cv a b c s w cu k s0 s1 tr) (hs:s.cells= #[s]):
  D prog ρ (.cat (.op2 .rem .u8 (.cell (.sub x 0 4 0 noI) 0 0 noI) (.k (.int .u8 3))) 1 (.sub (.sub x 0 4 0 noI) 1 3 0 noI))=dv ((a%3:Nat):Int) b c s:=by
 have h1:D prog ρ (.sub x 0 4 0 noI)=dv (a:Nat) b c s:=by
  show Value.agg ((D prog ρ x).cells.extract (0+0*a2r (D prog ρ noI)) (0+0*a2r (D prog ρ noI)+4))=_
  rw[hx,Nat.zero_mul];rfl
 have h2:D prog ρ (.cell (.sub x 0 4 0 noI) 0 0 noI)= .int .u8 (a:Nat):=by
  show(D prog ρ (.sub x 0 4 0 noI)).cells.getD (0+0*a2r (D prog ρ noI)) undef=_
  rw[h1,Nat.zero_mul];rfl
 have h3:D prog ρ (.op2 .rem .u8 (.cell (.sub x 0 4 0 noI) 0 0 noI) (.k (.int .u8 3)))= .int .u8 ((a%3:Nat):Int):=by
  show a2O .rem .u8 (intOf (D prog ρ (.cell (.sub x 0 4 0 noI) 0 0 noI))) 3=_
  rw[h2];rfl
 show Value.agg ((D prog ρ (.op2 .rem .u8 (.cell (.sub x 0 4 0 noI) 0 0 noI) (.k (.int .u8 3)))).cells++((D prog ρ (.sub x 0 4 0 noI)).cells.extract (1+0*a2r (D prog ρ noI)) (1+0*a2r (D prog ρ noI)+3)))=_
 rw[h3,h1,Nat.zero_mul];rfl
theorem d5l {ρ:List Value} {x y:SV} {wts u:Value} {lo hi k:Int} (hx:D prog ρ x=u) (hy:D prog ρ y=bv wts lo hi k) (hc:u.cells= #[u]):D prog ρ (.cat x 1 (.sub y 1 3 0 noI))=bv u lo hi k:=by
 show Value.agg ((D prog ρ x).cells++((D prog ρ y).cells.extract (1+0*a2r (D prog ρ noI)) (1+0*a2r (D prog ρ noI)+3)))=_
 rw[hx,hy,hc,Nat.zero_mul];rfl
theorem d5m {ρ:List Value} {x y z:SV} {wts:Value} {lo hi k lo' hi':Int} (hx:D prog ρ x=bv wts lo hi k) (hy:D prog ρ y=ii lo') (hz:D prog ρ z=ii hi'):
  D prog ρ (.cat (.sub x 0 1 0 noI) 1 (.cat y 1 (.cat z 1 (.sub (.sub x 2 2 0 noI) 1 1 0 noI))))=bv wts lo' hi' k:=by
 have h1:D prog ρ (.sub x 0 1 0 noI)= .agg #[wts]:=by
  show Value.agg ((D prog ρ x).cells.extract (0+0*a2r (D prog ρ noI)) (0+0*a2r (D prog ρ noI)+1))=_
  rw[hx,Nat.zero_mul];rfl
 have h2:D prog ρ (.sub (.sub x 2 2 0 noI) 1 1 0 noI)= .agg #[ii k]:=by
  show Value.agg ((Value.agg ((D prog ρ x).cells.extract (2+0*a2r (D prog ρ noI)) (2+0*a2r (D prog ρ noI)+2))).cells.extract (1+0*a2r (D prog ρ noI)) (1+0*a2r (D prog ρ noI)+1))=_
  rw[hx,Nat.zero_mul];rfl
 show Value.agg ((D prog ρ (.sub x 0 1 0 noI)).cells++(Value.agg ((D prog ρ y).cells++(Value.agg ((D prog ρ z).cells++(D prog ρ (.sub (.sub x 2 2 0 noI) 1 1 0 noI)).cells)).cells)).cells)=_
 rw[h1,h2,hy,hz];rfl
theorem c8j {ρ:List Value} {x y:SV} {c m:Nat} (hx:D prog ρ x= .int .u8 (c:Nat)) (hc:c<256) (hy:D prog ρ y=ii (m:Nat)):D prog ρ (.op2 .rem .i64 (.cv .i64 x) y)=ii ((c%m:Nat):Int):=by
 show a2O .rem .i64 (IntKind.i64.wrap (intOf (D prog ρ x))) (intOf (D prog ρ y))=_
 rw[hx,hy]
 show Value.int .i64 (Int.tmod (IntKind.i64.wrap ((c:Nat):Int)) ((m:Nat):Int))=_
 rw[show IntKind.i64.wrap ((c:Nat):Int)=((c:Nat):Int) by rw[IntKind.wrap_i64];omega,<-Int.ofNat_tmod]
 rfl
theorem d8d:a0I prog 32= .slice none 0 0:=by kernel_rfl
theorem d8e {ρ:List Value} {y:SV} {k:Int} (hy:D prog ρ y=ii k):D prog ρ (.cat (.z 32) 1 (.cat (.z 3) 1 (.cat (.z 3) 1 y)))=bv (.slice none 0 0) 0 0 k:=by
 show Value.agg ((a0I prog 32).cells++(Value.agg ((a0I prog 3).cells++(Value.agg ((a0I prog 3).cells++(D prog ρ y).cells)).cells)).cells)=_
 rw[d8d,b8b,hy];rfl
theorem c6A:∀n:Fin 10,card (2^n.val-1)=n.val:=by decide
theorem d1O {n x:Nat}:bit (2^n-1) x=decide (x<n):=Nat.testBit_two_pow_sub_one n x
def a6V:List (Nat×Nat):=[(0,1),(0,2),(1,3),(2,3)]
theorem c6B:GV 4 a6V:=⟨by decide,by decide,by decide,by decide,by unfold a6V elt;simp⟩
theorem c6C:Cn a6V 15:=by
 have hb:∀x,bit 15 x=decide (x<4):=fun x=>d1O (n:=4)
 have h0:Rch a6V 15 0 0:= .base
 have h1:Rch a6V 15 0 1:= .step h0 (by simp[adj,a6V]) (by rw[hb];rfl)
 have h2:Rch a6V 15 0 2:= .step h0 (by simp[adj,a6V]) (by rw[hb];rfl)
 have h3:Rch a6V 15 0 3:= .step h1 (by simp[adj,a6V]) (by rw[hb];rfl)
 refine⟨0,by rw[hb];rfl,fun y hy=> ?_⟩
 rw[hb]at hy
 have hy:=of_decide_eq_true hy
 match y,hy with
 |0,_=>exact h0
 |1,_=>exact h1
 |2,_=>exact h2
 |3,_=>exact h3
end Go.Proofs.YtmannekkmdockaaGreatDoor
/- Chapter 32: changed drafts. -/
namespace Go.RX
open Go.RowKit
theorem b6G {P:Program} {o:Oper} {x y:Operand} {vs:List Value} {t t' e:TypeId} {p:Option Addr} {n c:Nat} (ho:o.op= .binOp .eql t x y t') (hx:a0f [x,y] vs x= .slice p n c) (hy:a0f [x,y] vs y= .slice none 0 0) (hu:P.underlying t=some (.slice e)):Yld P o vs (.bool p.isNone):=fun w=>by
 have hos:o.op.operands.toList=[x,y]:=by simp[ho,Op.operands]
 rw[hos]
 have h:∀d:Nat,(Op.equalIn (d+1) t (.slice p n c) (.slice none 0 0)).run P w= .ok p.isNone w:=fun d=>by
  cases p<;>simp[Op.equalIn,run_underlying hu]
 have hb:(binOp .eql t (.slice p n c) (.slice none 0 0)).run P w= .ok (.bool p.isNone) w:=by
  simp only[binOp]
  simp[Op.equal,Op.maxDepth,h 9999]
 simp only[execOp,ho,hx,hy,Sem.run_bind,eqGuard]
 simp[hb]
end Go.RX
namespace Go.Proofs.YtmannekkmdockaaGreatDoor
open Go.Proofs.Tryz
open Go.RowKit Go.RX Go.GS
section
variable {H:PH} {u:Value} {l:List Int}
theorem c6D (hu:SI H u l) (hl:l.length<=1000000):Con prog 45 [u] H fun r H'=>PH.le H H'/\SO H H' 3 1 (fun z:Int=>[ii z]) r l:=by
 refine a0b mixed d0d (by kernel_rfl) rfl ?_
 obtain⟨q1,a,c,rfl,q2,q3,q4⟩:=id hu
 refine a0g ((b6G (p:=a) (n:=l.length) (c:=c) rfl rfl rfl el_int.und).rds _) rfl ?_
 simp only[cA,nA]
 refine a0a ⟨_,rfl⟩ ?_
 refine a0e (b:=a.isNone) rfl (fun h=> ?_) (fun h=> ?_)
 ·skip
  have h0:l.length=0:=by
   rcases q4 with h|⟨_,_,_,_,_,h,_⟩
   ·exact h
   ·subst h;cases h
  have hnil:l=[]:=List.eq_nil_of_length_eq_zero h0
  subst hnil
  exact a0c rfl ⟨PH.le.refl _,SO.nil _ _ _ _ _⟩
 ·skip
  refine a3y el_int rfl rfl fun v2 H1 l1 o1 _=> ?_
  simp only[cA,nA]
  refine a1l el_int rfl rfl rfl l1 o1 (hu.mono l1) (by simp only[List.length_nil];omega) rfl rfl fun v3 H2 l2 o2 _=> ?_
  simp only[cA,nA]
  exact a0c rfl ⟨l2,by rw[List.nil_append]at o2;exact o2⟩
theorem c6E (hu:SI H u l) (hl:l.length<=1000000):Con prog 18 [u] H fun r H'=>PH.le H H'/\SO H H' 3 1 (fun z:Int=>[ii z]) r l:=by
 refine a0b mixed d0e (by kernel_rfl) rfl ?_
 obtain⟨q1,a,c,rfl,q2,q3,q4⟩:=id hu
 refine a0g ((b6G (p:=a) (n:=l.length) (c:=c) rfl rfl rfl el_plan.und).rds _) rfl ?_
 simp only[cA,nA]
 refine a0a ⟨_,rfl⟩ ?_
 refine a0e (b:=a.isNone) rfl (fun h=> ?_) (fun h=> ?_)
 ·skip
  have h0:l.length=0:=by
   rcases q4 with h|⟨_,_,_,_,_,h,_⟩
   ·exact h
   ·subst h;cases h
  have hnil:l=[]:=List.eq_nil_of_length_eq_zero h0
  subst hnil
  exact a0c rfl ⟨PH.le.refl _,SO.nil _ _ _ _ _⟩
 ·skip
  refine a3y el_plan rfl rfl fun v2 H1 l1 o1 _=> ?_
  simp only[cA,nA]
  refine a1l el_plan rfl rfl rfl l1 o1 (hu.mono l1) (by simp only[List.length_nil];omega) rfl rfl fun v3 H2 l2 o2 _=> ?_
  simp only[cA,nA]
  exact a0c rfl ⟨l2,by rw[List.nil_append]at o2;exact o2⟩
end
end Go.Proofs.YtmannekkmdockaaGreatDoor
/- Chapter 32: the checks, on both sides. -/
namespace Go.RX
open Go.RowKit
section
variable {P:Program} {T e:TypeId} {sz:Nat} {ag:Bool} {α:Type} {ce:α->List Value} {ve:α->Value} (E:El P T e sz ag ce ve)
variable {G:Value->PH->Prop} {nx:List (List Value->PH->Prop)} {ρ:List Value} {H:PH} {o:Oper} {id i:Nat} {args:List SV} {t:Tree} {l:List α} {vs:List Value}
include E
theorem a8C {N:Nat} {parts:Array (Nat×Operand)} (hl:l.length=N) (h0:0<N) (hN:N<=1000) (ho:o.op= .buildSlice T N parts) (hp:parts.toList.map (fun p=>(p.1,a0f (parts.toList.map (·.2)) vs p.2))=(l.zipIdx 0).map fun p=>(p.2,ve p.1)) (ha:args.map (D P ρ)=vs)
  (n:∀v H',PH.le H H'->SO H H' e sz ce v l->den P G t nx (ρ++[v]) H'):den P G (.mk id i o args t) nx ρ H:=by
 obtain⟨ti,zv,h1,h2,h3,h4,h5⟩:=E.inf
 have hpos:=E.pos
 have hsm:=E.small
 have hb:N*sz<=1000*1000:=Nat.mul_le_mul hN hsm
 have hNp:0<N*sz:=Nat.mul_pos h0 hpos
 refine⟨fun b=> .slice (some ⟨b,0,none⟩) N N,.cells (l.flatMap ce).toArray e (0,0),fun w=> ?_,fun b hb=>n _ _ (PH.le_put hb _) (b2A E hb hl (by simp only[maxLen];omega) (by simp))⟩
 have hos:o.op.operands.toList=parts.toList.map (·.2):=by simp[ho,Op.operands]
 have hf:Instr.fill (fun j=>some (j*ti.size,ti.size)) ((Array.range (N*ti.size)).map (zv.cells[· %zv.cells.size]!)) (parts.toList.map fun p=>(p.1,a0f (parts.toList.map (·.2)) vs p.2))=some (l.flatMap ce).toArray:=by
  rw[h3,hp,a5f _ _ _ fun p hp=> ?_]
  ·rw[a8d E.len E.cells,Nat.zero_mul,b0o (by rw[a5n E.len,hl];simp)]
  ·simp only[List.mem_map,Prod.exists]at hp
   obtain⟨a,k,hk,rfl⟩:=hp
   have hk':=List.mem_zipIdx hk
   refine⟨k*sz,sz,rfl,(E.vcells a).1,?_⟩
   have:(k+1)*sz<=N*sz:=Nat.mul_le_mul_right _ (by omega)
   rw[Nat.add_mul,Nat.one_mul]at this
   simpa using this
 have hr:=run_buildSlice (P:=P) w T e N (parts.map fun(j,x)=>(j,a0f (parts.toList.map (·.2)) vs x)) (l.flatMap ce).toArray ti zv E.und h1 h2 (by rw[h3];omega) (by rw[h3];omega) (by rw[Array.toList_map];exact hf)
 rw[hos,ha]
 simp only[execOp,ho,Sem.run_bind,hr,Result.andThen_ok,Sem.run_pure]
end
end Go.RX
namespace Go.Proofs.YtmannekkmdockaaGreatDoor
open Go.Proofs.Tryz
open Go.RowKit Go.RX Go.GS
open Go.WD (wd toI iw rs)
theorem a2e:El prog 48 33 1 false (fun s:Slc=>[vs s]) vs where
 und:=by kernel_rfl
 has:=by kernel_rfl
 cel:=by kernel_rfl
 agg:=by kernel_rfl
 pos:=by decide
 one1:=fun _=>rfl
 small:=by decide
 inf:=⟨(prog.info? 33).getD default,vs (none,0,0),by kernel_rfl,by kernel_rfl,by kernel_rfl,rfl,of_decide_eq_true (by kernel_rfl)⟩
 len:=fun _=>rfl
 val:=fun _=>rfl
 cells:=fun _=>rfl
 one:=fun x c hc=>by simp at hc;subst hc;rfl
end Go.Proofs.YtmannekkmdockaaGreatDoor

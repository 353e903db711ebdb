/- Chapter 32: drafted graphs. -/
import Derived.Test.YtmannekkmdockaaGreatDoorGdE
open Int renaming tmod->eD
open List renaming append_nil->dC,getD_eq_getElem?_getD->aB,getElem?_map->aO,length_append->aJ,map_cons->aM,mem_append->aV,mem_of_getElem?->aI,mem_singleton->aQ
open List.Pairwise renaming nil->iF
open Nat renaming mod_lt->bO,zero_le->bI,zero_mul->dV
namespace Go.Proofs.Z
open Go.Proofs.Tryz
open Go.RowKit Go.RX Go.GS
def bc (e:Nat×Nat):List Value:=[.int .u8 (e.1:Nat),.int .u8 (e.2:Nat)]
theorem zx:El prog 23 27 2 true bc (fun e=> .agg (bc e).toArray) where
 und:=by kernel_rfl
 has:=by kernel_rfl
 cel:=by kernel_rfl
 agg:=by kernel_rfl
 pos:=by decide
 one1:=fun h=>by cases h
 small:=by decide
 inf:=⟨(prog.info? 27).getD default,.agg #[.int .u8 0,.int .u8 0],by kernel_rfl,by kernel_rfl,by kernel_rfl,rfl,oDt (by kernel_rfl)⟩
 len:=fun _=>rfl
 val:=fun _=>rfl
 cells:=fun _=>rfl
 one:=fun x c hc=>by simp[bc]at hc;rcases hc with rfl|rfl<;>rfl
theorem e0e:Sc prog 5:=⟨by kernel_rfl,by kernel_rfl,by kernel_rfl⟩
theorem PL:Ar prog 27 5 2:=⟨by kernel_rfl,by kernel_rfl,by kernel_rfl,by kernel_rfl,e0e⟩
def dv (a b c:Int) (s:Value):Value:= .agg #[.int .u8 a,.int .u8 b,.int .u16 c,s]
theorem PM:s7 prog 35= .slice none 0 0:=by kernel_rfl
theorem ly {ρ:List Value} {a b c d e:SV} {x y z u v:Value} (h:D prog ρ a=x) (h2:D prog ρ b=y) (h3:D prog ρ c=z) (h4:D prog ρ d=u) (h5:D prog ρ e=v):[a,b,c,d,e].map (D prog ρ)=[x,y,z,u,v]:=by rw[aM,h,Ot h2 h3 h4 h5]
theorem aj (z:Int):(ii z).cells.size=1/\s8 (ii z).cells:=⟨rfl,fun x hx=>by rw[show(ii z).cells= #[ii z]from rfl]at hx;simp at hx;subst hx;rfl⟩
theorem d7T {s:Value} (h:Dx s=true) (a b c:Int):(dv a b c s).cells.size=4/\s8 (dv a b c s).cells:=by
 refine⟨rfl,fun x hx=> ?_⟩;rw[dv,It]at hx;simp only[List.mem_cons,List.not_mem_nil,or_false]at hx;rcases hx with rfl|rfl|rfl|rfl
 ·rfl
 ·rfl
 ·rfl
 ·exact h
theorem lz {ρ:List Value} {x:SV} {a m:Nat} {mi:Int} (hx:D prog ρ x= .int .u8 (a:Nat)) (hmi:mi=(m:Nat)) (hm:m<1000) (h0:0<m):D prog ρ (.op2 .add .i64 (.k (.int .i64 1)) (.cv .i64 (.op2 .rem .u8 x (.k (.int .u8 mi)))))=ii ((1+a%m:Nat):Int):=by
 subst hmi;show t8 .add .i64 1 (IntKind.i64.wrap (eD (intOf (D prog ρ x)) (m:Nat)))=_;rw[hx];show Value.int .i64 (IntKind.i64.wrap (1+IntKind.i64.wrap (eD ((a:Nat):Int) (m:Nat))))=_;rw[<-Int.ofNat_tmod];have:=bO a h0;congr 1;rw[IntKind.wrap_i64,IntKind.wrap_i64];omega
theorem PN {ρ:List Value} {x y:SV} {a b:Nat} (hx:D prog ρ x=ii (a:Nat)) (hy:D prog ρ y=ii (b:Nat)) (h:a*b<9223372036854775808):D prog ρ (.op2 .mul .i64 x y)=ii ((a*b:Nat):Int):=by
 show t8 .mul .i64 (intOf (D prog ρ x)) (intOf (D prog ρ y))=_;rw[hx,hy];show Value.int .i64 (IntKind.i64.wrap (((a:Nat):Int)*((b:Nat):Int)))=_;rw[<-Int.natCast_mul];congr 1;rw[IntKind.wrap_i64];omega
theorem b5G (x:Int):0<=IntKind.u64.wrap x:=by rw[IntKind.wrap_u64];omega
theorem Kq {ρ:List Value} {x y:SV} {a b:Nat} (hx:D prog ρ x=ii (a:Nat)) (hy:D prog ρ y=ii (b:Nat)):D prog ρ (.put (.put (.z 99) 0 1 x 0 noI) 1 1 y 0 noI)=ev2 (a,b):=by
 show Value.agg (spl (Value.agg (spl (s7 prog 99).cells (0+0*z6 (D prog ρ noI)) (D prog ρ x).cells.toList)).cells (1+0*z6 (D prog ρ noI)) (D prog ρ y).cells.toList)=_;rw[z_2,hx,hy,dV];rfl
theorem d7U {ρ:List Value} {x y:SV} {n:Nat} {w u:Value} (hx:D prog ρ x=gv n w) (hy:D prog ρ y=u) (hc:u.cells= #[u]):D prog ρ (.cat (.sub x 0 1 0 noI) 1 y)=gv n u:=by
 show Value.agg ((Value.agg ((D prog ρ x).cells.extract (0+0*z6 (D prog ρ noI)) (0+0*z6 (D prog ρ noI)+1))).cells++(D prog ρ y).cells)=_;rw[hx,hy,hc,dV];rfl
def Upto (a b:Nat) (es:List (Nat×Nat)):Prop:=es.Pairwise elt/\∀e∈es,e.1<e.2/\elt e (a,b)
theorem Upto.row {a b:Nat} {es:List (Nat×Nat)} (h:Upto a b es):Upto (a+1) (a+2) es:=⟨h.1,fun e he=>⟨(h.2 e he).1,.inl (by rcases(h.2 e he).2 with h1|⟨h1,_⟩<;>simp only at h1<;>omega)⟩⟩
theorem Upto.skip {a b:Nat} {es:List (Nat×Nat)} (h:Upto a b es):Upto a (b+1) es:=⟨h.1,fun e he=>⟨(h.2 e he).1,by rcases(h.2 e he).2 with h1|⟨h1,h2⟩;exact .inl h1;exact .inr ⟨h1,by simp only at h2;show e.2<b+1;omega⟩⟩⟩
theorem Upto.put {a b:Nat} {es:List (Nat×Nat)} (h:Upto a b es) (rL:a<b):Upto a (b+1) (es++[(a,b)]):=by
 refine⟨List.pairwise_append.2 ⟨h.1,List.pairwise_singleton _ _,fun e he f hf=> ?_⟩,fun e he=> ?_⟩
 ·rw[aQ]at hf;subst hf;exact(h.2 e he).2
 ·rcases aV.1 he with he|he
  ·exact h.skip.2 e he
  ·rw[aQ]at he;subst he;exact⟨rL,.inr ⟨rfl,by show b<b+1;omega⟩⟩
section
variable {H:PH} {s:Value} {more:List (Nat×Nat)} {da db dc:Nat}
abbrev mc (H:PH):List Value->PH->Prop:=fun l H'=>H'=H/\∃p:Bool,l=[.bool p]
set_option maxHeartbeats 2000000 in
theorem b9v (hs:SE H 2 bc s more):Con prog 39 [dv (da:Nat) (db:Nat) (dc:Nat) s] H fun r H'=>PH.le H H'/\∃w es,r=gv ((1+da%4)*(1+db%3)) w/\SO H H' 99 2 ec w es/\GV ((1+da%4)*(1+db%3)) es:=by
 refine j3 mixed c2W ?_;have hw4:1+da%4<=4:=by have:=bO da (show 0<4 by decide);omega
 have hh3:1+db%3<=3:=by have:=bO db (show 0<3 by decide);omega
 have wK:(1+da%4)*(1+db%3)<=12:=Nat.mul_le_mul hw4 hh3;have tW:1<=(1+da%4)*(1+db%3):=Nat.mul_pos (by omega) (by omega);generalize hn:(1+da%4)*(1+db%3)=n at wK tW;obtain⟨zg,hzg⟩:∃zg,s7 prog 37=zg:=⟨_,rfl⟩;refine d9 (d7T (Af hs) _ _ _) ?_;refine d4 (d4 ?_);refine s9 (α:=Int×Nat×Value×List (Nat×Nat)) (fun⟨c,a,w,es⟩=>[ii c,ii (a:Nat),dv (da:Nat) (db:Nat) (dc:Nat) s,zg,gv n w]) (fun⟨c,a,w,es⟩=>fun H'=>PH.le H H'/\a<=n/\SO H H' 99 2 ec w es/\Upto a (a+1) es/\es.length<=a*12/\∀e∈es,e.2<n) (fun⟨c,a,w,es⟩=>n-a) ((0,0,.slice none 0 0,[])) (by rw[<-hn];refine ly rfl rfl rfl hzg ?_;show Value.agg ((D prog _ (.op2 .mul .i64 _ _)).cells++(s7 prog 35).cells)=_;rw[PM,PN (lz (m:=4) (mi:=4) rfl rfl (by decide) (by decide)) (lz (m:=3) (mi:=3) rfl rfl (by decide) (by decide)) (by omega)];rfl) (⟨PH.le.refl _,bI _,SO.nil _ _ _ _ _,⟨iF,fun _ h=>nomatch h⟩,bI _,fun _ h=>nomatch h⟩) fun⟨c,a,w,es⟩ H' hQ=> ?_;obtain⟨l1,han,o1,hU,pR,hed⟩:=hQ;have xB:=hs.mono l1;refine d4 (d4 ?_);refine i0 (b:=decide (((a:Nat):Int)<(n:Nat))) rfl (fun h=> ?_) (fun h=> ?_)
 ·replace h:=oDt h;have a7f:a<n:=by omega
  refine s9 (α:=Int×Nat×Value×List (Nat×Nat)) (fun⟨c2,b,w2,es2⟩=>[ii c2,ii (b:Nat),gv n w2]) (fun⟨c2,b,w2,es2⟩=>fun H''=>PH.le H H''/\a<b/\b<=n/\SO H H'' 99 2 ec w2 es2/\Upto a b es2/\es2.length<=a*12+b/\∀e∈es2,e.2<n) (fun⟨c2,b,w2,es2⟩=>n-b) ((c,a+1,w,es)) (Cc rfl (i9 rfl (by omega)) rfl) (⟨l1,by omega,by omega,o1,hU,by omega,hed⟩) fun⟨c2,b,w2,es2⟩ H2 wI=> ?_;obtain⟨l2,rL,yC,o2,hU2,a0n,a1o⟩:=wI;have hs2:=hs.mono l2;refine d4 (d4 ?_);refine i0 (b:=decide (((b:Nat):Int)<(n:Nat))) rfl (fun h2=> ?_) (fun h2=> ?_)
  ·replace h2:=oDt h2;have a5s:b<n:=by omega
   refine⟨(mc H2),?_,?_⟩
   ·skip
    refine i0 (b:=_) rfl (fun h3=> ?_) (fun h3=> ?_)
    ·skip
     exact⟨rfl,_,rfl⟩
    ·skip
     refine i0 (b:=_) rfl (fun h4=> ?_) (fun h4=> ?_)
     ·skip
      refine d9 (by show intOf (D prog _ _)≠0;rw[lz (m:=4) (mi:=4) rfl rfl (by decide) (by decide)];show((1+da%4:Nat):Int)≠0;omega) ?_;exact⟨rfl,_,rfl⟩
     ·skip
      exact⟨rfl,_,rfl⟩
   rintro _ H2 _ ⟨rfl,p,rfl⟩;simp only[cA,nA];refine⟨(fun l H'=>H'=H2/\∃(c:Int) (p:Bool),l=[ii c,.bool p]),?_,?_⟩
   ·skip
    refine d4 ?_;refine i0 (b:=p) rfl (fun h3=> ?_) (fun h3=> ?_)
    ·skip
     refine⟨(mc H2),?_,?_⟩
     ·skip
      refine d4 ?_;refine i0 (b:=_) rfl (fun h4=> ?_) (fun h4=> ?_)
      ·skip
       refine d4 ?_;refine d9 (b5G _) ?_;exact⟨rfl,_,rfl⟩
      ·skip
       exact⟨rfl,_,rfl⟩
     rintro _ H2 _ ⟨rfl,p4,rfl⟩;simp only[cA,nA];refine⟨(mc H2),?_,?_⟩
     ·skip
      refine d4 ?_;refine i0 (b:=p4) rfl (fun h4=> ?_) (fun h4=> ?_)
      ·skip
       exact⟨rfl,_,rfl⟩
      ·skip
       exact⟨rfl,_,rfl⟩
     rintro _ H2 _ ⟨rfl,p5,rfl⟩;simp only[cA,nA];refine d4 ?_;exact⟨rfl,_,_,rfl⟩
    ·skip
     exact⟨rfl,_,_,rfl⟩
   rintro _ H2 _ ⟨rfl,c3,p3,rfl⟩;simp only[cA,nA];refine Dq (α:=Bool×Nat) (fun⟨p6,i⟩=>[.bool p6,ii (i:Nat)]) (fun⟨p6,i⟩=>i<=3) (fun⟨p6,i⟩=>3-i) ((p3,0)) rfl (bI _) fun⟨p6,i⟩ hQ=> ?_;refine⟨(fun l H'=>H'=H2/\∃q:Bool,l=[.bool q]/\(q=true->i<more.length/\i<3)),?_,?_⟩
   ·skip
    refine j7 zx hs2 ?_;refine d4 (d4 ?_);refine i0 (b:=decide (((i:Nat):Int)<(more.length:Nat))) rfl (fun h3=> ?_) (fun h3=> ?_)
    ·replace h3:=oDt h3;exact⟨rfl,decide (((i:Nat):Int)<3),rfl,fun e=>⟨by omega,by have:=oDt e;omega⟩⟩
    ·replace h3:=oDf h3;exact⟨rfl,false,rfl,fun e=>nomatch e⟩
   rintro _ H2 _ ⟨rfl,q,rfl,hq⟩;simp only[cA,nA];refine d4 ?_;refine i0 (b:=q) rfl (fun h3=> ?_) (fun h3=> ?_)
   ·skip
    obtain⟨hi1,uG⟩:=hq h3;have hm:=List.getElem?_eq_getElem hi1;refine KA zx (c:=(.int .u8 ((more[i]).1:Nat))) PL (by decide) rfl rfl rfl rfl rfl rfl (fun _=>rfl) (fun _=>rfl) (fun _=>rfl) hs2 hm rfl (fun _=>rfl) (fun _ _=>rfl) fun _ _=> ?_;refine d4 ?_;refine d9 (show((n:Nat):Int)≠0 by omega) ?_;refine KA zx (c:=(.int .u8 ((more[i]).2:Nat))) PL (by decide) rfl rfl rfl rfl rfl rfl (fun _=>rfl) (fun _=>rfl) (fun _=>rfl) hs2 hm rfl (fun _=>rfl) (fun _ _=>rfl) fun _ _=> ?_;refine d4 ?_;refine⟨(mc H2),?_,?_⟩
    ·skip
     refine d4 ?_;refine i0 (b:=p6) rfl (fun h4=> ?_) (fun h4=> ?_)
     ·skip
      exact⟨rfl,_,rfl⟩
     ·skip
      refine i0 (b:=_) rfl (fun h5=> ?_) (fun h5=> ?_)
      ·skip
       refine i0 (b:=_) rfl (fun h6=> ?_) (fun h6=> ?_)
       ·skip
        exact⟨rfl,_,rfl⟩
       ·skip
        refine i0 (b:=_) rfl (fun h7=> ?_) (fun h7=> ?_)
        ·skip
         exact⟨rfl,_,rfl⟩
        ·skip
         exact⟨rfl,_,rfl⟩
      ·skip
       refine i0 (b:=_) rfl (fun h6=> ?_) (fun h6=> ?_)
       ·skip
        exact⟨rfl,_,rfl⟩
       ·skip
        exact⟨rfl,_,rfl⟩
    rintro _ H2 _ ⟨rfl,p7,rfl⟩;simp only[cA,nA];refine d4 ?_;exact⟨(p7,i+1),by show 3-(i+1)<3-i;omega,(j4 rfl (i9 rfl (by omega))),⟨by show i+1<=3;omega,rfl⟩⟩
   ·skip
    refine d4 ?_;refine i0 (b:=p6) rfl (fun h4=> ?_) (fun h4=> ?_)
    ·skip
     refine d9 (aj _) ?_;refine d9 (aj _) ?_;refine Iz el_edge rfl rfl rfl (fun _=>rfl) (fun _=>rfl) l2 o2 (by omega) (z8 (Kq rfl rfl)) (fun _=>rfl) rfl fun q2 w3 H3 l3 o3=> ?_;have a3b:=o3.se;refine d9 a3b.one ?_;exact⟨(c3,b+1,w3,es2++[(a,b)]),by show n-(b+1)<n-b;omega,(Cc rfl (i9 rfl (by omega)) (d7U rfl rfl a3b.cells)),⟨l3,by show a<b+1;omega,by show b+1<=n;omega,o3,hU2.put rL,by show(es2++[(a,b)]).length<=a*12+(b+1);rw[aJ];simp only[List.length_cons,List.length_nil];omega,fun e he=>by rcases aV.1 he with he|he;exact a1o e he;rw[aQ]at he;subst he;exact a5s⟩⟩
    ·skip
     exact⟨(c3,b+1,w2,es2),by show n-(b+1)<n-b;omega,(Cc rfl (i9 rfl (by omega)) rfl),⟨l2,by show a<b+1;omega,by show b+1<=n;omega,o2,hU2.skip,by show es2.length<=a*12+(b+1);omega,a1o⟩⟩
  ·replace h2:=oDf h2;exact⟨(c2,a+1,w2,es2),by show n-(a+1)<n-a;omega,(ly rfl (i9 rfl (by omega)) rfl rfl rfl),⟨l2,by show a+1<=n;omega,o2,hU2.row,by show es2.length<=(a+1)*12;omega,a1o⟩⟩
 ·replace h:=oDf h;exact g8 rfl ⟨l1,w,es,rfl,o1,tW,by omega,by omega,fun e he=>⟨(hU.2 e he).1,hed e he⟩,hU.1⟩
end
end Go.Proofs.Z
/- Chapter 32: random spanning trees. -/
namespace Go.GS
open Go.RowKit Go.RX
theorem d7V {P:Program} {ρ:List Value} {a b:SV} {A n:Nat} {k:IntKind} (ha:D P ρ a=uv A) (hA:A<M64) (hb:D P ρ b= .int k (n:Nat)) (hn:n<=64):D P ρ (.op2 .eql .u64 (.op2 .and .u64 (.op2 .shr .u64 a b) (.k (.int .u64 1))) (.k (.int .u64 0)))= .bool (!bit A n):=by
 show t8 .eql .u64 (intOf (D P ρ (.op2 .and .u64 (.op2 .shr .u64 a b) (.k (.int .u64 1))))) 0=_;rw[Ej (B:=1) (Ja ha hb hn) rfl (Nat.lt_of_le_of_lt (Nat.div_le_self _ _) hA) (by decide),JL];cases bit A n<;>rfl
theorem d7W {P:Program} {ρ:List Value} {a:SV} {A x:Nat} {r:List Nat} (ha:D P ρ a=uv A) (hA:A<M64) (h:els A=x::r):D P ρ (.op2 .and .u64 a (.op1 .neg .u64 a))=uv (2^x):=by
 rw[<-Yt hA h];exact Ej ha (Ve ha hA) hA (bO _ Jy)
end Go.GS
namespace Go.Proofs.Z
open Go.Proofs.Tryz
open Go.RowKit Go.RX Go.GS
theorem zy {ρ:List Value} {a b c d e f g:SV} {x y z u v s t:Value} (h:D prog ρ a=x) (h2:D prog ρ b=y) (h3:D prog ρ c=z) (h4:D prog ρ d=u) (h5:D prog ρ e=v) (h6:D prog ρ f=s) (h7:D prog ρ g=t):[a,b,c,d,e,f,g].map (D prog ρ)=[x,y,z,u,v,s,t]:=by
 rw[aM,h,aM,h2,ly h3 h4 h5 h6 h7]
section
variable {H:PH} {u w:Value} {n x c set til left bw m:Nat} {es:List (Nat×Nat)} {l:List Nat}
theorem SO.split {α:Type} {e:TypeId} {sz:Nat} {ce:α->List Value} {v:Value} {tr:List α} {B H4 H5:PH} (h:SO B H4 e sz ce v tr) (h45:PH.le H4 H5):
  ∃Bi,PH.le Bi H5/\SO Bi H5 e sz ce v tr/\(∀X,PH.le X H5->(∀g,B g=none->X g=none)->PH.le X Bi)/\∀{β:Type} {e2:TypeId} {sz2:Nat} {ce2:β->List Value} {u:Value} {l:List β},SO H4 H5 e2 sz2 ce2 u l->SE Bi sz2 ce2 u l:=by
 obtain⟨pR,hv⟩:=h;rcases hv with⟨rfl,h0⟩|⟨g,cap,cur,rfl,sN,hg,h4⟩
 ·exact⟨H5,PH.le.refl _,⟨pR,.inl ⟨rfl,h0⟩⟩,fun X hX _=>hX,fun h=>h.se⟩
 ·refine⟨j1 H5 g,Jb _ _,⟨pR,.inr ⟨g,cap,cur,rfl,by unfold j1;rw[if_pos rfl],h45 _ _ hg,h4⟩⟩,fun X hX hB k o hk=> ?_,fun h=> ?_⟩
  ·unfold j1;rw[if_neg (fun e=>by subst e;rw[hB _ sN]at hk;cases hk)];exact hX _ _ hk
  ·exact SO.se (h.tr fun g2 ob g3 g4=>⟨g3,by unfold j1;rw[if_neg (fun e=>by subst e;rw[hg]at g3;cases g3)];exact g4⟩)
theorem WkR.case {H H':PH} {r:Value} {R:Nat ⊕ (List Nat×Nat×Nat)} (h:WkR H H' bw n w set r R):∃v e,r= .tuple #[v,ii (e:Nat)]/\((e≠0/\R= .inl e/\PH.le (j1 H bw) H')\/(e=0/\∃l c left,R= .inr (l,c,left)/\c<M64/\PH.le (H.put bw (WkO c n w set left)) H'/\OI H H' v (l.map fun y:Nat=>(y:Int)))):=by
 cases R with
 |inl e=>obtain⟨h1,h2,v,h3⟩:=h;exact⟨v,e,h3,.inl ⟨h2,rfl,h1⟩⟩
 |inr p=>
  obtain⟨l,c,left⟩:=p;obtain⟨h1,h2,v,h3,h4⟩:=h;exact⟨v,0,h3,.inr ⟨rfl,l,c,left,rfl,h1,h2,h4⟩⟩
def e1t (H':PH) (r:Value):Nat ⊕ (List Int×Nat)->Prop
 | .inl e=>e≠0/\r= .tuple #[.slice none 0 0,chV 0,ii (e:Nat)]
 | .inr (tr,c)=>c<M64/\∃v,r= .tuple #[v,chV c,ii 0]/\SI H' v (Dc tr)
def DraO (H H':PH) (r:Value):Nat ⊕ (List Int×Nat)->Prop
 | .inl e=>e≠0/\r= .tuple #[.slice none 0 0,chV 0,ii (e:Nat)]
 | .inr (tr,c)=>c<M64/\∃v,r= .tuple #[v,chV c,ii 0]/\OI H H' v (Dc tr)
set_option maxHeartbeats 1000000 in
theorem c8z {x0:Nat} {r0:List Nat} (hT:Tb H) (hw:SG H w es) (hg:GV n es) (hn:n<=9) (h0:set≠0) (hs:set<2^n) (tA:cnB es set=true) (hc:c<M64) (rJ:els set=x0::r0):Con prog 113 [gv n w,uv set,chV c] H fun r H'=>PH.le H H'/\DraO H H' r (Ea es set n n (2^x0) [] c 10000):=by
 refine j3 mixed d2S ?_;have qK:n<=64:=by omega
 have qF:=Ci qK hs;obtain⟨sH,hx0,_⟩:=Va rJ;have a1p:=Zg hs sH;refine d9 (Ap hw) ?_;refine d9 (Hf c) ?_;refine x9 (Za hw hg) rfl fun H1 l1=> ?_;simp only[cA,nA];refine d4 ?_;refine t6 (bF (p:=(0:Int)≠0) (by simp)) ?_;refine d4 ?_;refine t6 (by show Value.bool (((set:Nat):Int)==0)=_;rw[bE0,decide_eq_false h0]) ?_;refine Aq (c8o (hw.mono l1) qF) rfl ?_;simp only[cA,nA];refine d4 ?_;refine t6 (by show Value.bool (!decide (set<2^n))=_;rw[oDd hs];rfl) ?_;refine x9 (ya (hT.mono l1) (hw.mono l1) hg qF) rfl fun H2 l2=> ?_;simp only[cA,nA];rw[show Vk n es set= .tuple #[.bool (cnB es set),ii 0]from if_pos hs,tA];refine i8 (i8 (d4 ?_));refine t6 rfl ?_;refine d9 (el_u64.vcells set) ?_;refine Ee (cs:=wkc c n w set 10000) (by show(Value.agg ((chV c).cells++(Value.agg ((gv n w).cells++(Value.agg (spl (Value.agg ((uv set).cells++(s7 prog 3).cells)).cells 1 (ii 10000).cells.toList)).cells)).cells)).cells=_;rw[Rr];rfl) fun bw uV=> ?_;simp only[cA,nA];have l12:=l1.trans l2;have hB:∃B:PH,H2.put bw (WkO c n w set 10000)=B/\B bw=some (WkO c n w set 10000)/\PH.le H2 (j1 B bw):=⟨_,rfl,PH.put_self _ _ _,fun k o hk=>by
  unfold j1;have e:k≠bw:=fun e=>by subst e;rw[uV]at hk;cases hk
  rw[if_neg e,PH.put_ne _ _ e];exact hk⟩
 obtain⟨B,hBe,wO,hBc⟩:=hB;show den prog _ _ _ _ (H2.put bw (WkO c n w set 10000));rw[hBe];have hBn:B bw≠none:=by rw[wO];exact fun h=>nomatch h
 have hBB:B.put bw (WkO c n w set 10000)=B:=by rw[<-hBe,PH.put_put]
 have zN:1<=card (2^x0):=by
  have:=kw [x0] 0 (by simp) (fun y hy=>by obtain rfl:=aQ.1 hy;exact⟨Bz _,hx0⟩);have e:orL 0 [x0]=2^x0:=by unfold orL;simp
  rw[e]at this;simp at this;omega
 refine s9 (α:=Nat×Nat×List Int×Nat×Nat×Value) (fun⟨i,d,tr,cc,left,vt⟩=>[ii 0,uv d,vt,ii (i:Nat),gv n w,chV c,chV 0]) (fun⟨i,d,tr,cc,left,vt⟩=>fun H'=>Ea es set n (n-i) d tr cc left=Ea es set n n (2^x0) [] c 10000/\i<=n/\d<2^n/\tr.length+1<=card d/\cc<M64/\left<=10000/\PH.le (B.put bw (WkO cc n w set left)) H'/\OI B H' vt tr) (fun⟨i,d,tr,cc,left,vt⟩=>n-i) ((0,2^x0,[],c,10000,.slice none 0 0)) (zy rfl (d7W rfl qF rJ) rfl rfl rfl rfl Mc) (⟨rfl,bI _,Nat.pow_lt_pow_right (by decide) a1p,zN,hc,Nat.le_refl _,by rw[hBB];exact PH.le.refl _,SO.nil _ _ _ _ _⟩) fun⟨i,d,tr,cc,left,vt⟩ H' hQ=> ?_;simp only[cA,nA];obtain⟨hR,hi,hd,zK,xN,zJ,l3,o3⟩:=hQ;have qB:=Ci qK hd;obtain⟨lc,uC⟩:=Ah l3;have lH:PH.le H2 H':=hBc.trans lc;refine d4 (d4 ?_);refine i0 (b:=decide (((i:Nat):Int)<(n:Nat))) rfl (fun h=> ?_) (fun h=> ?_)
 ·replace h:=oDt h;have pW:i<n:=by omega
  obtain⟨k,hk⟩:∃k,n-i=k+1:=⟨n-i-1,by omega⟩;have zY:n-(k+1)=i:=by omega
  have qO:n-(i+1)=k:=by omega
  refine d4 ?_;refine d9 ⟨_,_,rfl⟩ ?_;refine d9 (by show(0:Int)<=((i:Nat):Int);omega) ?_;refine i0 (b:= !(bit set i&& !bit d i)) ((d7V (Rk rfl rfl qF qB) (sdf_lt qF) rfl (by omega)).trans (by rw[Ad])) (fun h2=> ?_) (fun h2=> ?_)
  ·skip
   have hsk:¬(bit set i=true/\bit d i=false):=fun⟨e1,e2⟩=>by rw[e1,e2]at h2;cases h2
   exact⟨(i+1,d,tr,cc,left,vt),by show n-(i+1)<n-i;omega,(zy rfl rfl rfl (i9 rfl (by omega)) rfl rfl rfl),⟨by show Ea es set n (n-(i+1)) d tr cc left=_;rw[qO,<-hR,hk];simp only[Ea,zY,if_neg hsk],pW,hd,zK,xN,zJ,l3,o3⟩⟩
  ·skip
   have hsk:bit set i=true/\bit d i=false:=by
    cases e1:bit set i<;>cases e2:bit d i<;>simp[e1,e2]at h2<;>exact⟨rfl,rfl⟩
   have zO:PH.le H2 (j1 H' bw):=fun k o hk=>by
    have e:k≠bw:=fun e=>by subst e;rw[uV]at hk;cases hk
    unfold j1;rw[if_neg e];exact lH _ _ hk
   have a7g:H' bw≠none:=by rw[uC];exact fun h=>nomatch h
   refine i6 (c7Y uC (hw.mono (l12.trans zO)) hg qK (hT.mono (l12.trans zO)) qF qB xN pW zJ) rfl ?_;rintro r14 H4 hR4;refine nmI ?_;simp only[cA,nA];obtain⟨v,e,rfl,rT⟩:=WkR.case hR4;refine i8 (i8 (d4 ?_));refine r9 (p:=(e≠0)) (bN0 e) (fun h5=> ?_) fun h5=> ?_
   ·obtain⟨-,hW,lcut⟩:=rT.resolve_right (fun h=>h5 h.1);exact g8 (by show Value.tuple #[.slice none 0 0,s7 prog _,ii (e:Nat)]=_;rw[Mc]) (by
     rw[hk]at hR;simp only[Ea,zY,if_pos hsk,hW]at hR;rw[<-hR];exact⟨(l12.trans zO).trans lcut,h5,rfl⟩)
   ·obtain⟨he0,W0,c',left',hW,hc',l4,o4⟩:=rT.resolve_left (fun h=>h5 (by omega)|>.elim);subst he0;obtain⟨hWl,hWk,hWn,hWc,hWd⟩:=OT hg qK qF pW hd hW;refine i6 (c8n (o4.se) hWl (by omega)) rfl ?_;rintro v15 H5 ⟨l5,o5⟩;refine nmI ?_;simp only[cA,nA];have hl4:=Si l3 l4;have o4t:OI B H4 vt tr:=SO.kp hBn o3 l4;obtain⟨Bi,lBi,oBi,a5t,hrd⟩:=SO.split o4t l5;have hWi:=hrd o5;have a1q:PH.le (B.put bw (WkO c' n w set left')) Bi:=a5t _ (hl4.trans l5) fun g hg=>by
     have e:g≠bw:=fun e=>by subst e;exact hBn hg
     rw[PH.put_ne _ _ e];exact hg
    have a3c:((u0 W0).map fun y:Nat=>(y:Int)).length=(u0 W0).length:=List.length_map _;have hcW:=kx hWd qK;have a5u:SG Bi w es:=hw.mono (l12.trans (hBc.trans ((jl _ _ _).trans a1q)));refine j7 el_int (hWi.mono lBi) ?_;simp only[cA,nA];rw[a3c];refine s9 (α:=Nat×Value) (fun⟨j,vt2⟩=>[uv (orL d ((u0 W0).take j)),vt2,ii (j:Nat)]) (fun⟨j,vt2⟩=>fun H6=>j<=(u0 W0).length/\PH.le Bi H6/\OI Bi H6 vt2 (tr++edW es (u0 W0) j)) (fun⟨j,vt2⟩=>(u0 W0).length-j) ((0,vt)) rfl (⟨bI _,lBi,by show OI Bi H5 vt (tr++[]);rw[dC];exact oBi⟩) fun⟨j,vt2⟩ H6 hQ6=> ?_;simp only[cA,nA];obtain⟨hj,l6,o6⟩:=hQ6;refine d4 (d4 ?_);refine i0 (b:=decide (((j:Nat):Int)<((u0 W0).length:Nat))) rfl (fun h6=> ?_) (fun h6=> ?_)
    ·replace h6:=oDt h6;have rG:j<(u0 W0).length:=by omega
     obtain⟨y,hy,_⟩:=t7 rG;have hyn:y<n:=hWn y (aI hy);have hgy:(u0 W0).getD j 0=y:=by rw[aB,hy];rfl
     have vP:orL d ((u0 W0).take j)<M64:=Ci qK (OS _ _ hd fun z hz=>hWn z (List.mem_of_mem_take hz));have a0o:orL d ((u0 W0).take (j+1))=orL d ((u0 W0).take j)|||2^y:=by rw[take_snoc hy,Su]
     refine Do el_int rfl rfl rfl rfl (fun _=>rfl) (hWi.mono l6) (show((u0 W0).map fun y:Nat=>(y:Int))[j]? =some (y:Int) by rw[aO,hy];rfl) rfl (fun _=>rfl) fun _=> ?_;simp only[cA,nA];refine d9 ⟨_,_,rfl⟩ ?_;refine d9 (by show(0:Int)<=((y:Nat):Int);omega) ?_;refine d4 ?_;refine i0 (b:=decide (((j:Nat):Int)>0)) rfl (fun h7=> ?_) (fun h7=> ?_)
     ·replace h7:=oDt h7;obtain⟨q,rfl⟩:∃q,j=q+1:=⟨j-1,by omega⟩;obtain⟨z,hz,_⟩:=t7 (show q<(u0 W0).length by omega);have hzn:z<n:=hWn z (aI hz);have hgz:(u0 W0).getD (q+1-1) 0=z:=by rw[show q+1-1=q by omega,aB,hz];rfl
      have hzi:((u0 W0).map fun y:Nat=>(y:Int))[q]? =some (z:Int):=by rw[aO,hz];rfl
      refine Do el_int rfl rfl rfl rfl (fun _=>rfl) (hWi.mono l6) hzi (j4 rfl (Ou rfl (by omega))) (fun _=>rfl) fun _=> ?_;simp only[cA,nA];refine r7 ((FQ (a:=(y:Int)) (b:=(z:Int)) rfl rfl rfl).rds _) rfl ?_;simp only[cA,nA];rw[show(if((z:Nat):Int)<((y:Nat):Int)then((z:Nat):Int)else((y:Nat):Int))=((min y z:Nat):Int) by split<;>omega];refine Do el_int rfl rfl rfl rfl (fun _=>rfl) (hWi.mono l6) hzi (j4 rfl (Ou rfl (by omega))) (fun _=>rfl) fun _=> ?_;simp only[cA,nA];refine r7 ((Go.RZ.yld_imax (a:=(y:Int)) (b:=(z:Int)) rfl rfl rfl).rds _) rfl ?_;simp only[cA,nA];rw[show(if((y:Nat):Int)<((z:Nat):Int)then((z:Nat):Int)else((y:Nat):Int))=((max y z:Nat):Int) by split<;>omega];refine d9 (el_int.vcells _) ?_;refine d9 (el_int.vcells _) ?_;refine Aq (c7x (a:=min y z) (b:=max y z) (a5u.mono l6) hg qK (by omega) (by omega)) (j4 rfl (Kq rfl rfl)) ?_;simp only[cA,nA];refine Iz el_int rfl rfl rfl (fun _=>rfl) (fun _=>rfl) l6 o6 (by rw[aJ,ae];omega) rfl (fun _=>rfl) rfl fun p8 vt3 H7 l7 o7=> ?_;simp only[cA,nA];exact⟨(q+1+1,vt3),by show(u0 W0).length-(q+1+1)<(u0 W0).length-(q+1);omega,(Cc (by rw[a0o];exact Cb rfl (Ez rfl (by omega)) vP (An (by omega))) rfl (i9 rfl (by omega))),⟨rG,l7,by show OI Bi H7 vt3 (tr++edW es (u0 W0) (q+1+1));rw[ky,if_neg (by omega),<-List.append_assoc,hgy,hgz];exact o7⟩⟩
     ·replace h7:=oDf h7;have hj0:j=0:=by omega
      subst hj0;exact⟨(0+1,vt2),by show(u0 W0).length-(0+1)<(u0 W0).length-0;omega,(Cc (by rw[a0o];exact Cb rfl (Ez rfl (by omega)) vP (An (by omega))) rfl (i9 rfl (by omega))),⟨rG,l6,by show OI Bi H6 vt2 (tr++edW es (u0 W0) (0+1));rw[ky,if_pos rfl,dC];exact o6⟩⟩
    ·replace h6:=oDf h6;have vT:j=(u0 W0).length:=by omega
     subst vT;rw[List.take_length];exact⟨(i+1,orL d (u0 W0),tr++edW es (u0 W0) (u0 W0).length,c',left',vt2),by show n-(i+1)<n-i;omega,(zy rfl rfl rfl (i9 rfl (by omega)) rfl rfl rfl),⟨by show Ea es set n (n-(i+1)) _ _ _ _=_;rw[qO,<-hR,hk];simp only[Ea,zY,if_pos hsk,hW],pW,hWd,by show(tr++edW es (u0 W0) (u0 W0).length).length+1<=card (orL d (u0 W0));rw[aJ,ae];have qW:0<(u0 W0).length:=(by unfold u0;simp);omega,hc',by show left'<=10000;omega,a1q.trans l6,SO.unbase (SO.less o6 a1q)⟩⟩
 ·replace h:=oDf h;have pY:i=n:=by omega
  subst pY;rw[Nat.sub_self]at hR;have hcd:=kx hd qK;refine i6 (c7w l3 (SO.base (WkO cc i w set left) hBn o3) (by omega)) rfl ?_;rintro _ H7 ⟨l7,m,hp,wT,o7⟩;refine nmI ?_;simp only[cA,nA];have hb7:=(Ah l7).2;refine As ?_;simp only[cA,nA];refine s6 yj ?_;simp only[cA,nA];refine Fj (vs:=[uv cc]) Md rfl rfl hb7 rfl (show 1<=5 by omega) rfl ?_;simp only[cA,nA];refine d9 (Hf cc) ?_;exact g8 rfl (by
   rw[<-hR];refine⟨l12.trans (hBc.trans (Ah l7).1),xN,vt,rfl,?_⟩;rw[show Dc tr=m from KV (Wc tr).2 wT ((Wc tr).1.trans hp.symm)];exact SO.less o7 (l12.trans (hBc.trans (jl _ _ _))))
end
end Go.Proofs.Z

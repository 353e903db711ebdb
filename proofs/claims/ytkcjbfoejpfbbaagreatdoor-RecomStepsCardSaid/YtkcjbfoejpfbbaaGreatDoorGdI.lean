/- Chapter 32: changed drafts. -/
import Derived.Test.YtkcjbfoejpfbbaaGreatDoorGdG
namespace Go.RX
open Go.RowKit
theorem b5u {P:Program} {o:Oper} {x y:Operand} {vs:List Value} {t t' e:TypeId} {p:Option Addr} {n c:Nat} (ho:o.op= .binOp .eql t x y t') (hx:a0h [x,y] vs x= .slice p n c) (hy:a0h [x,y] vs y= .slice none 0 0) (hu:P.underlying t=some (.slice e)):Yld P o vs (.bool p.isNone):=fun w=>by
 have hos:o.op.operands.toList=[x,y]:=by simp[ho,Op.operands]
 rw[hos]
 have h:∀d:Nat,(Op.equalIn (d+1) t (.slice p n c) (.slice none 0 0)).run P w= .ok p.isNone w:=fun d=>by
  cases p<;>simp[Op.equalIn,run_underlying hu]
 have hb:(binOp .eql t (.slice p n c) (.slice none 0 0)).run P w= .ok (.bool p.isNone) w:=by
  simp only[binOp]
  simp[Op.equal,Op.maxDepth,h 9999]
 simp only[execOp,ho,hx,hy,Sem.run_bind,eqGuard]
 simp[hb]
end Go.RX
namespace Go.Proofs.YtkcjbfoejpfbbaaGreatDoor
open Go.Proofs.Tryz
open Go.RowKit Go.RX Go.GS
section
variable {H:PH} {u:Value} {l:List Int}
theorem c7A (hu:SI H u l) (hl:l.length<=1000000):Con prog 50 [u] H fun r H'=>PH.le H H'/\SO H H' 3 1 (fun z:Int=>[ii z]) r l:=by
 refine a0j a0n b9V ?_
 obtain⟨q1,a,c,rfl,q2,q3,q4⟩:=id hu
 refine a0u ((b5u (p:=a) (n:=l.length) (c:=c) rfl rfl rfl el_int.und).rds _) rfl ?_
 refine a0a ?_
 refine a0e (b:=a.isNone) rfl (fun h=> ?_) (fun h=> ?_)
 ·skip
  have h0:l.length=0:=by
   rcases q4 with h|⟨_,_,_,_,_,h,_⟩
   ·exact h
   ·subst h;cases h
  have hnil:l=[]:=List.eq_nil_of_length_eq_zero h0
  subst hnil
  exact a0b rfl ⟨PH.le.refl _,SO.nil _ _ _ _ _⟩
 ·skip
  refine a2P el_int rfl rfl fun v2 H1 l1 o1 _=> ?_
  refine a1z el_int rfl rfl rfl l1 o1 (hu.mono l1) (by simp only[List.length_nil];omega) rfl rfl fun v3 H2 l2 o2 _=> ?_
  exact a0b rfl ⟨l2,by rw[List.nil_append]at o2;exact o2⟩
theorem b5v (hu:SI H u l) (hl:l.length<=1000000):Con prog 51 [u] H fun r H'=>PH.le H H'/\SO H H' 3 1 (fun z:Int=>[ii z]) r l:=by
 refine a0j a0n b9X ?_
 obtain⟨q1,a,c,rfl,q2,q3,q4⟩:=id hu
 refine a0u ((b5u (p:=a) (n:=l.length) (c:=c) rfl rfl rfl el_plan.und).rds _) rfl ?_
 refine a0a ?_
 refine a0e (b:=a.isNone) rfl (fun h=> ?_) (fun h=> ?_)
 ·skip
  have h0:l.length=0:=by
   rcases q4 with h|⟨_,_,_,_,_,h,_⟩
   ·exact h
   ·subst h;cases h
  have hnil:l=[]:=List.eq_nil_of_length_eq_zero h0
  subst hnil
  exact a0b rfl ⟨PH.le.refl _,SO.nil _ _ _ _ _⟩
 ·skip
  refine a2P el_plan rfl rfl fun v2 H1 l1 o1 _=> ?_
  refine a1z el_plan rfl rfl rfl l1 o1 (hu.mono l1) (by simp only[List.length_nil];omega) rfl rfl fun v3 H2 l2 o2 _=> ?_
  exact a0b rfl ⟨l2,by rw[List.nil_append]at o2;exact o2⟩
end
theorem apart {H H1 H2:PH} {e e':TypeId} {sz sz':Nat} {α β:Type} {ce:α->List Value} {ce':β->List Value} {v v':Value} {l:List α} {l':List β} (h1:SO H H1 e sz ce v l) (h2:SO H1 H2 e' sz' ce' v' l') (l1:PH.le H H1) (l12:PH.le H1 H2):∃X,PH.le H X/\PH.le X H2/\SO X H2 e sz ce v l/\SE X sz' ce' v' l':=by
 obtain⟨a1,⟨a2,a3⟩|⟨g,cap,cur,a2,a3,a4,a5,a6,a7,a8⟩⟩:=h1
 ·exact⟨H2,l1.trans l12,PH.le.refl _,⟨a1,.inl ⟨a2,a3⟩⟩,h2.se⟩
 ·have hX:PH.le (fun b=>if b=g then none else H2 b) H2:=fun b ob hb=>by
   simp only at hb
   split at hb
   ·cases hb
   ·exact hb
  refine⟨fun b=>if b=g then none else H2 b,fun b ob hb=> ?_,hX,⟨a1,.inr ⟨g,cap,cur,a2,if_pos rfl,l12 _ _ a4,a5,a6,a7,a8⟩⟩,?_⟩
  ·show(if b=g then none else H2 b)=_
   rw[if_neg (fun e=>by subst e;rw[a3]at hb;cases hb)]
   exact l12 _ _ (l1 _ _ hb)
  ·obtain⟨b1,⟨b2,b3⟩|⟨g',cap',cur',b2,b3,b4,b5,b6,b7,b8⟩⟩:=h2
   ·exact⟨b1,none,0,by rw[b2,b3],by omega,by simp[maxLen],.inl b3⟩
   ·refine⟨b1,_,cap',b2,b5,b6,.inr ⟨g',0,cur',e',(0,0),rfl,?_,by rw[List.drop_zero];exact b8⟩⟩
    show(if g'=g then none else H2 g')=_
    rw[if_neg (fun e=>by subst e;rw[b3]at a4;cases a4)]
    exact b4
theorem d1W {ρ:List Value} {x:SV} {wts:Value} {lo hi k:Int} (h:D prog ρ x=bv wts lo hi k) (h1:a7M wts=true):(D prog ρ x).cells.size=4/\a0J (D prog ρ x).cells:=by rw[h];exact a2L h1 _ _ _
theorem c4X {ρ:List Value} {a b c:SV} {x y z:Value} (h1:D prog ρ a=x) (h2:D prog ρ b=y) (h3:D prog ρ c=z):a6w ([a,b,c].map (D prog ρ))= .tuple #[x,y,z]:=by
 simp only[List.map_cons,List.map_nil];rw[h1,h2,h3];rfl
section
variable {ρ:List Value} {x y v:SV} {wts u:Value} {lo hi k z:Int} (hx:D prog ρ x=u) (hy:D prog ρ y=ii z) (hv:D prog ρ v=bv wts lo hi k) (hc:u.cells= #[u])
include hx hy hv hc
omit hx hy hc in
theorem c7B:D prog ρ (.sub v 1 3 0 noI)= .agg #[ii lo,ii hi,ii k]:=(c3M hv).trans rfl
theorem d8m:D prog ρ (.cat x 1 (.cat y 1 (.sub (.sub v 1 3 0 noI) 1 2 0 noI)))=bv u z hi k:=by
 have h:D prog ρ (.sub (.sub v 1 3 0 noI) 1 2 0 noI)= .agg #[ii hi,ii k]:=(c3M (c7B hv)).trans rfl
 rw[b3n hx (b3n hy h),hc];rfl
theorem d8n:D prog ρ (.cat x 1 (.cat (.sub (.sub v 1 3 0 noI) 0 1 0 noI) 1 (.cat y 1 (.sub (.sub v 1 3 0 noI) 2 1 0 noI))))=bv u lo z k:=by
 have h:D prog ρ (.sub (.sub v 1 3 0 noI) 0 1 0 noI)= .agg #[ii lo]:=(c3M (c7B hv)).trans rfl
 have h2:D prog ρ (.sub (.sub v 1 3 0 noI) 2 1 0 noI)= .agg #[ii k]:=(c3M (c7B hv)).trans rfl
 rw[b3n hx (b3n h (b3n hy h2)),hc];rfl
theorem d8o:D prog ρ (.cat x 1 (.cat (.sub (.sub v 1 3 0 noI) 0 2 0 noI) 2 y))=bv u lo hi z:=by
 have h:D prog ρ (.sub (.sub v 1 3 0 noI) 0 2 0 noI)= .agg #[ii lo,ii hi]:=(c3M (c7B hv)).trans rfl
 rw[b3n hx (b3n h hy),hc];rfl
end
def bn (a b:Nat) (z:Int):Value:= .agg #[.int .u8 (a:Nat),.int .u8 (b:Nat),ii z]
def d7s (H:PH) (n:Nat) (r:Value):Prop:=∃(w:Value) (es:List (Nat×Nat)) (wts:Value) (wl:List Int) (lo hi k:Int) (u:Value) (p:List Int),
 r= .tuple #[gv n w,bv wts lo hi k,u]/\SG H w es/\GV n es/\SI H wts wl/\SI H u p/\wl.length<=64/\p.length<=65
section
variable {H:PH} {n:Nat} {w wts u:Value} {es:List (Nat×Nat)} {wl p:List Int} {lo hi k z:Int} {x y:Nat}
set_option maxHeartbeats 2000000 in
theorem c7C (hy:y<256) (hw:SG H w es) (hg:GV n es) (hwt:SI H wts wl) (hu:SI H u p) (hwl:1<=wl.length) (hpl:1<=p.length) (hw64:wl.length<=64) (hp64:p.length<=64):Con prog 9 [bn x y z,gv n w,bv wts lo hi k,u] H fun r H'=>PH.le H H'/\d7s H' n r:=by
 refine a0j a0n d1o ?_
 refine a0c ⟨rfl,fun c hc=>by rw[show D prog _ _=bn x y z from rfl,bn,a1F]at hc;simp only[List.mem_cons,List.not_mem_nil,or_false]at hc;rcases hc with rfl|rfl|rfl<;>rfl⟩ ?_
 refine a0c (a0G hw) ?_
 refine a0c (a2L (a0T hwt) _ _ _) ?_
 refine a0f (c7A hwt (by omega)) rfl ?_
 rintro v4 H1 ⟨l1,o1⟩
 refine⟨fun h=>(nomatch h),?_⟩
 simp only[cA,nA]
 refine a0f (b5v (hu.mono l1) (by omega)) rfl ?_
 rintro v5 H2 ⟨l2,o2⟩
 refine⟨fun h=>(nomatch h),?_⟩
 simp only[cA,nA]
 have l12:=l1.trans l2
 obtain⟨X,lX1,lX2,oX,sX⟩:=apart o1 o2 l1 l2
 have o1':=o1
 have hwH:=hw
 have o1:=o1.mono l2
 have hw:=hw.mono l12
 obtain⟨q1,a1,c1,rfl,_⟩:=id o1.se
 obtain⟨q1,a2,c2,rfl,_⟩:=id o2.se
 refine a0c o1.se.one ?_
 refine a0a ?_
 refine a0e (b:=_) rfl (fun h0=> ?_) (fun h0=> ?_)
 ·skip
  refine a0c (a7r _) ?_
  refine a0c (d1W (d8m rfl rfl rfl rfl) rfl) ?_
  exact a0b (c4X (x:=gv n w) (y:=bv (.slice a1 wl.length c1) z hi k) rfl (d8m rfl rfl rfl rfl) rfl) ⟨l12,w,es,.slice a1 wl.length c1,wl,z,hi,k,.slice a2 p.length c2,p,rfl,hw,hg,o1.se,o2.se,hw64,by omega⟩
 ·skip
  refine a0e (b:=_) rfl (fun h1=> ?_) (fun h1=> ?_)
  ·skip
   refine a0c (a7r _) ?_
   refine a0c (d1W (d8n rfl rfl rfl rfl) rfl) ?_
   exact a0b (c4X (x:=gv n w) (y:=bv (.slice a1 wl.length c1) lo z k) rfl (d8n rfl rfl rfl rfl) rfl) ⟨l12,w,es,.slice a1 wl.length c1,wl,lo,z,k,.slice a2 p.length c2,p,rfl,hw,hg,o1.se,o2.se,hw64,by omega⟩
  ·skip
   refine a0e (b:=_) rfl (fun h2=> ?_) (fun h2=> ?_)
   ·skip
    refine a0c (a7r _) ?_
    refine a0c (d1W (d8o rfl rfl rfl rfl) rfl) ?_
    exact a0b (c4X (x:=gv n w) (y:=bv (.slice a1 wl.length c1) lo hi z) rfl (d8o rfl rfl rfl rfl) rfl) ⟨l12,w,es,.slice a1 wl.length c1,wl,lo,hi,z,.slice a2 p.length c2,p,rfl,hw,hg,o1.se,o2.se,hw64,by omega⟩
   ·skip
    refine a0e (b:=_) rfl (fun h3=> ?_) (fun h3=> ?_)
    ·skip
     refine a0a ?_
     refine a1C el_int rfl rfl o1.se rfl ?_
     refine a0a ?_
     refine a0c (show((wl.length:Nat):Int)≠0 by omega) ?_
     have hm:y%wl.length<wl.length:=Nat.mod_lt _ hwl
     refine a0U el_int (a:=z) rfl rfl rfl rfl (fun _=>rfl) (fun _=>rfl) lX2 oX hm (a0F rfl (b5t rfl hy rfl)) (fun _=>rfl) rfl fun q u' H3 l3 o3 _=> ?_
     simp only[cA,nA]
     exact a0b (c4X (x:=gv n w) (y:=bv (.slice a1 wl.length c1) lo hi k) rfl (a5K rfl rfl rfl) rfl) ⟨lX1.trans l3,w,es,.slice a1 wl.length c1,wl.set (y%wl.length) z,lo,hi,k,.slice a2 p.length c2,p,rfl,hwH.mono (lX1.trans l3),hg,o3.se,sX.mono l3,by rw[List.length_set];exact hw64,by omega⟩
    ·skip
     refine a0e (b:=_) rfl (fun h4=> ?_) (fun h4=> ?_)
     ·skip
      refine a0a ?_
      refine a1C el_plan rfl rfl o2.se rfl ?_
      refine a0a ?_
      refine a0c (show((p.length:Nat):Int)≠0 by omega) ?_
      have hm:y%p.length<p.length:=Nat.mod_lt _ hpl
      refine a0U el_plan (a:=z) rfl rfl rfl rfl (fun _=>rfl) (fun _=>rfl) l2 o2 hm (a0F rfl (b5t rfl hy rfl)) (fun _=>rfl) rfl fun q u' H3 l3 o3 _=> ?_
      simp only[cA,nA]
      exact a0b (c4X (x:=gv n w) (y:=bv (.slice a1 wl.length c1) lo hi k) rfl (a5K rfl rfl rfl) rfl) ⟨l1.trans l3,w,es,.slice a1 wl.length c1,wl,lo,hi,k,.slice a2 p.length c2,p.set (y%p.length) z,rfl,hwH.mono (l1.trans l3),hg,(o1'.mono l3).se,o3.se,hw64,by rw[List.length_set];omega⟩
     ·skip
      refine a0e (b:=_) rfl (fun h5=> ?_) (fun h5=> ?_)
      ·skip
       refine a0B el_plan rfl rfl rfl (fun _=>rfl) (fun _=>rfl) l2 o2 (by omega) rfl (fun _=>rfl) rfl fun q v7 H3 l3 o3=> ?_
       simp only[cA,nA]
       exact a0b (c4X (x:=gv n w) (y:=bv (.slice a1 wl.length c1) lo hi k) rfl (a5K rfl rfl rfl) rfl) ⟨l1.trans l3,w,es,.slice a1 wl.length c1,wl,lo,hi,k,v7,p++[0],rfl,hwH.mono (l1.trans l3),hg,(o1'.mono l3).se,o3.se,hw64,by rw[List.length_append];simp only[List.length_cons,List.length_nil];omega⟩
      ·skip
       refine a0e (b:=_) rfl (fun h6=> ?_) (fun h6=> ?_)
       ·skip
        obtain⟨v6,hy6,hs6⟩:=a6I el_int (vs:=[.slice a1 wl.length c1,ii 1]) (k:= .i64) (j:=1) b1G rfl rfl o1.se hwl
        refine a0u (hy6.rds _) rfl ?_
        simp only[cA,nA]
        refine a0c hs6.one ?_
        exact a0b (c4X (x:=gv n w) (y:=bv (v6) lo hi k) rfl (a5K rfl rfl hs6.cells) rfl) ⟨l12,w,es,v6,wl.drop 1,lo,hi,k,.slice a2 p.length c2,p,rfl,hw,hg,hs6,o2.se,by rw[List.length_drop];omega,by omega⟩
       ·skip
        refine a0e (b:=_) rfl (fun h7=> ?_) (fun h7=> ?_)
        ·skip
         refine a0p el_edge hw ?_
         refine a0a ?_
         refine a0e (b:=decide (((es.length:Nat):Int)>0)) rfl (fun h8=> ?_) (fun h8=> ?_)
         ·replace h8:=of_decide_eq_true h8
          obtain⟨v7,hy7,hs7⟩:=a6I el_edge (vs:=[w,ii 1]) (k:= .i64) (j:=1) b1H rfl rfl hw (by omega)
          refine a0u (hy7.rds _) rfl ?_
          simp only[cA,nA]
          refine a0c hs7.one ?_
          obtain⟨e,es',rfl⟩:∃e es',es=e::es':=by
           cases es with
           |nil=>simp at h8
           |cons e es'=>exact⟨e,es',rfl⟩
          exact a0b (c4X (x:=gv n v7) (y:=bv (.slice a1 wl.length c1) lo hi k) (c9m rfl rfl hs7.cells) (a5K rfl rfl rfl) rfl) ⟨l12,v7,es',.slice a1 wl.length c1,wl,lo,hi,k,.slice a2 p.length c2,p,rfl,hs7,hg.tail,o1.se,o2.se,hw64,by omega⟩
         ·replace h8:=of_decide_eq_false h8
          exact a0b (c4X (x:=gv n w) (y:=bv (.slice a1 wl.length c1) lo hi k) rfl (a5K rfl rfl rfl) rfl) ⟨l12,w,es,.slice a1 wl.length c1,wl,lo,hi,k,.slice a2 p.length c2,p,rfl,hw,hg,o1.se,o2.se,hw64,by omega⟩
        ·skip
         exact a0b (c4X (x:=gv n w) (y:=bv (.slice a1 wl.length c1) lo hi k) rfl (a5K rfl rfl rfl) rfl) ⟨l12,w,es,.slice a1 wl.length c1,wl,lo,hi,k,.slice a2 p.length c2,p,rfl,hw,hg,o1.se,o2.se,hw64,by omega⟩
end
end Go.Proofs.YtkcjbfoejpfbbaaGreatDoor
/- Chapter 32: the checks, on both sides. -/
namespace Go.Proofs.YtkcjbfoejpfbbaaGreatDoor
open Go.Proofs.Tryz
open Go.RowKit Go.RX Go.GS
open Go.WD (wd toI)
theorem d4N {ρ:List Value} {x y:SV} {b:Bool} (hx:D prog ρ x= .bool b) (hy:D prog ρ y= .bool b):D prog ρ (.eqb true x y)= .bool false:=by
 show Value.bool (true !=(a1r (D prog ρ x)==a1r (D prog ρ y)))=_
 rw[hx,hy];simp
theorem c9o {ρ:List Value} {x y:SV} {z:Int} (hx:D prog ρ x=ii z) (hy:D prog ρ y=ii z):D prog ρ (.op2 .neq .i64 x y)= .bool false:=by
 show Value.bool (intOf (D prog ρ x) !=intOf (D prog ρ y))=_
 rw[hx,hy];simp
end Go.Proofs.YtkcjbfoejpfbbaaGreatDoor

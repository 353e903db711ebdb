/- Package share: contracts. Printed by mkShC.py. -/
import Derived.Test.YtlmgkkjgdapnpaaGreatDoorShB
import Derived.Test.YtlmgkkjgdapnpaaGreatDoorRfC
import Derived.Test.YtlmgkkjgdapnpaaGreatDoorWdT
import Derived.Lib.Bytealg
import Derived.Laws.StructEq
namespace Go.WD
open Go.RX
def okB (n d:Nat):Bool:=decide (0<toI d)&&decide (Nat.gcd (toI n).natAbs (toI d).natAbs=1)
def okP (p:Nat×Nat):Bool:=okB p.1 p.2
def a2q (n d:Nat):Rat:=Rat.divInt (toI n) (toI d)
theorem a4A {n d:Nat} (h:okB n d=true):(a2q n d).num=toI n/\((a2q n d).den:Int)=toI d:=by
 unfold okB at h
 rw[Bool.and_eq_true,decide_eq_true_iff,decide_eq_true_iff]at h
 have h0:toI d≠0:=by omega
 have h1:=b0a (toI n) h0
 have h2:=b3r (toI n) h0
 simp only[h.2,Int.natCast_one,Int.ediv_one]at h1 h2
 rw[if_neg (by omega)]at h1 h2
 exact⟨h1,h2⟩
theorem b8T (z:Int):sgI z 0<=0↔z<=0:=by
 unfold sgI
 by_cases h1:z<0
 ·rw[if_pos h1];omega
 ·rw[if_neg h1]
  by_cases h2:z=0
  ·rw[if_pos h2];omega
  ·rw[if_neg h2];omega
theorem c4S (y z:Int):(sgI y z !=0)= !decide (y=z):=by
 unfold sgI
 by_cases h1:y<z
 ·rw[if_pos h1,decide_eq_false (by omega)];rfl
 ·rw[if_neg h1]
  by_cases h2:y=z
  ·rw[if_pos h2,decide_eq_true h2];rfl
  ·rw[if_neg h2,decide_eq_false h2];rfl
end Go.WD
namespace Go.Proofs.YtlmgkkjgdapnpaaGreatDoor
open Go.Proofs.Tryz
open Go.RowKit Go.RX Go.WD
theorem c4T {n d K:Nat} (h:okB n d=true) (hK:K=512):Rb K (a2q n d):=by
 obtain⟨h1,h2⟩:=a4A h
 have e:M=2^K:=by
  rw[a3L,a8V]
  congr 1
  omega
 have a1:=a2r n
 have a2:=a2r d
 unfold Rb
 rw[h1,<-e]
 exact⟨a1,by omega⟩
theorem d4s {b:Bool} (h:(!b)=true):b=false:=by cases b<;>simp_all
theorem d4t {b:Bool} (h:(!b)=false):b=true:=by cases b<;>simp_all
def shf (p:Nat×Nat):List Value:=(words p.1).toList++(words p.2).toList
def shp (p:Nat×Nat):Value:=shv p.1 p.2
theorem a7K (p:Nat×Nat):(shf p).length=16:=rfl
theorem c7P:∀(ps:List (Nat×Nat)) (i:Nat),i<ps.length->((ps.flatMap shf).drop (i*16)).take 16=shf (ps.getD i (0,0))
 |[],i,h=>by simp at h
 |p::ps,0,_=>by
  rw[List.flatMap_cons,Nat.zero_mul,List.drop_zero,List.take_append_of_le_length (by rw[a7K];omega),List.take_of_length_le (by rw[a7K];omega)];rfl
 |p::ps,i+1,h=>by
  have hab:=c7P ps i (by simpa using h)
  rw[List.flatMap_cons,Nat.add_mul,Nat.one_mul,List.drop_append,a7K,List.drop_of_length_le (by rw[a7K];omega),List.nil_append,show i*16+16-16=i*16 from by omega,hab]
  rfl
theorem b0b:∀(ps:List (Nat×Nat)),(ps.flatMap shf).length=ps.length*16
 |[]=>rfl
 |p::ps=>by rw[List.flatMap_cons,List.length_append,a7K,b0b ps,List.length_cons];omega
theorem c4U (ps:List (Nat×Nat)):((ps.map shp).flatMap fun v=>v.cells.toList)=ps.flatMap shf:=by
 rw[List.flatMap_map]
 congr 1
def Shs (H:PH) (v:Value) (ps:List (Nat×Nat)):Prop:=Sl H 16 v ps.length (ps.flatMap shf)
theorem Shs.mono {H H':PH} {v:Value} {ps:List (Nat×Nat)} (h:Shs H v ps) (hl:PH.le H H'):Shs H' v ps:=Sl.mono h hl
theorem b6o:∃i z,prog.info? 61=some i/\i.zero=some z/\i.size=16/\z.cells.size=16/\i.bytes=128:=by
 refine⟨(prog.info? 61).getD default,(((prog.info? 61).getD default).zero).getD default,by kernel_rfl,by kernel_rfl,by kernel_rfl,by kernel_rfl,by kernel_rfl⟩
theorem a5T:prog.underlying 56=some (.slice 61):=by kernel_rfl
section
variable {G Xp:Value->PH->Prop} {nx:List (List Value->PH->Prop)} {ρ:List Value} {H H0:PH} {o o1 o2:Oper} {x y x2 y2:Operand} {id i id2 i2:Nat} {args args2:List SV} {t:Tree} {v:Value} {ps:List (Nat×Nat)}
theorem b8U (ho:o.op= .call ⟨.builtin .len,#[x],#[56]⟩) (hx:a0k [x] [v] x=v) (h:Shs H v ps) (ha:args.map (D prog ρ)=[v]) (k:den prog G Xp t nx (ρ++[iv ps.length]) H):den prog G Xp (.prim id i o args t) nx ρ H:=
 a0l ((b7Z ho hx a5T h).rds H) ha k
theorem c4V {k:IntKind} {j:Nat} (ho1:o1.op= .indexAddr 56 x y) (ho2:o2.op= .load 61 x2) (hx:a0k [x,y] [v,.int k (j:Nat)] x=v) (hy:a0k [x,y] [v,.int k (j:Nat)] y= .int k (j:Nat)) (hx2:∀p,a0k [x2] [p] x2=p) (h:Shs H v ps) (hj:j<ps.length)
  (ha:args.map (D prog ρ)=[v,.int k (j:Nat)]) (ha2:∀p,args2.map (D prog (ρ++[p]))=[p]) (c:∀p,den prog G Xp t nx (ρ++[p]++[shp (ps.getD j (0,0))]) H):den prog G Xp (.prim id i o1 args (.prim id2 i2 o2 args2 t)) nx ρ H:=by
 obtain⟨b,q,cs,T',fz,h1,h2,h3,h4⟩:=c9d (P:=prog) (e:=61) (sz:=16) ho1 hx hy a5T (by kernel_rfl) (by kernel_rfl) (by omega) h hj
 rw[c7P ps j hj]at h4
 have hl:=b4k (P:=prog) (H:=H) ho2 (hx2 _) h2 (by kernel_rfl) (by kernel_rfl) (by kernel_rfl) h3 h4
 rw[show(shf (ps.getD j (0,0))).toArray=words (ps.getD j (0,0)).1++words (ps.getD j (0,0)).2 from by apply Array.ext';simp[shf]]at hl
 exact a0l (h1.rds H) ha (a0l hl (ha2 _) (c _))
theorem a4T {pb:Bool} {parts:Array (Nat×Operand)} {vs:List Value} (ps:List (Nat×Nat)) (ho:o.op= .buildSlice 56 ps.length parts) (hps:0<ps.length) (hp2:ps.length<=1000) (hpar:(parts.toList.map fun p=>(p.1,a0k (parts.toList.map (·.2)) vs p.2))=(ps.map shp).zipIdx.map fun p=>(p.2,p.1)) (ha:args.map (D prog ρ)=vs)
  (n:∀v H',PH.le H H'->Shs H' v ps->den prog G Xp t nx (ρ++[v]) H'):den prog G Xp (.eff pb id i o args t) nx ρ H:=by
 obtain⟨ti,z,i1,i2,i3,i4,i5⟩:=b6o
 refine a0n (vs:=vs) (a9Q (cells:=(ps.flatMap shf).toArray) ho a5T i1 i2 (by rw[i3];omega) (by rw[i3];omega) ?_) ha ?_
 ·rw[i3,hpar]
  have:=Go.Great.fill_whole (s:=16) (by omega) (ps.map shp) (Array.map (fun x=>z.cells[x%z.cells.size]!) (Array.range (ps.length*16))) (fun v hv=>by
   obtain⟨p,_,rfl⟩:=List.mem_map.1 hv
   exact(a0s p.1 p.2).1) (by simp)
  rw[c4U]at this
  exact this
 ·rintro v H' ⟨g,hg,rfl,rfl⟩
  refine⟨fun _=>PH.le_put hg _,n _ _ (PH.le_put hg _) ⟨b0b ps,_,ps.length,rfl,Nat.le_refl _,by simp only[maxLen];omega,.inr ⟨g,0,_,_,_,rfl,PH.put_self _ _ _,?_⟩⟩⟩
  rw[List.drop_zero,List.toList_toArray,List.take_of_length_le (by rw[b0b];exact Nat.le_refl _)]
end
section
variable {H:PH} {x y v:Value} {r s:Rat} {n d m e:Nat}
set_option maxRecDepth 100000 in
theorem a9b (n d:Nat):Con prog 97 [shv n d] H fun u H'=>PH.le H H'/\u= .int .i64 (if okB n d then 0 else 20):=by
 refine a0b mixed b8O (by kernel_rfl) rfl (a0a (a0s n d) (a0d (a7G 1 (by omega) (by omega)) rfl ?_))
 rintro u1 H1 ⟨l1,hu1⟩
 have r1:=hu1.rq
 have hu1':=hu1
 obtain⟨w1,rfl,_⟩:=hu1
 simp only[cA,nA]
 refine⟨fun h=>(nomatch h),a0a r1 (a0d (a3f n d) rfl ?_)⟩
 rintro u2 H2 ⟨l2,hu2⟩
 have r2:=hu2.rq
 obtain⟨w2,w3,rfl,n2,n3⟩:=hu2
 have hL2:Lw H2 (.agg #[.bool (decide (toI n<0)),w2]) (toI n):=⟨w2,rfl,n2⟩
 have hL3:Lw H2 (.agg #[.bool (decide (toI d<0)),w3]) (toI d):=⟨w3,rfl,n3⟩
 have lmn:=b4u n
 have lmd:=b4u d
 simp only[cA,nA]
 refine⟨fun h=>(nomatch h),a0a r2 ⟨fun vals H'=>vals=[.bool (!okB n d)]/\PH.le H2 H',a0d (a7E hL3) rfl ?_,?_⟩⟩
 ·rintro u3 H3 ⟨rfl,rfl⟩
  simp only[cA,nA]
  refine⟨fun _=>PH.le.refl _,a0a ⟨_,rfl⟩ (a0f (b:=decide (sgI (toI d) 0<=0)) rfl (fun h=> ?_) (fun h=> ?_))⟩
  ·have h:=(b8T _).1 (of_decide_eq_true h)
   refine⟨?_,PH.le.refl _⟩
   show[Value.bool true]=_
   unfold okB
   rw[decide_eq_false (show ¬0<toI d by omega)];rfl
  ·have h:¬toI d<=0:=fun e=>of_decide_eq_false h ((b8T _).2 e)
   refine a0d (a7F hL2 hL3 lmn lmd) rfl ?_
   rintro u4 H4 ⟨l4,hu4⟩
   simp only[cA,nA]
   have hgm:Lm ((Nat.gcd (toI n).natAbs (toI d).natAbs:Nat):Int):=by
    unfold Lm at lmd⊢
    rw[Int.natAbs_natCast]
    exact Nat.lt_of_le_of_lt (Nat.gcd_le_right _ (by omega)) lmd
   refine⟨fun _=>l4,a0d (b4y hu4 (hu1'.mono (l2.trans l4)) hgm b8D) rfl ?_⟩
   rintro u5 H5 ⟨l5,rfl⟩
   simp only[cA,nA]
   refine⟨fun _=>l5,a0a ⟨_,rfl⟩ ⟨?_,l4.trans l5⟩⟩
   show[Value.bool (sgI ((Nat.gcd (toI n).natAbs (toI d).natAbs:Nat):Int) 1 !=0)]=_
   rw[c4S]
   unfold okB
   rw[decide_eq_true (show 0<toI d by omega),Bool.true_and]
   congr 3
   rw[decide_eq_decide];omega
 rintro vals H6-⟨rfl,l6⟩
 simp only[cA,nA]
 refine a0a ⟨_,rfl⟩ (a0f rfl (fun h=> ?_) (fun h=> ?_))
 ·have h:okB n d=false:=by simpa using h
  exact a0c rfl ⟨l1.trans (l2.trans l6),by rw[h];rfl⟩
 ·have h:okB n d=true:=by simpa using h
  exact a0c rfl ⟨l1.trans (l2.trans l6),by rw[h];rfl⟩
theorem b3s (n d:Nat):Con prog 215 [shv n d] H fun u H'=>PH.le H H'/\u= .bool (okB n d):=by
 refine a0b mixed b6m (by kernel_rfl) rfl (a0a (a0s n d) (a0d (a9b n d) rfl ?_))
 rintro u1 H1 ⟨l1,rfl⟩
 refine⟨fun h=>(nomatch h),a0a ⟨_,rfl⟩ (a0c rfl ⟨l1,?_⟩)⟩
 show Value.bool ((if okB n d then(0:Int)else 20)==0)=_
 cases okB n d<;>rfl
theorem b3t:a1q prog 215=true:=by kernel_rfl
set_option maxRecDepth 100000 in
theorem c4W {ps:List (Nat×Nat)} (h:Shs H v ps):Con prog 216 [.func (.func 215) #[] #[],v] H fun u H'=>PH.le H H'/\u= .bool (ps.all okP):=by
 have hlen:=h.len_le
 simp only[maxLen]at hlen
 refine a0b mixed c9S (by kernel_rfl) rfl (b8U rfl rfl h rfl ⟨fun vals H'=>∃i:Nat,vals=[.bool false,iv i]/\i<=ps.length/\PH.le H H'/\(ps.take i).all okP=true,fun vals _=>(ps.length-intOf (vals.getD 1 undef)).toNat,⟨0,rfl,by omega,PH.le.refl _,rfl⟩,?_⟩)
 rintro vals H1-⟨i,rfl,hi,l1,hall⟩
 simp only[cA,nA]
 refine a0a ⟨_,rfl⟩ (a0a ⟨_,rfl⟩ (a0f (b:=decide ((i:Int)<ps.length)) rfl (fun hb=> ?_) (fun hb=> ?_)))
 ·have hb:i<ps.length:=by have:=of_decide_eq_true hb;omega
  have e1:IntKind.i64.wrap ((i:Int)+1)=((i+1:Nat):Int):=a9Y (by omega)
  refine c4V (k:= .i64) (j:=i) rfl rfl rfl rfl (fun _=>rfl) (h.mono l1) hb rfl (fun _=>rfl) fun p=> ?_
  simp only[cA,nA]
  obtain⟨a,ha⟩:∃a,a=ps.getD i (0,0):=⟨_,rfl⟩
  have hmem:a∈ps:=by rw[ha,List.getD_eq_getElem?_getD,List.getElem?_eq_getElem hb];exact List.getElem_mem hb
  rw[<-ha]
  refine a0a (a0s a.1 a.2) (a0n (a0D (f:=215) (caps:= #[]) (vs:=[shv a.1 a.2]) rfl rfl rfl b3t (b3s a.1 a.2)) rfl ?_)
  rintro u2 H2 ⟨l2,rfl⟩
  simp only[cA,nA]
  refine⟨fun h=>(nomatch h),a0a ⟨_,rfl⟩ (a0f (b:= !okB a.1 a.2) rfl (fun h2=> ?_) (fun h2=> ?_))⟩
  ·have h2:okB a.1 a.2=false:=by simpa using h2
   refine a0c rfl ⟨l1.trans l2,?_⟩
   show Value.bool false=_
   congr 1
   symm
   rw[List.all_eq_false]
   exact⟨a,hmem,by show ¬okB a.1 a.2=true;rw[h2];simp⟩
  ·have h2:okB a.1 a.2=true:=by simpa using h2
   refine⟨⟨i+1,?_,by omega,l1.trans l2,?_⟩,?_⟩
   ·simp only[rxs,iv,e1]
   ·rw[List.take_add_one,List.all_append,hall,List.getElem?_eq_getElem hb]
    have:ps[i]=a:=by rw[ha,List.getD_eq_getElem?_getD,List.getElem?_eq_getElem hb];rfl
    rw[this]
    show(true&&(okB a.1 a.2&&true))=true
    rw[h2];rfl
   ·simp only[rxs,iv,e1]
    omega
 ·have hb:i=ps.length:=by have:=of_decide_eq_false hb;omega
  rw[List.take_of_length_le (by omega)]at hall
  exact a0c rfl ⟨l1,by rw[hall];rfl⟩
theorem a5U {ps:List (Nat×Nat)} (h:Shs H v ps):Con prog 160 [v] H fun u H'=>PH.le H H'/\u= .bool (ps.all okP):=by
 refine a0b mixed b8P (by kernel_rfl) rfl (a0d (c4W h) rfl ?_)
 rintro u1 H1 ⟨l1,rfl⟩
 exact⟨fun h=>(nomatch h),a0c rfl ⟨l1,rfl⟩⟩
theorem d6K (n d m e:Nat):[(n,d),(m,e)].all okP=(okB n d&&okB m e):=by show(okB n d&&(okB m e&&true))=_;rw[Bool.and_true]
theorem z_ratio:(a0G prog 115).cells.size=4/\a0p (a0G prog 115).cells:=by
 have:a0G prog 115= .agg #[.bool false,.slice none 0 0,.bool false,.slice none 0 0]:=by kernel_rfl
 rw[this]
 refine⟨rfl,fun c hc=> ?_⟩
 rw[a1e]at hc
 simp only[List.mem_cons,List.not_mem_nil,or_false]at hc
 rcases hc with h|h|h|h<;>rw[h]<;>rfl
set_option maxRecDepth 100000 in
theorem b8V {f:FuncId} (hent:a1q prog f=true) (n d m e:Nat) (t:Rat) (hf:okB n d=true->okB m e=true->∀H x y,Rp H x (a2q n d)->Rp H y (a2q m e)->Con prog f [x,y] H fun u H'=>PH.le H H'/\Rp H' u t):
  Con prog 261 [shv n d,shv m e,.func (.func f) #[] #[]] H fun u H'=>PH.le H H'/\(((okB n d&&okB m e)=true/\∃v,u= .tuple #[v,.int .i64 0]/\Rp H' v t)\/((okB n d&&okB m e)=false/\∃v,u= .tuple #[v,.int .i64 20]/\v.cells.size=4/\a0p v.cells)):=by
 refine a0b mixed c4O (by kernel_rfl) rfl (a0a (a0s n d) (a0a (a0s m e) (a4T (vs:=[shv n d,shv m e]) [(n,d),(m,e)] rfl (by simp) (by simp) rfl rfl fun v1 H1 l1 hv1=> ?_)))
 simp only[cA,nA]
 refine a0d (a5U hv1) rfl ?_
 rintro u2 H2 ⟨l2,rfl⟩
 rw[d6K]
 simp only[cA,nA]
 refine⟨fun h=>(nomatch h),a0a ⟨_,rfl⟩ (a0f (b:= !(okB n d&&okB m e)) rfl (fun h=> ?_) (fun h=> ?_))⟩
 ·have h:=d4s h
  exact a0c rfl ⟨l1.trans l2,.inr ⟨h,_,rfl,z_ratio.1,z_ratio.2⟩⟩
 ·have h:=d4t h
  have h':=h
  rw[Bool.and_eq_true]at h'
  refine a0d (a3f n d) rfl ?_
  rintro u3 H3 ⟨l3,hu3⟩
  simp only[cA,nA]
  refine⟨fun _=>l3,a0d (a3f m e) rfl ?_⟩
  rintro u4 H4 ⟨l4,hu4⟩
  simp only[cA,nA]
  have hx:=(hu3.mono l4).rp (a4A h'.1).1 (a4A h'.1).2
  have hy:=hu4.rp (a4A h'.2).1 (a4A h'.2).2
  refine⟨fun _=>l4,a0n (a0D (f:=f) (caps:= #[]) (vs:=[u3,u4]) rfl rfl rfl hent (hf h'.1 h'.2 H4 u3 u4 hx hy)) rfl ?_⟩
  rintro u5 H5 ⟨l5,hu5⟩
  have r5:=hu5.rq
  obtain⟨w5,w6,rfl,n5⟩:=hu5
  exact⟨fun _=>l5,a0a r5 (a0c rfl ⟨l1.trans (l2.trans (l3.trans (l4.trans l5))),.inl ⟨h,_,rfl,w5,w6,rfl,n5⟩⟩)⟩
set_option maxRecDepth 100000 in
theorem b8W {f:FuncId} (hent:a1q prog f=true) (n d m e:Nat) (t:Int) (hf:okB n d=true->okB m e=true->∀H x y,Rp H x (a2q n d)->Rp H y (a2q m e)->Con prog f [x,y] H fun u H'=>PH.le H H'/\u= .int .i64 t):
  Con prog 111 [shv n d,shv m e,.func (.func f) #[] #[]] H fun u H'=>PH.le H H'/\(((okB n d&&okB m e)=true/\∃v,u= .tuple #[v,.int .i64 0]/\v= .int .i64 t)\/((okB n d&&okB m e)=false/\∃v,u= .tuple #[v,.int .i64 20]/\v= .int .i64 0)):=by
 refine a0b mixed c4N (by kernel_rfl) rfl (a0a (a0s n d) (a0a (a0s m e) (a4T (vs:=[shv n d,shv m e]) [(n,d),(m,e)] rfl (by simp) (by simp) rfl rfl fun v1 H1 l1 hv1=> ?_)))
 simp only[cA,nA]
 refine a0d (a5U hv1) rfl ?_
 rintro u2 H2 ⟨l2,rfl⟩
 rw[d6K]
 simp only[cA,nA]
 refine⟨fun h=>(nomatch h),a0a ⟨_,rfl⟩ (a0f (b:= !(okB n d&&okB m e)) rfl (fun h=> ?_) (fun h=> ?_))⟩
 ·have h:=d4s h
  exact a0c rfl ⟨l1.trans l2,.inr ⟨h,_,rfl,rfl⟩⟩
 ·have h:=d4t h
  have h':=h
  rw[Bool.and_eq_true]at h'
  refine a0d (a3f n d) rfl ?_
  rintro u3 H3 ⟨l3,hu3⟩
  simp only[cA,nA]
  refine⟨fun _=>l3,a0d (a3f m e) rfl ?_⟩
  rintro u4 H4 ⟨l4,hu4⟩
  simp only[cA,nA]
  have hx:=(hu3.mono l4).rp (a4A h'.1).1 (a4A h'.1).2
  have hy:=hu4.rp (a4A h'.2).1 (a4A h'.2).2
  refine⟨fun _=>l4,a0n (a0D (f:=f) (caps:= #[]) (vs:=[u3,u4]) rfl rfl rfl hent (hf h'.1 h'.2 H4 u3 u4 hx hy)) rfl ?_⟩
  rintro u5 H5 ⟨l5,hu5⟩
  subst hu5
  exact⟨fun _=>l5,a0c rfl ⟨l1.trans (l2.trans (l3.trans (l4.trans l5))),.inl ⟨h,_,rfl,rfl⟩⟩⟩
theorem a4p (r:Rat):∃(n d:Nat) (e:Int),a8A r= .tuple #[shv n d,.int .i64 e]:=by
 unfold a8A;split
 ·exact⟨_,_,0,rfl⟩
 ·exact⟨0,0,6,rfl⟩
theorem b6p (hx:Rp H x r):Con prog 260 [x,.int .i64 0] H fun u H'=>PH.le H H'/\u=a8A r:=by
 have r1:=hx.rq
 have hx':=hx
 obtain⟨w1,w2,rfl,_⟩:=hx
 refine a0b mixed b4B (by kernel_rfl) rfl (a0a r1 (a0a ⟨_,rfl⟩ (a0e rfl (a0d (a4o hx') rfl ?_))))
 rintro u1 H1 ⟨l1,rfl⟩
 obtain⟨n,d,e,ht⟩:=a4p r
 rw[ht]
 exact⟨fun h=>(nomatch h),a0a ⟨_,rfl,Nat.zero_lt_succ _⟩ (a0a ⟨_,rfl,Nat.lt_succ_self _⟩ (a0a (a0s n d) (a0c rfl ⟨l1,rfl⟩)))⟩
theorem b6q (h1:x.cells.size=4) (h2:a0p x.cells):Con prog 260 [x,.int .i64 20] H fun u H'=>PH.le H H'/\u= .tuple #[shv 0 0,.int .i64 20]:=by
 refine a0b mixed b4B (by kernel_rfl) rfl (a0a ⟨h1,h2⟩ (a0a ⟨_,rfl⟩ (a0K rfl (a0c (congrArg (fun z=>Value.tuple #[z,.int .i64 20]) a7J) ⟨PH.le.refl _,rfl⟩))))
theorem c4X:a1q prog 41=true:=by kernel_rfl
def d6L (ok:Bool) (t:Int):Value:=if ok then .tuple #[.int .i64 t,.int .i64 0]else .tuple #[.int .i64 0,.int .i64 20]
theorem c4Y (n d m e:Nat):Con prog 57 [shv n d,shv m e] H fun u H'=>PH.le H H'/\u=d6L (okB n d&&okB m e) (sgR (a2q n d) (a2q m e)):=by
 obtain⟨K,hK⟩:∃K,K=512:=⟨_,rfl⟩
 refine a0b mixed c9U (by kernel_rfl) rfl (a0a (a0s n d) (a0a (a0s m e) (a0d (b8W (f:=41) c4X n d m e (sgR (a2q n d) (a2q m e)) (fun h1 h2 H x y hx hy=>b1w hx hy (c4T h1 hK) (c4T h2 hK) (by omega))) rfl ?_)))
 rintro u1 H1 ⟨l1,hu1⟩
 unfold d6L
 rcases hu1 with⟨h,v,rfl,rfl⟩|⟨h,v,rfl,rfl⟩
 ·rw[h,if_pos rfl]
  exact⟨fun h=>(nomatch h),a0a ⟨_,rfl,Nat.zero_lt_succ _⟩ (a0a ⟨_,rfl,Nat.lt_succ_self _⟩ (a0c rfl ⟨l1,rfl⟩))⟩
 ·rw[h,if_neg (by simp)]
  exact⟨fun h=>(nomatch h),a0a ⟨_,rfl,Nat.zero_lt_succ _⟩ (a0a ⟨_,rfl,Nat.lt_succ_self _⟩ (a0c rfl ⟨l1,rfl⟩))⟩
def a7L (p q:Int):Value:=if q=0 then .tuple #[shv 0 0,.int .i64 7]else a8A (Rat.divInt p q)
theorem b6r (p q:Int):∃(n d:Nat) (e:Int),a7L p q= .tuple #[shv n d,.int .i64 e]:=by
 unfold a7L;split
 ·exact⟨0,0,7,rfl⟩
 ·exact a4p _
theorem b3u (d:Nat):d%M=0↔toI d=0:=by
 have:=a8S
 have:=c3o
 have:=Nat.mod_lt d b1k
 unfold toI
 split<;>omega
set_option maxRecDepth 100000 in
theorem b1x (n d:Nat):Con prog 72 [wd n,wd d] H fun u H'=>PH.le H H'/\u=a7L (toI n) (toI d):=by
 refine a0b mixed c4P (by kernel_rfl) rfl (a0a ⟨a0r n,a0x n⟩ (a0a ⟨a0r d,a0x d⟩ (a0l ((b8l (a:=d) (b:=0) rfl rfl rfl rfl rfl).rds _) ?_ (a0a ⟨_,rfl⟩ (a0f (b:=decide (d%M=0%M)) rfl (fun h=> ?_) (fun h=> ?_))))))
 ·simp only[rxs,a3U];rfl
 ·have h:=of_decide_eq_true h
  rw[Nat.zero_mod,b3u]at h
  unfold a7L
  rw[if_pos h]
  exact a0c (congrArg (fun z=>Value.tuple #[z,.int .i64 7]) a7J) ⟨PH.le.refl _,rfl⟩
 ·have h:=of_decide_eq_false h
  rw[Nat.zero_mod,b3u]at h
  unfold a7L
  rw[if_neg h]
  refine a0d (a2w n) rfl ?_
  rintro u1 H1 ⟨l1,hu1⟩
  simp only[cA,nA]
  refine⟨fun _=>l1,a0d (a2w d) rfl ?_⟩
  rintro u2 H2 ⟨l2,hu2⟩
  simp only[cA,nA]
  refine⟨fun _=>l2,a0d (a4S (hu1.mono l2) hu2 (b4u n) (b4u d) h) rfl ?_⟩
  rintro u3 H3 ⟨l3,hu3⟩
  simp only[cA,nA]
  refine⟨fun _=>l3,a0d (a4o hu3) rfl ?_⟩
  rintro u4 H4 ⟨l4,rfl⟩
  obtain⟨a,b,c,ht⟩:=a4p (Rat.divInt (toI n) (toI d))
  rw[ht]
  exact⟨fun _=>l4,a0a ⟨_,rfl,Nat.zero_lt_succ _⟩ (a0a ⟨_,rfl,Nat.lt_succ_self _⟩ (a0a (a0s a b) (a0c rfl ⟨l1.trans (l2.trans (l3.trans l4)),rfl⟩)))⟩
theorem b8X (p q:Int) (p0: -9223372036854775808<=p) (p1:p<9223372036854775808) (q0: -9223372036854775808<=q) (q1:q<9223372036854775808):Con prog 240 [.int .i64 p,.int .i64 q] H fun u H'=>PH.le H H'/\u=a7L p q:=by
 refine a0b mixed d4o (by kernel_rfl) rfl (a1o (b4o p p0 p1) rfl (a1o (b4o q q0 q1) rfl (a0d (b1x (rs p) (rs q)) rfl ?_)))
 rintro u1 H1 ⟨l1,rfl⟩
 rw[a3T (fits_small p0 p1),a3T (fits_small q0 q1)]
 obtain⟨a,b,c,ht⟩:=b6r p q
 rw[ht]
 exact⟨fun h=>(nomatch h),a0a ⟨_,rfl,Nat.zero_lt_succ _⟩ (a0a ⟨_,rfl,Nat.lt_succ_self _⟩ (a0a (a0s a b) (a0c rfl ⟨l1,rfl⟩)))⟩
end
end Go.Proofs.YtlmgkkjgdapnpaaGreatDoor
/- MADE BY rxgen.py: the trees of the helpers of the laws of chapter 02. -/
namespace Go.Proofs.YtlmgkkjgdapnpaaGreatDoor
open Go.Proofs.Tryz
open Go.RowKit Go.RX Go.WD
theorem b3v {a b:Nat} (d:Nat) (w:World):(Op.equalIn (d+2) 59 (wd a) (wd b)).run prog w= .ok (decide (a%M=b%M)) w:=by
 obtain⟨i,hi⟩:∃i,prog.info? 57=some i:=by
  have h:=a2n
  unfold a2h at h;rw[Bool.and_eq_true,Option.isSome_iff_exists]at h;exact h.1
 show(Op.equalIn (d+1+1) 59 (.agg (wf (dig a))) (.agg (wf (dig b)))).run prog w=_
 rw[run_equalIn_array (n:=8) (e:=57) w (d+1) _ _ (by kernel_rfl) hi,a6r a2n a3e b8y (by kernel_rfl) d (dig a) (dig b) w _ (fun i hi=>List.mem_range.1 hi)]
 refine congrArg (fun z=>Result.ok z w) ?_
 rw[Bool.eq_iff_iff,decide_eq_true_iff,decide_eq_true_iff];exact a6s a b
noncomputable def fN:Field:=((prog.fieldsOf 61)[0]?).getD default
noncomputable def fD:Field:=((prog.fieldsOf 61)[1]?).getD default
theorem c9X:(prog.fieldsOf 61).toList=[fN,fD]:=by kernel_rfl
theorem d8g:fN.type=59:=by kernel_rfl
theorem d8h:fN.offset=0:=by kernel_rfl
theorem d8i:(fN.name≠ "_")=True:=eq_true (by decide+kernel)
theorem d8j:fD.type=59:=by kernel_rfl
theorem d8k:fD.offset=8:=by kernel_rfl
theorem d8l:(fD.name≠ "_")=True:=eq_true (by decide+kernel)
theorem a2s:prog.cellsOf 59=8:=by kernel_rfl
theorem d4u (a b:Nat) (w:World):(part 59 (words a++words b) 0).run prog w= .ok (wd a) w:=by
 rw[a2v (by kernel_rfl) (by rw[a2s,(a0s a b).1];omega) (by rw[a2s];omega) w,a2s,show a0F prog 59=true from by kernel_rfl,if_pos rfl]
 rw[d6I]
theorem d4v (a b:Nat) (w:World):(part 59 (words a++words b) 8).run prog w= .ok (wd b) w:=by
 rw[a2v (by kernel_rfl) (by rw[a2s,(a0s a b).1];omega) (by rw[a2s];omega) w,a2s,show a0F prog 59=true from by kernel_rfl,if_pos rfl]
 rw[d7Q]
def shR (r:Rat):Value:=shv (rs r.num) (rs (r.den:Int))
theorem d6M:(9223372036854775808:Int)<HM:=by
 have:=M_big.1
 omega
theorem d4w {r:Rat} (h: -(HM:Int)<=r.num/\r.num<HM) (h2:(r.den:Int)<HM):okB (rs r.num) (rs (r.den:Int))=true/\a2q (rs r.num) (rs (r.den:Int))=r:=by
 have hd:0<(r.den:Int):=by have:=r.den_nz;omega
 have e1:toI (rs r.num)=r.num:=a3T h
 have e2:toI (rs (r.den:Int))=(r.den:Int):=a3T (show c3p _ from⟨by have:=a8S;omega,h2⟩)
 constructor
 ·unfold okB
  rw[e1,e2,decide_eq_true hd,Int.natAbs_natCast,decide_eq_true r.reduced];rfl
 ·unfold a2q
  rw[e1,e2,Rat.num_divInt_den]
open Go.RowKit Go.RX Go.WD
section
variable {H:PH}
def d6N (ok:Bool) (r s:Rat):Value:=if ok then(if s=0 then .tuple #[shv 0 0,.int .i64 7]else a8A (r/s))else .tuple #[shv 0 0,.int .i64 20]
theorem b8Y:a1q prog 37=true:=by kernel_rfl
theorem b4C {m e:Nat} (h:okB m e=true):toI m=0↔a2q m e=0:=by
 rw[<-(a4A h).1];exact Rat.num_eq_zero
set_option maxRecDepth 100000 in
theorem c4Z (n d m e:Nat):Con prog 236 [shv n d,shv m e] H fun u H'=>PH.le H H'/\u=d6N (okB n d&&okB m e) (a2q n d) (a2q m e):=by
 obtain⟨K,hK⟩:∃K,K=512:=⟨_,rfl⟩
 refine a0b mixed c9T (by kernel_rfl) rfl (a0a (a0s n d) (a0a (a0s m e) ⟨fun vals H'=>vals=[.bool ((okB n d&&okB m e)&&decide (toI m=0))]/\PH.le H H',a4T (vs:=[shv n d,shv m e]) [(n,d),(m,e)] rfl (by simp) (by simp) rfl rfl fun v1 H1 l1 hv1=> ?_,?_⟩))
 ·simp only[cA,nA]
  refine a0d (a5U hv1) rfl ?_
  rintro u2 H2 ⟨l2,rfl⟩
  rw[d6K]
  simp only[cA,nA]
  refine⟨fun h=>(nomatch h),a0a ⟨_,rfl⟩ (a0f rfl (fun h=> ?_) (fun h=> ?_))⟩
  ·rw[h,Bool.true_and]
   refine a0l ((b8l (a:=m) (b:=0) rfl rfl rfl rfl rfl).rds _) ?_ ⟨?_,l1.trans l2⟩
   ·show[Value.agg ((words m++words e).extract 0 8),a0G prog 59]=[wd m,wd 0]
    rw[d6I,a3U]
   ·show[Value.bool (decide (m%M=0%M))]=_
    congr 2
    rw[decide_eq_decide,Nat.zero_mod,b3u]
  ·rw[h,Bool.false_and]
   exact⟨rfl,l1.trans l2⟩
 rintro vals H3-⟨rfl,l3⟩
 simp only[cA,nA]
 unfold d6N
 refine a0a ⟨_,rfl⟩ (a0f rfl (fun h=> ?_) (fun h=> ?_))
 ·rw[Bool.and_eq_true,decide_eq_true_iff]at h
  have h1:=h.1
  rw[Bool.and_eq_true]at h1
  rw[h.1,if_pos rfl,if_pos ((b4C h1.2).1 h.2)]
  exact a0c (congrArg (fun z=>Value.tuple #[z,.int .i64 7]) a7J) ⟨l3,rfl⟩
 ·have hs:okB n d=true->okB m e=true->a2q m e≠0:=fun h1 h2 e0=>by
   rw[h1,h2,decide_eq_true ((b4C h2).2 e0)]at h;cases h
  refine a0d (b8V (f:=37) b8Y n d m e (a2q n d/a2q m e) (fun h1 h2 H x y hx hy=>a9a hx hy (c4T h1 hK) (c4T h2 hK) (by omega) (hs h1 h2))) rfl ?_
  rintro u1 H1 ⟨l1,hu1⟩
  rcases hu1 with⟨h,v,rfl,hv⟩|⟨h,v,rfl,h4,h5⟩
  ·have h':=h
   rw[Bool.and_eq_true]at h'
   rw[h,if_pos rfl,if_neg (hs h'.1 h'.2)]
   simp only[cA,nA]
   refine⟨fun h=>(nomatch h),a0a ⟨_,rfl,Nat.zero_lt_succ _⟩ (a0a ⟨_,rfl,Nat.lt_succ_self _⟩ (a0d (b6p hv) rfl ?_))⟩
   rintro u2 H2 ⟨l2,rfl⟩
   obtain⟨a,b,c,ht⟩:=a4p (a2q n d/a2q m e)
   rw[ht]
   exact⟨fun h=>(nomatch h),a0a ⟨_,rfl,Nat.zero_lt_succ _⟩ (a0a ⟨_,rfl,Nat.lt_succ_self _⟩ (a0a (a0s a b) (a0c rfl ⟨l3.trans (l1.trans l2),rfl⟩)))⟩
  ·rw[h,if_neg (by simp)]
   simp only[cA,nA]
   refine⟨fun h=>(nomatch h),a0a ⟨_,rfl,Nat.zero_lt_succ _⟩ (a0a ⟨_,rfl,Nat.lt_succ_self _⟩ (a0d (b6q h4 h5) rfl ?_))⟩
   rintro u2 H2 ⟨l2,rfl⟩
   exact⟨fun h=>(nomatch h),a0a ⟨_,rfl,Nat.zero_lt_succ _⟩ (a0a ⟨_,rfl,Nat.lt_succ_self _⟩ (a0a (a0s 0 0) (a0c rfl ⟨l3.trans (l1.trans l2),rfl⟩)))⟩
variable {r s t:Rat}
end
end Go.Proofs.YtlmgkkjgdapnpaaGreatDoor
/- Chapter 02: fractions of good size. -/
namespace Go.Proofs.YtlmgkkjgdapnpaaGreatDoor
open Go.Proofs.Tryz
open Go.RowKit Go.RX Go.WD
theorem b0c {r:Rat} {k:Nat} (h:Rb k r) (hk:k<=511):(-(HM:Int)<=r.num/\r.num<HM)/\(r.den:Int)<HM:=by
 have:=b8x hk
 unfold Rb at h
 omega
theorem c9Y {r:Rat} {k:Nat} (h:Rb k r) (hk:k<=511):a8A r= .tuple #[shR r,.int .i64 0]:=by
 unfold a8A
 rw[if_pos (b0c h hk)];rfl
theorem d4x {r:Rat} {k:Nat} (h:Rb k r) (hk:k<=511):okB (rs r.num) (rs (r.den:Int))=true/\a2q (rs r.num) (rs (r.den:Int))=r:=d4w (b0c h hk).1 (b0c h hk).2
section
variable {H:PH} {r s t:Rat}
def Rg (r:Rat):Prop:=∃k,k<=511/\Rb k r
theorem b3w {k:Nat} (h:Rb k r) (hk:k<=511):Rg r:=⟨k,hk,h⟩
theorem b8Z (h:Rg r):okB (rs r.num) (rs (r.den:Int))=true:=h.elim fun _ h=>(d4x h.2 h.1).1
theorem a9c (h:Rg r):a2q (rs r.num) (rs (r.den:Int))=r:=h.elim fun _ h=>(d4x h.2 h.1).2
theorem a5V (h:Rg r):a8A r= .tuple #[shR r,.int .i64 0]:=h.elim fun _ h=>c9Y h.2 h.1
theorem c9Z (h:Rg r):c3p r.num/\c3p (r.den:Int):=by
 obtain⟨k,hk,h⟩:=h
 have h1:=b0c h hk
 exact⟨h1.1,by have:=a8S;omega,h1.2⟩
theorem b9a:Rg 0:=⟨1,by omega,by decide,by decide⟩
theorem c7Q:Rg 1:=⟨1,by omega,by decide,by decide⟩
theorem d4y {z:Int} {k:Nat} (h:z.natAbs<2^k) (h1:1<=k) (hk:k<=511):Rg (z:Rat):=by
 refine⟨k,hk,?_,?_⟩
 ·rw[Rat.num_intCast];exact h
 ·rw[Rat.den_intCast]
  exact Nat.lt_of_lt_of_le (show 1<2^1 by omega) (Nat.pow_le_pow_right (by omega) h1)
end
end Go.Proofs.YtlmgkkjgdapnpaaGreatDoor

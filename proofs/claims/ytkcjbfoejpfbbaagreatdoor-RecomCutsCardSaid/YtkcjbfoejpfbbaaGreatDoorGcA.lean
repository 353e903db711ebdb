/- Chapter 32: trees. -/
import Derived.Test.YtkcjbfoejpfbbaaGreatDoorGaH
import Derived.Test.YtkcjbfoejpfbbaaGreatDoorGsO
import Derived.Test.YtkcjbfoejpfbbaaGreatDoorGtT
namespace Go.GS
structure Par (p:List Nat) (f:Nat->Nat):Prop where
 len:p.length=64
 lb:Lb f
 le:∀x y:Nat,p[x]? =some y->y<=x
 up:∀x y:Nat,p[x]? =some y->f y=f x
 fix:∀x y:Nat,p[x]? =some y->(y=x↔f x=x)
theorem Par.at {p:List Nat} {f:Nat->Nat} (h:Par p f) {x:Nat} (hx:x<64):∃y,p[x]? =some y:=⟨_,List.getElem?_eq_getElem (by rw[h.len];exact hx)⟩
theorem Par.id:Par (List.range 64) id where
 len:=by simp
 lb:=⟨fun _=>rfl,fun _=>Nat.le_refl _⟩
 le:=fun x y h=>by rw[List.getElem?_eq_some_iff]at h;obtain⟨_,rfl⟩:=h;simp
 up:=fun x y h=>by rw[List.getElem?_eq_some_iff]at h;obtain⟨_,rfl⟩:=h;simp
 fix:=fun x y h=>by rw[List.getElem?_eq_some_iff]at h;obtain⟨_,rfl⟩:=h;simp
theorem Par.join {p:List Nat} {f:Nat->Nat} (h:Par p f) {e:Nat×Nat} (h1:e.1<64) (h2:e.2<64):Par (p.set (max (f e.1) (f e.2)) (min (f e.1) (f e.2))) (a1r f e):=by
 have la:=h.lb.le e.1
 have lb:=h.lb.le e.2
 have ia:=h.lb.idm e.1
 have ib:=h.lb.idm e.2
 have hlb:=h.lb.join e
 unfold a1r at hlb⊢
 generalize f e.1=a at*
 generalize f e.2=b at*
 have hm:f (min a b)=min a b:=by rcases Nat.le_total a b with hh|hh;rw[Nat.min_eq_left hh,ia];rw[Nat.min_eq_right hh,ib]
 have hM:f (max a b)=max a b:=by rcases Nat.le_total a b with hh|hh;rw[Nat.max_eq_right hh,ib];rw[Nat.max_eq_left hh,ia]
 have hle:min a b<=max a b:=by omega
 have hMl:max a b<p.length:=by rw[h.len];omega
 generalize max a b=M at*
 generalize min a b=m at*
 refine⟨by rw[List.length_set];exact h.len,hlb,?_,?_,?_⟩
 ·intro x y hy
  rw[List.getElem?_set]at hy
  split at hy
  ·rename_i e;subst e;cases hy;exact hle
  ·exact h.le x y hy
 ·intro x y hy
  rw[List.getElem?_set]at hy
  split at hy
  ·rename_i e;subst e;cases hy
   rw[hm,if_pos hM]
   split<;>rfl
  ·rw[h.up x y hy]
 ·intro x y hy
  rw[List.getElem?_set]at hy
  split at hy
  ·rename_i e;subst e;cases hy
   rw[if_pos hM]
  ·rename_i hne
   rw[h.fix x y hy]
   split
   ·rename_i hfx
    constructor
    ·intro h1;exact absurd (hfx.symm.trans h1) hne
    ·intro h1;subst h1;rw[hm]at hfx;exact absurd hfx.symm hne
   ·exact Iff.rfl
end Go.GS
namespace Go.Proofs.YtkcjbfoejpfbbaaGreatDoor
open Go.Proofs.Tryz
theorem c9T {i:Nat} (h:i<64):(List.range i++List.replicate (64-i) 0).set i i=List.range (i+1)++List.replicate (64-(i+1)) 0:=by
 obtain⟨k,hk⟩:∃k,64-i=k+1:=⟨64-i-1,by omega⟩
 rw[hk,show 64-(i+1)=k by omega,List.replicate_succ,List.range_succ,List.append_assoc]
 simp[List.set_append]
open Go.RowKit Go.RX Go.GS
theorem a7Y:El prog 193 3 1 false (fun x:Nat=>[ii (x:Nat)]) (fun x:Nat=>ii (x:Nat)) where
 und:=by kernel_rfl
 has:=by kernel_rfl
 cel:=by kernel_rfl
 agg:=by kernel_rfl
 pos:=by decide
 one1:=fun _=>rfl
 small:=by decide
 inf:=⟨(prog.info? 3).getD default,ii 0,by kernel_rfl,by kernel_rfl,by kernel_rfl,rfl,of_decide_eq_true (by kernel_rfl)⟩
 len:=fun _=>rfl
 val:=fun _=>rfl
 cells:=fun _=>rfl
 one:=fun x c hc=>by simp at hc;subst hc;rfl
abbrev PO (H0 H:PH) (v:Value) (p:List Nat):Prop:=SO H0 H 3 1 (fun x:Nat=>[ii (x:Nat)]) v p
abbrev PS (H:PH) (v:Value) (p:List Nat):Prop:=SE H 1 (fun x:Nat=>[ii (x:Nat)]) v p
section
variable {H H0:PH} {u v w wts:Value} {p:List Nat} {wl:List Int} {n:Nat} {es:List (Nat×Nat)} {lo hi ds:Int} {set x:Nat} {f:Nat->Nat} {e:Nat×Nat}
theorem b4x:Con prog 125 [] H fun r H'=>PH.le H H'/\∃v,r= .agg #[v]/\PO H H' v (List.range 64):=by
 refine a0d a0r c0w (by kernel_rfl) rfl ?_
 refine a6q a7Y (z:=(0:Nat)) c9B rfl rfl rfl (m:=64) (by omega) rfl fun v H1 l1 o1 _=> ?_
 simp only[cA,nA]
 refine a0j a7Y rfl rfl o1.se rfl ?_
 refine a0n (α:=Nat) (fun i=>[ii (i:Nat)]) (fun i=>fun H'=>i<=64/\PH.le H H'/\PO H H' v (List.range i++List.replicate (64-i) 0)) (fun i=>64-i) (0) rfl (⟨Nat.zero_le _,l1,o1⟩) fun i H' hQ=> ?_
 simp only[cA,nA]
 obtain⟨hi,l2,o2⟩:=hQ
 refine a0a ⟨_,rfl⟩ ?_
 refine a0a ⟨_,rfl⟩ ?_
 refine a0e (b:=decide (((i:Nat):Int)<64)) rfl (fun h=> ?_) (fun h=> ?_)
 ·replace h:=of_decide_eq_true h
  refine a1q a7Y (a:=i) rfl rfl rfl rfl (fun _=>rfl) (fun _=>rfl) l2 o2 (by simp;omega) rfl (fun _=>rfl) rfl fun q u H3 l3 o3 _=> ?_
  simp only[cA,nA]
  exact⟨i+1,by omega,(a5E (a0x rfl (by omega))),⟨by omega,l3,by rw[c9T (by omega)]at o3;exact o3⟩⟩
 ·replace h:=of_decide_eq_false h
  have he:i=64:=by omega
  subst he
  refine a0a o2.se.one ?_
  exact a0f rfl ⟨l2,v,by show Value.agg v.cells=_;rw[o2.se.cells],by rw[Nat.sub_self,List.replicate_zero,List.append_nil]at o2;exact o2⟩
theorem a3B (hp:PS H v p) (h:Par p f) (hx:x<64):Asks prog 161 [v,ii (x:Nat)] H (ii (f x:Nat)):=by
 refine a0d a0r c0y (by kernel_rfl) rfl ?_
 refine a0S (α:=Nat) (fun y=>[ii (y:Nat)]) (fun y=>y<64/\f y=f x) (fun y=>y) (x) rfl (⟨hx,rfl⟩) fun y hQ=> ?_
 simp only[cA,nA]
 obtain⟨hy,hf⟩:=hQ
 obtain⟨z,hz⟩:=h.at hy
 refine a0k a7Y rfl rfl rfl rfl (fun _=>rfl) hp hz rfl (fun _=>rfl) fun _=> ?_
 simp only[cA,nA]
 refine a0a ⟨_,rfl⟩ ?_
 refine a0a ⟨_,rfl⟩ ?_
 refine a0e (b:=decide (z≠y)) (by show Value.bool (((z:Nat):Int) !=((y:Nat):Int))=_;rw[bN];congr 1;apply decide_eq_decide.2;omega) (fun h2=> ?_) (fun h2=> ?_)
 ·replace h2:=of_decide_eq_true h2
  refine a0k a7Y rfl rfl rfl rfl (fun _=>rfl) hp hz rfl (fun _=>rfl) fun _=> ?_
  simp only[cA,nA]
  have hle:=h.le y z hz
  exact⟨z,by omega,rfl,⟨⟨by omega,by rw[h.up y z hz,hf]⟩,rfl⟩⟩
 ·replace h2:=of_decide_eq_false h2
  have hzy:z=y:=Classical.byContradiction h2
  have:=(h.fix y z hz).1 hzy
  exact a0f rfl ⟨rfl,by rw[<-hf,this];rfl⟩
theorem b4y {o:Oper} {x y:Operand} {t u:TypeId} {a b:Int} {vs:List Value} (ho:o.op= .call ⟨.builtin .min,#[x,y],#[t,u]⟩) (hx:a0g [x,y] vs x= .int .i64 a) (hy:a0g [x,y] vs y= .int .i64 b):Yld prog o vs (.int .i64 (if b<a then b else a)):=fun w=>by
 have hos:o.op.operands.toList=[x,y]:=by simp[ho,Op.operands,Call.operands]
 rw[hos]
 simp only[execOp,ho,resolve,invoke,Sem.run_bind,Sem.run_pure,Result.andThen_ok,List.map_toArray,List.map_cons,List.map_nil,hx,hy]
 simp only[builtin,Sem.run_bind,run_min_int2,Result.andThen_ok]
 rfl
theorem a5N {o:Oper} {x y:Operand} {t u:TypeId} {a b:Int} {vs:List Value} (ho:o.op= .call ⟨.builtin .max,#[x,y],#[t,u]⟩) (hx:a0g [x,y] vs x= .int .i64 a) (hy:a0g [x,y] vs y= .int .i64 b):Yld prog o vs (.int .i64 (if b>a then b else a)):=fun w=>by
 have hos:o.op.operands.toList=[x,y]:=by simp[ho,Op.operands,Call.operands]
 rw[hos]
 simp only[execOp,ho,resolve,invoke,Sem.run_bind,Sem.run_pure,Result.andThen_ok,List.map_toArray,List.map_cons,List.map_nil,hx,hy]
 simp only[builtin,Sem.run_bind,run_max_int2,Result.andThen_ok]
 rfl
theorem b4z (hle:PH.le H0 H) (hp:PO H0 H v p) (h:Par p f) (h1:e.1<64) (h2:e.2<64):Con prog 127 [.agg #[v],ev2 e] H fun r H'=>r= .bool (decide (f e.1≠f e.2))/\PH.le H0 H'/\∃q,PO H0 H' v q/\Par q (a1r f e):=by
 refine a0d a0r c0A (by kernel_rfl) rfl ?_
 have hps:=hp.se
 have la:=h.lb.le e.1
 have lb:=h.lb.le e.2
 have emin:(if((f e.2:Nat):Int)<(f e.1:Nat)then((f e.2:Nat):Int)else(f e.1:Nat))=((min (f e.1) (f e.2):Nat):Int):=by split<;>omega
 have emax:(if((f e.2:Nat):Int)>(f e.1:Nat)then((f e.2:Nat):Int)else(f e.1:Nat))=((max (f e.1) (f e.2):Nat):Int):=by split<;>omega
 refine a0a ⟨rfl,fun c hc=>by have hc:c∈[v]:=hc;rw[List.mem_singleton]at hc;subst hc;exact a0W hps⟩ ?_
 refine a0a (el_edge.vcells e) ?_
 refine a1e (a3B hps h h1) rfl ?_
 simp only[cA,nA]
 refine a1e (a3B hps h h2) rfl ?_
 simp only[cA,nA]
 refine a0i ((a5N (vs:=[ii (f e.1:Nat),ii (f e.2:Nat)]) rfl rfl rfl).rds _) rfl ?_
 simp only[cA,nA]
 refine a0i ((b4y (vs:=[ii (f e.1:Nat),ii (f e.2:Nat)]) rfl rfl rfl).rds _) rfl ?_
 simp only[cA,nA]
 rw[emin,emax]
 refine a1q a7Y (a:=min (f e.1) (f e.2)) rfl rfl rfl rfl (fun _=>rfl) (fun _=>rfl) hle hp (by rw[h.len];omega) rfl (fun _=>rfl) rfl fun q u H3 l3 o3 _=> ?_
 simp only[cA,nA]
 refine a0a ⟨_,rfl⟩ ?_
 refine a0a ⟨_,rfl⟩ ?_
 exact a0f rfl ⟨by show Value.bool (((f e.1:Nat):Int) !=((f e.2:Nat):Int))=_;rw[bN];exact congrArg Value.bool (decide_eq_decide.2 (by omega)),l3,_,o3,h.join h1 h2⟩
theorem b4A (hs:set<M64) (h1:e.1<=64) (h2:e.2<=64):Asks prog 126 [uv set,ev2 e] H (.bool (bit set e.1&&bit set e.2)):=by
 refine a0d a0r c0C (by kernel_rfl) rfl ?_
 refine a0a (el_edge.vcells e) ?_
 refine a0a ⟨_,rfl⟩ ?_
 refine a0a ⟨_,_,rfl⟩ ?_
 refine a0a (by show(0:Int)<=((e.1:Nat):Int);omega) ?_
 refine a0e (b:=bit set e.1) (b7D rfl hs rfl h1) (fun b1=> ?_) (fun b1=> ?_)
 ·skip
  refine a0a ⟨_,_,rfl⟩ ?_
  refine a0a (by show(0:Int)<=((e.2:Nat):Int);omega) ?_
  exact a0f rfl ⟨rfl,by rw[b1];exact(b7D rfl hs rfl h2)⟩
 ·skip
  exact a0f rfl ⟨rfl,by rw[b1];rfl⟩
theorem a9n (hw:SG H w es) (hg:GV n es) (hs:set<M64):a8O prog 91 [gv n w,uv set] H (ii (if set≠0/\set<2^n then 0 else 2)):=by
 refine a0d a0r c6X (by kernel_rfl) rfl ?_
 refine a0a (a1m hw) ?_
 refine a0J (a6R hw hg) rfl fun H1 l1=> ?_
 simp only[cA,nA]
 refine a0a ⟨_,rfl⟩ ?_
 refine a0y (bF (p:=(0:Int)≠0) (by simp)) ?_
 refine a0a ⟨_,rfl⟩ ?_
 refine a0e (b:=decide (set=0)) (bE0 _) (fun h0=> ?_) (fun h0=> ?_)
 ·replace h0:=of_decide_eq_true h0
  exact a0f rfl ⟨l1,by rw[if_neg (fun e=>e.1 h0)];rfl⟩
 ·replace h0:=of_decide_eq_false h0
  refine a0v (a4r set hs) rfl ?_
  simp only[cA,nA]
  refine a0a ⟨_,rfl⟩ ?_
  refine a0a ⟨_,rfl⟩ ?_
  refine a0e (b:=decide (set≥2^n)) (by show Value.bool (decide (((Go.WD.blen set:Nat):Int)>((n:Nat):Int)))=_;congr 1;apply decide_eq_decide.2;constructor<;>intro hh<;>first|(have:=Go.WD.blen_ge hh;omega)|(apply Nat.le_of_not_lt;intro h2;have:=Go.WD.blen_le h2;omega)) (fun h=> ?_) (fun h=> ?_)
  ·replace h:=of_decide_eq_true h
   exact a0f rfl ⟨l1,by rw[if_neg (by omega)];rfl⟩
  ·replace h:=of_decide_eq_false h
   exact a0f rfl ⟨l1,by rw[if_pos ⟨h0,by omega⟩];rfl⟩
end
end Go.Proofs.YtkcjbfoejpfbbaaGreatDoor

/- Lemmas: chapter 32. -/
import Derived.Test.YtmannekkmdockaaGreatDoorGrT
import Derived.Test.YtmannekkmdockaaGreatDoorGlT
open Int renaming natCast_nonneg->kO
open List renaming filter_cons->eO,length_range->nO,range->eP,range_succ->iL
open Nat renaming le_succ_of_le->nW,lt_succ_iff_lt_or_eq->fO
namespace Go.Z
open Proofs.Tryz RowKit RX GS
section
variable {G:Value->PH->Prop} {nx:List (List Value->PH->Prop)} {ρ:List Value} {H:PH} {o1 o2 o3:Oper} {x y x2 x3:Operand} {id i id2 i2 id3 i3:Nat} {args args2 args3:List SV} {t:Tree} {v:Value} {k:IntKind} {j:Nat} {es:List (Nat×Nat)} {e:Nat×Nat}
theorem NL {m:Nat} {c:Value} (hm:m<2) (hc:(ec e)[m]? =some c) (sR:o1.op= .indexAddr 35 x y) (sS:o2.op= .indexAddr 99 x2 (.const (.int .i64 (m:Nat)))) (zA:o3.op= .load 3 x3) (hx:g8 [x,y] [v,.int k (j:Nat)] x=v) (hy:g8 [x,y] [v,.int k (j:Nat)] y= .int k (j:Nat))
  (rG:∀p,g8 [x2,.const (.int .i64 (m:Nat))] [p,.int .i64 (m:Nat)] x2=p) (xP:∀p,g8 [x2,.const (.int .i64 (m:Nat))] [p,.int .i64 (m:Nat)] (.const (.int .i64 (m:Nat)))= .int .i64 (m:Nat)) (vY:∀p,g8 [x3] [p] x3=p) (h:SG H v es) (hj:es[j]? =some e) (ha:args.map (D prog ρ)=[v,.int k (j:Nat)]) (rI:∀p,args2.map (D prog (ρ++[p]))=[p,.int .i64 (m:Nat)]) (wP:∀p p',args3.map (D prog (ρ++[p]++[p']))=[p'])
  (n:∀p p',den prog G t nx (ρ++[p]++[p']++[c]) H):den prog G (.prim id i o1 args (.prim id2 i2 o2 args2 (.prim id3 i3 o3 args3 t))) nx ρ H:=by
 refine Yx el_edge sR hx hy h hj ha fun p hp=> ?_;obtain⟨b,q,cs,T',fz,rfl,h2,h3,h4⟩:=hp;have hl:(ec e).length=2:=rfl;have hi:=(fx (P:=prog) (len:=2) (e:=3) (b:=b) (q:=q) sS (rG _) (xP _) ar_2.und sc_int.has aA aA).rds H;rw[sc_int.cel,aV,dN]at hi;refine j7 hi (rI _) ?_;refine Bn sc_int zA (vY _) h2 ?_ (wP _ _) (n _ _);rw[<-cT];rw[<-h4,dO (by rw[hl];exact hm),cS]at hc;exact hc
theorem Kt (sR:o1.op= .indexAddr 35 x y) (sS:o2.op= .indexAddr 99 x2 (.const (.int .i64 0))) (zA:o3.op= .load 3 x3) (hx:g8 [x,y] [v,.int k (j:Nat)] x=v) (hy:g8 [x,y] [v,.int k (j:Nat)] y= .int k (j:Nat))
  (rG:∀p,g8 [x2,.const (.int .i64 0)] [p,.int .i64 0] x2=p) (xP:∀p,g8 [x2,.const (.int .i64 0)] [p,.int .i64 0] (.const (.int .i64 0))= .int .i64 0) (vY:∀p,g8 [x3] [p] x3=p) (h:SG H v es) (hj:es[j]? =some e) (ha:args.map (D prog ρ)=[v,.int k (j:Nat)]) (rI:∀p,args2.map (D prog (ρ++[p]))=[p,.int .i64 0]) (wP:∀p p',args3.map (D prog (ρ++[p]++[p']))=[p'])
  (n:∀p p',den prog G t nx (ρ++[p]++[p']++[ii (e.1:Nat)]) H):den prog G (.prim id i o1 args (.prim id2 i2 o2 args2 (.prim id3 i3 o3 args3 t))) nx ρ H:=
 NL (m:=0) aC rfl sR sS zA hx hy rG xP vY h hj ha rI wP n
theorem Nk (sR:o1.op= .indexAddr 35 x y) (sS:o2.op= .indexAddr 99 x2 (.const (.int .i64 1))) (zA:o3.op= .load 3 x3) (hx:g8 [x,y] [v,.int k (j:Nat)] x=v) (hy:g8 [x,y] [v,.int k (j:Nat)] y= .int k (j:Nat))
  (rG:∀p,g8 [x2,.const (.int .i64 1)] [p,.int .i64 1] x2=p) (xP:∀p,g8 [x2,.const (.int .i64 1)] [p,.int .i64 1] (.const (.int .i64 1))= .int .i64 1) (vY:∀p,g8 [x3] [p] x3=p) (h:SG H v es) (hj:es[j]? =some e) (ha:args.map (D prog ρ)=[v,.int k (j:Nat)]) (rI:∀p,args2.map (D prog (ρ++[p]))=[p,.int .i64 1]) (wP:∀p p',args3.map (D prog (ρ++[p]++[p']))=[p'])
  (n:∀p p',den prog G t nx (ρ++[p]++[p']++[ii (e.2:Nat)]) H):den prog G (.prim id i o1 args (.prim id2 i2 o2 args2 (.prim id3 i3 o3 args3 t))) nx ρ H:=
 NL (m:=1) aC rfl sR sS zA hx hy rG xP vY h hj ha rI wP n
end
theorem Dq {s n:Nat} (hs:s<M64) (hn:n<=64):Det prog 139 [uv s,ii (n:Nat)] (.bool (bit s n)):=by
 have e:=yi (P:=prog) (ρ:=[uv s,ii (n:Nat)]) (a:= .v 1) (n:=n) rfl (aZ hn aC);refine Gz mixed c3w aB rfl (j3 ⟨_,rfl⟩ (j3 ⟨_,rfl⟩ (j3 ?_ (Db ?_ rfl))))
 ·show 0<=intOf (D prog [uv s,ii (n:Nat)] (.cv .u64 (.v 1)));rw[e];exact kO n
 ·exact Va rfl hs e hn
theorem Jl {n:Nat} (hn:n<64):Det prog 40 [ii (n:Nat)] (uv (2^n)):=by
 have e:=yi (P:=prog) (ρ:=[ii (n:Nat)]) (a:= .v 0) (n:=n) rfl (Nat.lt_trans hn aC);refine Gz mixed c3x aB rfl (j3 ⟨_,rfl⟩ (j3 ?_ (Db ?_ rfl)))
 ·show 0<=intOf (D prog [ii (n:Nat)] (.cv .u64 (.v 0)));rw[e];exact kO n
 ·exact Hg e hn
section
variable {H:PH} {u v w wts:Value} {p wl:List Int} {n:Nat} {es:List (Nat×Nat)} {lo hi ds:Int} {set x:Nat}
theorem NM (hs:set<M64):Asks prog 141 [uv set] H (ii (card set)):=by
 refine i9 mixed c3y ?_;refine Bf (α:=Nat) (fun i=>[ii ((((eP i).filter (bit set)).length:Nat)),ii (i:Nat)]) (fun i=>i<=64) (fun i=>64-i) (0) rfl (bI _) fun i hQ=> ?_;refine d9 ?_;refine g7 (b:=decide (((i:Nat):Int)<64)) rfl (fun h=> ?_) (fun h=> ?_)
 ·replace h:=oDt h;refine y8 (Dq hs aA) rfl ?_;have pY:=cC (bit set) (eP i);rw[nO]at pY;refine d9 ?_;refine g7 (b:=bit set i) rfl (fun h2=> ?_) (fun h2=> ?_)
  ·skip
   refine d9 ?_;exact⟨i+1,aA,(i7 (by rw[i6 rfl aA,iL,dP,aM,eO,if_pos h2];rfl) (i6 rfl aA)),⟨aA,rfl⟩⟩
  ·skip
   exact⟨i+1,aA,(i7 (by rw[iL,dP,aM,eO,if_neg (by simp[h2])];rfl) (i6 rfl aA)),⟨aA,rfl⟩⟩
 ·replace h:=oDf h;have he:i=64:=aA;subst he;exact g6 rfl ⟨rfl,rfl⟩
theorem Zw (hw:SG H w es) (hg:GV n es):Asks prog 10 [gv n w] H (ii 0):=by
 refine i9 mixed c3v ?_;have h1:=hg.n1;have h2:=hg.n64;have h3:=hg.len;refine d4 (t8 hw) ?_;refine d9 ?_;refine r9 (bF (p:=((n:Nat):Int)<1) aA) ?_;refine r9 (bF (p:=((n:Nat):Int)>64) aA) ?_;refine j1 el_edge hw ?_;refine d9 ?_;refine r9 (bF (p:=((es.length:Nat):Int)>200) aA) ?_;refine Bf (α:=Nat×Int) (fun⟨i,z⟩=>[ii z,ii (i:Nat)]) (fun⟨i,z⟩=>i<=es.length) (fun⟨i,z⟩=>es.length-i) ((0,0)) rfl (bI _) fun⟨i,z⟩ hQ=> ?_;simp only[cA,nA];refine j1 el_edge hw ?_;refine d9 (d9 ?_);refine g7 (b:=decide (((i:Nat):Int)<(es.length:Nat))) rfl (fun h=> ?_) (fun h=> ?_)
 ·replace h:=oDt h;have qB:i<es.length:=aA;obtain⟨x,hx,tK⟩:=m7 qB;obtain⟨tX,rG⟩:=hg.mem hx;refine Kt rfl rfl rfl rfl rfl aE aE aE hw hx rfl aE (fun _ _=>rfl) fun _ _=> ?_;simp only[cA,nA];refine Nk rfl rfl rfl rfl rfl aE aE aE hw hx rfl aE (fun _ _=>rfl) fun _ _=> ?_;simp only[cA,nA];refine d9 ?_;refine r9 (bF (p:=((x.1:Nat):Int)<0) aA) ?_;refine d9 ?_;refine r9 (bF (p:=((x.1:Nat):Int)≥(x.2:Nat)) aA) ?_;refine r9 (bF (p:=((x.2:Nat):Int)≥(n:Nat)) aA) ?_;refine g7 (b:=decide (((i:Nat):Int)>0)) rfl (fun h5=> ?_) (fun h5=> ?_)
  ·replace h5:=oDt h5;obtain⟨m,rfl⟩:∃m,i=m+1:=⟨i-1,aA⟩;have tQ:es[m]? =some es[m]:=aJ aA;have pX:=hg.next tQ hx;have hm1:∀ρ,D prog ρ (.v 3)=ii ((m+1:Nat):Int)->D prog ρ (.op2 .sub .i64 (.v 3) (.k (.int .i64 1)))=ii (m:Nat):=fun ρ hρ=>by rw[Ks (y:=1) hρ rfl aA aA];congr 1;omega
   refine Kt rfl rfl rfl rfl rfl aE aE aE hw tQ (i7 rfl (hm1 _ rfl)) aE (fun _ _=>rfl) fun _ _=> ?_;simp only[cA,nA];refine d9 ?_;refine r9 (bF (p:=((es[m].1:Nat):Int)>(x.1:Nat)) ((by rcases pX with h|h<;>omega))) ?_;refine Kt rfl rfl rfl rfl rfl aE aE aE hw tQ (i7 rfl (hm1 _ rfl)) aE (fun _ _=>rfl) fun _ _=> ?_;simp only[cA,nA];refine d9 ?_;refine j8 (p:=(es[m].1=x.1)) (by show Value.bool (((es[m].1:Nat):Int)==((x.1:Nat):Int))=_;rw[bE];congr 1;apply decide_eq_decide.2;omega) (fun h6=> ?_) fun h6=> ?_
   ·refine Nk rfl rfl rfl rfl rfl aE aE aE hw tQ (i7 rfl (hm1 _ rfl)) aE (fun _ _=>rfl) fun _ _=> ?_;simp only[cA,nA];refine d9 ?_;refine r9 (bF (p:=((es[m].2:Nat):Int)≥(x.2:Nat)) ((by rcases pX with h|h<;>omega))) ?_;exact⟨(m+1+1,z),by show es.length-(m+1+1)<es.length-(m+1);omega,(i7 rfl (i6 rfl aA)),⟨qB,rfl⟩⟩
   ·exact⟨(m+1+1,z),by show es.length-(m+1+1)<es.length-(m+1);omega,(i7 rfl (i6 rfl aA)),⟨qB,rfl⟩⟩
  ·replace h5:=oDf h5;exact⟨(i+1,z),by show es.length-(i+1)<es.length-i;omega,(i7 rfl (i6 rfl aA)),⟨qB,rfl⟩⟩
 ·replace h:=oDf h;exact g6 rfl ⟨rfl,rfl⟩
theorem b9T (hw:SG H w es) (hg:GV n es) (hs:set<M64):Asks prog 267 [gv n w,uv set] H (ii (if set<2^n then 0 else 2)):=by
 refine i9 mixed c3z ?_;have rM:=hg.n64;refine d4 (t8 hw) ?_;refine s6 (Zw hw hg) rfl ?_;simp only[cA,nA];refine d9 ?_;refine r9 (bF (p:=(0:Int)≠0) aD) ?_;refine d9 ?_;refine g7 (b:=decide (((n:Nat):Int)<64)) rfl (fun h=> ?_) (fun h=> ?_)
 ·replace h:=oDt h;have e:=fun(ρ:List Value) (h:D prog ρ (.cell (.v 0) 0 0 noI)=ii (n:Nat))=>yi (P:=prog) (ρ:=ρ) (a:= .cell (.v 0) 0 0 noI) (n:=n) h (aZ rM aC);refine d9 ?_;refine d4 (by show 0<=intOf (D prog _ (.cv .u64 (.cell (.v 0) 0 0 noI)));rw[e _ rfl];exact kO n) ?_;refine j8 (p:=(¬set<2^n)) (by show Value.bool (intOf (D prog _ (.op2 .shr .u64 (.v 1) (.cv .u64 (.cell (.v 0) 0 0 noI)))) !=0)=_;rw[Pn rfl (e _ rfl) rM];show Value.bool (((set/2^n:Nat):Int) !=0)=_;rw[bN0];congr 1;apply decide_eq_decide.2;rw[ne_eq,Nat.div_eq_zero_iff];have:=Nat.two_pow_pos n;exact⟨fun hh hh2=>hh (.inr hh2),fun hh hh2=>hh2.elim (fun h=>aA) hh⟩) (fun h2=> ?_) fun h2=> ?_
  ·exact g6 rfl ⟨rfl,by rw[if_neg h2];rfl⟩
  ·exact g6 rfl ⟨rfl,by rw[if_pos (bB h2)];rfl⟩
 ·replace h:=oDf h;have hn:n=64:=aA;exact g6 rfl ⟨rfl,by rw[if_pos (by rw[hn];exact hs)];rfl⟩
end
end Go.Z
namespace Go.GS
theorem zp (set:Nat) (L:List (Nat×Nat)) (e:Nat×Nat) (s:Nat):rnd set (L++[e]) s=rst set (rnd set L s) e:=by
 unfold rnd;rw[dZ];rfl
theorem NN {set s:Nat} {e:Nat×Nat} (h1:bit set e.1=true) (h2:bit set e.2=true) (h3:bit s e.1=true\/bit s e.2=true):rst set s e=s|||2^e.1|||2^e.2:=by
 unfold rst;rw[if_pos (by rcases h3 with h3|h3<;>simp[h1,h2,h3])]
theorem zq {set s:Nat} {e:Nat×Nat} (h:bit set e.1=false\/bit set e.2=false\/(bit s e.1=false/\bit s e.2=false)):rst set s e=s:=by
 unfold rst;rw[if_neg];rcases h with h|h|h<;>simp[h]
theorem GV.e64 {n:Nat} {es:List (Nat×Nat)} (h:GV n es):∀e∈es,e.1<64/\e.2<64:=fun e he=>by
 have:=h.ed e he;have:=h.n64;omega
theorem d7M {n:Nat} {es:List (Nat×Nat)} (h:GV n es) {set x:Nat} (hx:bit set x=true) (rM:x<64):CL es set x (Ab set es es.length (2^x)):=
 lz hx (Nj h.e64 (Aq rM) _).1 (NB _ _ _)
theorem NP {s n:Nat} (hs:s<2^n) (hn:n<=64):(eP n).filter (bit s)=els s:=by
 unfold els;have h1:(64:Nat)=n+(64-n):=aA;rw[h1,List.range_add,dP];have:((eP (64-n)).map (n+ ·)).filter (bit s)=[]:=by
  rw[List.filter_eq_nil_iff];intro a ha;rw[aY]at ha;obtain⟨b,_,rfl⟩:=ha;have:=Nat.testBit_lt_two_pow (aU hs (aR (n:=2) aC (Nat.le_add_right n b)));unfold bit;rw[this];simp
 rw[this,bQ]
end Go.GS
namespace Go.Z
open Proofs.Tryz RowKit RX GS
section
variable {H:PH} {u v w wts:Value} {p wl:List Int} {n:Nat} {es:List (Nat×Nat)} {lo hi ds:Int} {set x:Nat}
theorem b9U (hw:SG H w es) (hg:GV n es) (hs:set<M64) (hx:x<64):Asks prog 140 [gv n w,uv set,ii (x:Nat),ii (-1)] H (uv (Ab set es es.length (2^x))):=by
 refine i9 mixed c3A ?_;have rM:=hg.n64;have hes:=hg.len;refine d4 (t8 hw) ?_;refine y8 (Jl hx) rfl ?_;simp only[cA,nA];refine j1 el_edge hw ?_;refine Bf (α:=Nat) (fun r=>[uv (Ab set es r (2^x)),ii (r:Nat)]) (fun r=>r<=es.length) (fun r=>es.length-r) (0) rfl (bI _) fun r hQ=> ?_;simp only[cA,nA];refine d9 (d9 ?_);refine g7 (b:=decide (((r:Nat):Int)<(es.length:Nat))) rfl (fun h=> ?_) (fun h=> ?_)
 ·replace h:=oDt h;have hS:=(Nj (set:=set) hg.e64 (Aq hx) r).1;generalize hSe:Ab set es r (2^x)=S at hS;refine Bf (α:=Nat) (fun j=>[uv (rnd set (es.take j) S),ii (j:Nat)]) (fun j=>j<=es.length) (fun j=>es.length-j) (0) rfl (bI _) fun j xQ=> ?_;simp only[cA,nA];refine j1 el_edge hw ?_;refine d9 (d9 ?_);refine g7 (b:=decide (((j:Nat):Int)<(es.length:Nat))) rfl (fun h2=> ?_) (fun h2=> ?_)
  ·replace h2:=oDt h2;have sU:j<es.length:=aA;obtain⟨e,he,hde⟩:=m7 sU;obtain⟨he1,he2⟩:=hg.mem he;have hR:=Zt (set:=set) (L:=es.take j) (fun a ha=>hg.e64 a (cG ha)) hS;have qI:rnd set (es.take (j+1)) S=rst set (rnd set (es.take j) S) e:=by rw[take_snoc he,zp]
   generalize rnd set (es.take j) S=R at hR qI;refine Kt rfl rfl rfl rfl rfl aE aE aE hw he rfl aE (fun _ _=>rfl) fun _ _=> ?_;simp only[cA,nA];refine Nk rfl rfl rfl rfl rfl aE aE aE hw he rfl aE (fun _ _=>rfl) fun _ _=> ?_;simp only[cA,nA];refine d9 ?_;refine Fh (by show Value.bool (((j:Nat):Int) != -1)=_;exact(bN _ _).trans (congrArg Value.bool (oDd aA))) ?_;refine y8 (Dq hs aA) rfl ?_;simp only[cA,nA];refine d9 ?_;refine g7 (b:=bit set e.1) rfl (fun b1=> ?_) (fun b1=> ?_)
   ·skip
    refine y8 (Dq hs aA) rfl ?_;simp only[cA,nA];refine d9 ?_;refine g7 (b:=bit set e.2) rfl (fun b2=> ?_) (fun b2=> ?_)
    ·skip
     refine y8 (Dq hR aA) rfl ?_;simp only[cA,nA];refine d9 ?_;refine g7 (b:=bit R e.1) rfl (fun b3=> ?_) (fun b3=> ?_)
     ·skip
      refine y8 (Jl (n:=e.1) aA) rfl ?_;simp only[cA,nA];refine d9 (d9 ?_);refine y8 (Jl (n:=e.2) aA) rfl ?_;simp only[cA,nA];refine d9 ?_;exact⟨j+1,aA,(i7 (by rw[qI,NN b1 b2 (.inl b3)];exact Du (Du rfl rfl hR (Aq aA)) rfl (Hy hR (Aq aA)) (Aq aA)) (i6 rfl aA)),⟨aA,rfl⟩⟩
     ·skip
      refine y8 (Dq hR aA) rfl ?_;simp only[cA,nA];refine d9 ?_;refine g7 (b:=bit R e.2) rfl (fun b4=> ?_) (fun b4=> ?_)
      ·skip
       refine y8 (Jl (n:=e.1) aA) rfl ?_;simp only[cA,nA];refine d9 (d9 ?_);refine y8 (Jl (n:=e.2) aA) rfl ?_;simp only[cA,nA];refine d9 ?_;exact⟨j+1,aA,(i7 (by rw[qI,NN b1 b2 (.inr b4)];exact Du (Du rfl rfl hR (Aq aA)) rfl (Hy hR (Aq aA)) (Aq aA)) (i6 rfl aA)),⟨aA,rfl⟩⟩
      ·skip
       exact⟨j+1,aA,(i7 (by rw[qI,zq (.inr (.inr ⟨b3,b4⟩))];rfl) (i6 rfl aA)),⟨aA,rfl⟩⟩
    ·skip
     exact⟨j+1,aA,(i7 (by rw[qI,zq (.inr (.inl b2))];rfl) (i6 rfl aA)),⟨aA,rfl⟩⟩
   ·skip
    exact⟨j+1,aA,(i7 (by rw[qI,zq (.inl b1)];rfl) (i6 rfl aA)),⟨aA,rfl⟩⟩
  ·replace h2:=oDf h2;have hje:j=es.length:=aA;exact⟨r+1,aA,(i7 (by rw[show Ab set es (r+1) (2^x)=rnd set es S from by rw[<-hSe];rfl,hje,List.take_length];rfl) (i6 rfl aA)),⟨aA,rfl⟩⟩
 ·replace h:=oDf h;have hre:r=es.length:=aA;exact g6 rfl ⟨rfl,by rw[hre];rfl⟩
theorem b9V (hw:SG H w es) (hg:GV n es) (hs:set<2^n):Con prog 85 [gv n w,uv set] H fun u H'=>Pl H H'/\∃l,SU H' u l/\(l.length=1↔Cn es set):=by
 refine i9 mixed c3B ?_;have rM:=hg.n64;have qV:=By rM hs;refine d4 (t8 hw) ?_;refine s8 (α:=Value×Nat×List Nat×Nat) (fun⟨v,done,l,i⟩=>[v,uv done,ii (i:Nat)]) (fun⟨v,done,l,i⟩=>fun H'=>Pl H H'/\SO H H' 54 1 (fun s:Nat=>[uv s]) v l/\done<M64/\i<=n/\l.length<=i/\(∀y,y<i->bit set y=true->bit done y=true)/\CS es set (sdf set done) l.length) (fun⟨v,done,l,i⟩=>n-i) ((.slice none 0 0,0,[],0)) rfl (⟨Pl.refl _,SO.nil _ _ _ _ _,aC,bI _,aS _,fun y hy=>aA,.inl ⟨rfl,Ao fun y=>by rw[z6,Dc];simp⟩⟩) fun⟨v,done,l,i⟩ H' hQ=> ?_;simp only[cA,nA];obtain⟨l1,o1,hd,hi,hli,rC,hC⟩:=hQ;refine d9 (d9 ?_);refine g7 (b:=decide (((i:Nat):Int)<(n:Nat))) rfl (fun h=> ?_) (fun h=> ?_)
 ·replace h:=oDt h;refine y8 (Dq qV aA) rfl ?_;simp only[cA,nA];refine d9 ?_;refine g7 (b:=bit set i) rfl (fun h1=> ?_) (fun h1=> ?_)
  ·skip
   refine y8 (Dq hd aA) rfl ?_;simp only[cA,nA];refine d9 ?_;refine g7 (b:= !bit done i) rfl (fun h2=> ?_) (fun h2=> ?_)
   ·skip
    have h2:bit done i=false:=by simpa using h2
    have uH:=d7M hg h1 aA;refine s6 (b9U (hw.mono l1) hg qV aA) rfl ?_;simp only[cA,nA];generalize Ab set es es.length (2^i)=part at uH;refine Dk el_u64 rfl rfl rfl aE aE l1 o1 aA rfl aE rfl fun q v2 H2 l2 o2=> ?_;simp only[cA,nA];refine d9 (d9 ?_);exact⟨(v2,done|||part,l++[part],i+1),by show n-(i+1)<n-i;omega,(Bo rfl (Du rfl rfl hd uH.1) (i6 rfl aA)),⟨l2,o2,Hy hd uH.1,by show i+1<=n;omega,by rw[aM];simp only[aO,bX];show _<=i+1;omega,fun y hy hb=>by rw[Ac];rcases fO.1 hy with hy|hy;(rw[rC y hy hb];rfl);(subst hy;rw[(uH.2 y).2 .base];simp),by rw[aM];have hn:=hC.next (by rw[z6,h1,h2];rfl) h1 uH;rw[show sdf set (done|||part)=sdf (sdf set done) part from Ao fun y=>by rw[z6,z6,z6,Ac];cases bit set y<;>cases bit done y<;>cases bit part y<;>rfl];exact hn⟩⟩
   ·skip
    have h2:bit done i=true:=by simpa using h2
    exact⟨(v,done,l,i+1),by show n-(i+1)<n-i;omega,(Bo rfl rfl (i6 rfl aA)),⟨l1,o1,hd,by show i+1<=n;omega,nW hli,fun y hy hb=>by rcases fO.1 hy with hy|hy;(exact rC y hy hb);(subst hy;exact h2),hC⟩⟩
  ·skip
   exact⟨(v,done,l,i+1),by show n-(i+1)<n-i;omega,(Bo rfl rfl (i6 rfl aA)),⟨l1,o1,hd,by show i+1<=n;omega,nW hli,fun y hy hb=>by rcases fO.1 hy with hy|hy;(exact rC y hy hb);(subst hy;rw[h1]at hb;cases hb),hC⟩⟩
 ·replace h:=oDf h;have h0:sdf set done=0:=Ao fun y=>by
   rw[z6,Dc];cases hy:bit set y with
   |false=>rfl
   |true=>rw[rC y (by have:=zd hs hy;omega) hy];rfl
  rw[h0]at hC;exact g6 rfl ⟨l1,l,o1.se,hC.end⟩
theorem zt (hw:SG H w es) (hg:GV n es) (hs:set<2^n):Ae prog 41 [gv n w,uv set] H (.bool (cnB es set)):=by
 refine i9 mixed c3C ?_;refine d4 (t8 hw) ?_;refine g9 (b9V hw hg hs) rfl ?_;rintro u H2 ⟨l2,l,hl,hc⟩;refine nmI ?_;have e:cnB es set=decide (l.length=1):=by rw[bC,cnB_iff,<-hc];simp
 refine j1 el_u64 hl ?_;refine d9 ?_;exact g6 rfl ⟨l2,by rw[e];show Value.bool (((l.length:Nat):Int)==1)=_;rw[bE];exact congrArg Value.bool (decide_eq_decide.2 aA)⟩
theorem NQ (hu:SI H u p) (k:Int):Asks prog 96 [u,ii k] H (.bool (decide (LabOk p k))):=by
 refine i9 mixed c3E ?_;have hl:=hu.len;refine Bf (α:=Nat×Value) (fun⟨i,z⟩=>[z,ii (i:Nat)]) (fun⟨i,z⟩=>i<=p.length/\∀x∈p.take i,0<=x/\x<k) (fun⟨i,z⟩=>p.length-i) ((0,.bool false)) rfl (⟨bI _,fun x hx=>by cases hx⟩) fun⟨i,z⟩ hQ=> ?_;obtain⟨hi,hq⟩:=hQ;refine j1 el_plan hu ?_;refine d9 (d9 ?_);refine g7 (b:=decide (((i:Nat):Int)<(p.length:Nat))) rfl (fun h=> ?_) (fun h=> ?_)
 ·replace h:=oDt h;have qB:i<p.length:=aA;obtain⟨x,hx,tK⟩:=m7 qB;refine j4 el_plan hu hx fun _=> ?_;have yI:=aG hx;refine d9 ?_;refine g7 (b:=decide (x<0)) rfl (fun h2=> ?_) (fun h2=> ?_)
  ·replace h2:=oDt h2;exact g6 rfl ⟨rfl,by rw[decide_eq_false (fun e=>by have:=e.1 x yI;omega)];rfl⟩
  ·replace h2:=oDf h2;refine j4 el_plan hu hx fun _=> ?_;refine d9 (d9 ?_);refine g7 (b:=decide (x≥k)) rfl (fun h3=> ?_) (fun h3=> ?_)
   ·replace h3:=oDt h3;exact g6 rfl ⟨rfl,by rw[decide_eq_false (fun e=>by have:=e.1 x yI;omega)];rfl⟩
   ·replace h3:=oDf h3;exact⟨(i+1,z),by show p.length-(i+1)<p.length-i;omega,(i7 rfl (i6 rfl aA)),⟨⟨qB,by rw[take_snoc hx];intro y hy;rw[aQ,aL]at hy;rcases hy with hy|rfl;(exact hq y hy);omega⟩,rfl⟩⟩
 ·replace h:=oDf h;rw[aF aA]at hq;refine j1 el_plan hu ?_;refine d9 ?_;refine g7 (b:=decide (((p.length:Nat):Int)≥1)) rfl (fun h4=> ?_) (fun h4=> ?_)
  ·replace h4:=oDt h4;refine j1 el_plan hu ?_;refine d9 ?_;exact g6 rfl ⟨rfl,congrArg Value.bool (decide_eq_decide.2 ⟨fun h5=>⟨hq,aA,by have h6:((p.length:Nat):Int)<=64:=h5;omega⟩,fun h5=>by have:=h5.2.2;show((p.length:Nat):Int)<=64;omega⟩)⟩
  ·replace h4:=oDf h4;exact g6 rfl ⟨rfl,by rw[decide_eq_false (fun e=>by have:=e.2.1;omega)];rfl⟩
theorem mb (hu:SI H u p) (rM:p.length<=64) (d:Int):Asks prog 161 [u,ii d] H (uv (j0 p d)):=by
 refine i9 mixed c3G ?_;refine Bf (α:=Nat) (fun i=>[uv (mkN p d i),ii (i:Nat)]) (fun i=>i<=p.length) (fun i=>p.length-i) (0) rfl (bI _) fun i hQ=> ?_;refine j1 el_plan hu ?_;refine d9 (d9 ?_);refine g7 (b:=decide (((i:Nat):Int)<(p.length:Nat))) rfl (fun h=> ?_) (fun h=> ?_)
 ·replace h:=oDt h;have qB:i<p.length:=aA;obtain⟨x,hx,tK⟩:=m7 qB;refine j4 el_plan hu hx fun _=> ?_;refine d9 (d9 ?_);refine j8 (p:=(x=d)) (bE x d) (fun h2=> ?_) fun h2=> ?_
  ·refine d4 ⟨_,_,rfl⟩ ?_;refine d4 (by show(0:Int)<=((i:Nat):Int);omega) ?_;refine d9 ?_;exact⟨i+1,aA,(i7 (by rw[lj,if_pos (by rw[hx,h2])];exact Du rfl (Hg rfl aA) (lp _ _ aA) (Aq aA)) (i6 rfl aA)),⟨aA,rfl⟩⟩
  ·exact⟨i+1,aA,(i7 (by rw[lj,if_neg (by rw[hx];simpa using h2)];rfl) (i6 rfl aA)),⟨aA,rfl⟩⟩
 ·replace h:=oDf h;have he:i=p.length:=aA;exact g6 rfl ⟨rfl,by rw[he];rfl⟩
theorem b9W (hu:SI H u p) (rM:p.length<=64) (k:Nat) (hk:k<=8):Asks prog 209 [u,ii (k:Nat)] H (.bool (decide (Ai p k))):=by
 refine i9 mixed c3F ?_;refine Bf (α:=Nat×Value) (fun⟨d,z⟩=>[z,ii (d:Nat)]) (fun⟨d,z⟩=>d<=k/\∀j,j<d->j0 p (j:Nat)≠0) (fun⟨d,z⟩=>k-d) ((0,.bool false)) rfl (⟨bI _,fun j hj=>by cases hj⟩) fun⟨d,z⟩ hQ=> ?_;obtain⟨hd,hq⟩:=hQ;refine d9 (d9 ?_);refine g7 (b:=decide (((d:Nat):Int)<(k:Nat))) rfl (fun h=> ?_) (fun h=> ?_)
 ·replace h:=oDt h;refine s6 (mb hu rM (d:Nat)) rfl ?_;refine d9 ?_;refine j8 (p:=(j0 p (d:Nat)=0)) (bE0 _) (fun h3=> ?_) fun h3=> ?_
  ·exact g6 rfl ⟨rfl,by rw[decide_eq_false (fun e=>e d aA h3)];rfl⟩
  ·exact⟨(d+1,z),by show k-(d+1)<k-d;omega,(i7 rfl (i6 rfl aA)),⟨⟨by show d+1<=k;omega,fun j hj=>by rcases fO.1 hj with hj|rfl;(exact hq j hj);exact h3⟩,rfl⟩⟩
 ·replace h:=oDf h;have he:d=k:=aA;subst he;exact g6 rfl ⟨rfl,by rw[oDd (p:=Ai p d) hq];rfl⟩
theorem b9X (hw:SG H w es) (hg:GV n es) (hu:SI H u p) (k:Int):Asks prog 159 [gv n w,u,ii k] H (ii (plE n p k)):=by
 refine i9 mixed c3H ?_;refine d4 (t8 hw) ?_;refine s6 (Zw hw hg) rfl ?_;simp only[cA,nA];refine d9 ?_;refine r9 (bF (p:=(0:Int)≠0) aD) ?_;refine d9 ?_;refine g7 (b:=decide (k<1)) rfl (fun h=> ?_) (fun h=> ?_)
 ·replace h:=oDt h;exact g6 rfl ⟨rfl,by rw[show plE n p k=2 from if_pos (.inl h)];rfl⟩
 ·replace h:=oDf h;refine g7 (b:=decide (k>8)) rfl (fun h2=> ?_) (fun h2=> ?_)
  ·replace h2:=oDt h2;exact g6 rfl ⟨rfl,by rw[show plE n p k=2 from if_pos (.inr h2)];rfl⟩
  ·replace h2:=oDf h2;have hk:¬(k<1\/k>8):=aA;obtain⟨m,rfl⟩:∃m:Nat,k=(m:Int):=⟨k.toNat,aA⟩;refine j1 el_plan hu ?_;refine d9 (d9 ?_);refine j8 (p:=(p.length≠n)) (by show Value.bool (((p.length:Nat):Int) !=((n:Nat):Int))=_;rw[bN];congr 1;apply decide_eq_decide.2;omega) (fun h3=> ?_) fun h3=> ?_
   ·exact g6 rfl ⟨rfl,by rw[show plE n p (m:Nat)=210 from(if_neg hk).trans (if_neg fun e=>h3 e.1)];rfl⟩
   ·refine s6 (NQ hu (m:Nat)) rfl ?_;simp only[cA,nA];refine d9 ?_;refine g7 (b:= !decide (LabOk p (m:Nat))) rfl (fun h4=> ?_) (fun h4=> ?_)
    ·skip
     exact g6 rfl ⟨rfl,by rw[show plE n p (m:Nat)=210 from(if_neg hk).trans (if_neg fun e=>by simp[e.2.1]at h4)];rfl⟩
    ·skip
     have hL:LabOk p (m:Nat):=by simpa using h4
     refine s6 (b9W hu hL.2.2 m aA) rfl ?_;simp only[cA,nA];refine d9 ?_;refine g7 (b:= !decide (Ai p m)) rfl (fun h5=> ?_) (fun h5=> ?_)
     ·skip
      exact g6 rfl ⟨rfl,by rw[show plE n p (m:Nat)=210 from(if_neg hk).trans (if_neg fun e=>by have:=e.2.2;rw[aV]at this;simp[this]at h5)];rfl⟩
     ·skip
      have hU:Ai p m:=by simpa using h5
      exact g6 rfl ⟨rfl,by rw[show plE n p (m:Nat)=0 from(if_neg hk).trans (if_pos ⟨aA,hL,by rw[aV];exact hU⟩)];rfl⟩
theorem b9Y (hw:SG H w es) (hg:GV n es) (qO:SI H wts wl):Asks prog 94 [gv n w,bv wts lo hi ds] H (ii (bdE n wl lo hi ds)):=by
 refine i9 mixed c3U ?_;have hl:=qO.len;refine d4 (t8 hw) ?_;refine d4 (Cj (u0 qO) _ _ _) ?_;refine s6 (Zw hw hg) rfl ?_;simp only[cA,nA];refine d9 ?_;refine r9 (bF (p:=(0:Int)≠0) aD) ?_;refine j1 el_int qO ?_;refine d9 (d9 ?_);refine j8 (p:=(wl.length≠n)) (by show Value.bool (((wl.length:Nat):Int) !=((n:Nat):Int))=_;rw[bN];congr 1;apply decide_eq_decide.2;omega) (fun h=> ?_) fun h=> ?_
 ·exact g6 rfl ⟨rfl,by rw[Ia (h:=fun e=>h e.1)];rfl⟩
 ·refine d9 ?_;refine g7 (b:=decide (lo<0)) rfl (fun h2=> ?_) (fun h2=> ?_)
  ·replace h2:=oDt h2;exact g6 rfl ⟨rfl,by rw[Ia (h:=fun e=>aA)];rfl⟩
  ·replace h2:=oDf h2;refine d9 ?_;refine g7 (b:=decide (lo>hi)) rfl (fun h3=> ?_) (fun h3=> ?_)
   ·replace h3:=oDt h3;exact g6 rfl ⟨rfl,by rw[Ia (h:=fun e=>aA)];rfl⟩
   ·replace h3:=oDf h3;refine d9 ?_;refine g7 (b:=decide (ds<1)) rfl (fun h4=> ?_) (fun h4=> ?_)
    ·replace h4:=oDt h4;exact g6 rfl ⟨rfl,by rw[Ia (h:=fun e=>aA)];rfl⟩
    ·replace h4:=oDf h4;refine g7 (b:=decide (ds>8)) rfl (fun h5=> ?_) (fun h5=> ?_)
     ·replace h5:=oDt h5;exact g6 rfl ⟨rfl,by rw[Ia (h:=fun e=>aA)];rfl⟩
     ·replace h5:=oDf h5;refine Bf (α:=Nat×Int) (fun⟨i,z⟩=>[ii z,ii (i:Nat)]) (fun⟨i,z⟩=>i<=wl.length/\∀x∈wl.take i,0<=x/\x<=1000000000) (fun⟨i,z⟩=>wl.length-i) ((0,0)) rfl (⟨bI _,fun x hx=>by cases hx⟩) fun⟨i,z⟩ hQ=> ?_;simp only[cA,nA];obtain⟨a7b,hq⟩:=hQ;refine j1 el_int qO ?_;refine d9 (d9 ?_);refine g7 (b:=decide (((i:Nat):Int)<(wl.length:Nat))) rfl (fun h6=> ?_) (fun h6=> ?_)
      ·replace h6:=oDt h6;have qB:i<wl.length:=aA;obtain⟨x,hx,tK⟩:=m7 qB;have yI:=aG hx;refine j4 el_int qO hx fun _=> ?_;simp only[cA,nA];refine d9 ?_;refine g7 (b:=decide (x<0)) rfl (fun h7=> ?_) (fun h7=> ?_)
       ·replace h7:=oDt h7;exact g6 rfl ⟨rfl,by rw[Ia (h:=fun e=>by have:=e.2.2.2.2.2 x yI;omega)];rfl⟩
       ·replace h7:=oDf h7;refine j4 el_int qO hx fun _=> ?_;simp only[cA,nA];refine d9 ?_;refine g7 (b:=decide (x>1000000000)) rfl (fun h8=> ?_) (fun h8=> ?_)
        ·replace h8:=oDt h8;exact g6 rfl ⟨rfl,by rw[Ia (h:=fun e=>by have:=e.2.2.2.2.2 x yI;omega)];rfl⟩
        ·replace h8:=oDf h8;exact⟨(i+1,z),by show wl.length-(i+1)<wl.length-i;omega,(i7 rfl (i6 rfl aA)),⟨⟨qB,by rw[take_snoc hx];intro y hy;rw[aQ,aL]at hy;rcases hy with hy|rfl;(exact hq y hy);omega⟩,rfl⟩⟩
      ·replace h6:=oDf h6;rw[aF aA]at hq;have h0:¬wl.length≠n:=h;exact g6 rfl ⟨rfl,by rw[show bdE n wl lo hi ds=0 from if_pos ⟨aA,aA,aA,aA,aA,hq⟩];rfl⟩
theorem zu (hw:SG H w es) (hg:GV n es) (qO:SI H wts wl) (qD:wl.length=n) (zC:Nh wl) (hs:set<2^n):Ae prog 160 [gv n w,bv wts lo hi ds,uv set] H (.bool (alB es wl lo hi set)):=by
 refine i9 mixed c3V ?_;have rM:=hg.n64;have qV:=By rM hs;refine d4 (t8 hw) ?_;refine d4 (Cj (u0 qO) _ _ _) ?_;refine Bf (α:=Nat) (fun i=>[ii (((eP i).filter (bit set)).map fun x=>wl.getD x 0).sum,ii (i:Nat)]) (fun i=>i<=n) (fun i=>n-i) (0) rfl (bI _) fun i hQ=> ?_;refine d9 (d9 ?_);refine g7 (b:=decide (((i:Nat):Int)<(n:Nat))) rfl (fun h=> ?_) (fun h=> ?_)
 ·replace h:=oDt h;refine y8 (Dq qV aA) rfl ?_;refine d9 ?_;refine g7 (b:=bit set i) rfl (fun h1=> ?_) (fun h1=> ?_)
  ·skip
   have xB:i<wl.length:=aA;have hx:wl[i]? =some wl[i]:=aJ xB;have rG:=zC _ (dS xB);have hbd:=MS (((eP i).filter (bit set)).map fun x=>wl.getD x 0) (by
    intro z hz;rw[aY]at hz;obtain⟨a,ha,rfl⟩:=hz;have tI:=bR.1 (bT.1 ha).1;rw[aK,aJ (show a<wl.length by omega)];exact zC _ (dS _))
   have pY:=cC (bit set) (eP i);rw[aX]at hbd;rw[nO]at pY;refine j4 el_int qO hx fun _=> ?_;refine d9 (d9 ?_);exact⟨i+1,aA,(i7 (by rw[Zh rfl rfl aA aA,iL,dP,eO,if_pos h1,aT,List.sum_append];show _=ii (_+([wl.getD i 0].sum));rw[List.sum_cons,List.sum_nil,Int.add_zero,aK,hx];rfl) (i6 rfl aA)),⟨aA,rfl⟩⟩
  ·skip
   exact⟨i+1,aA,(i7 (by rw[iL,dP,eO,if_neg (by simp[h1]),List.filter_nil,bQ];rfl) (i6 rfl aA)),⟨aA,rfl⟩⟩
 ·replace h:=oDf h;have he:i=n:=aA;subst he;rw[NP hs rM];refine y9 (zt hw hg hs) rfl fun H1 l1=> ?_;refine d9 ?_;refine g7 (b:=cnB es set) rfl (fun h1=> ?_) (fun h1=> ?_)
  ·skip
   refine d9 (d9 ?_);refine g7 (b:=decide (Sj wl set≥lo)) rfl (fun h2=> ?_) (fun h2=> ?_)
   ·replace h2:=oDt h2;refine d9 ?_;exact g6 rfl ⟨l1,by unfold alB;rw[h1,oDd h2];rfl⟩
   ·replace h2:=oDf h2;exact g6 rfl ⟨l1,by unfold alB;rw[h1,decide_eq_false h2];rfl⟩
  ·skip
   exact g6 rfl ⟨l1,by unfold alB;rw[h1];rfl⟩
theorem b5P (hw:SG H w es) (hg:GV n es) (qO:SI H wts wl) (qD:wl.length=n) (zC:Nh wl) (hu:SI H u p):Ae prog 95 [gv n w,bv wts lo hi ds,u] H (.bool (As n es wl lo hi ds p)):=by
 refine i9 mixed c3W ?_;refine d4 (t8 hw) ?_;refine d4 (Cj (u0 qO) _ _ _) ?_;refine s6 (b9X hw hg hu ds) rfl ?_;refine d9 ?_;refine j8 (p:=(plE n p ds≠0)) (bN _ _) (fun h=> ?_) fun h=> ?_
 ·exact g6 rfl ⟨Pl.refl _,by unfold As;rw[decide_eq_false h];rfl⟩
 ·have h0:plE n p ds=0:=bB h;have vW:=ze h0;obtain⟨k,rfl⟩:∃k:Nat,ds=(k:Int):=⟨ds.toNat,aA⟩;have rM:=vW.2.2.2.1.2.2;have tY:As n es wl lo hi (k:Nat) p=(masks p k).all (alB es wl lo hi):=by unfold As;rw[oDd h0,aV,Bool.true_and]
  refine s8 (α:=Nat×Value) (fun⟨d,z⟩=>[z,ii (d:Nat)]) (fun⟨d,z⟩=>fun H'=>Pl H H'/\d<=k/\∀j,j<d->alB es wl lo hi (j0 p (j:Nat))=true) (fun⟨d,z⟩=>k-d) ((0,.bool false)) rfl (⟨Pl.refl _,bI _,fun j hj=>by cases hj⟩) fun⟨d,z⟩ H' hQ=> ?_;obtain⟨l1,hd,hq⟩:=hQ;refine d9 (d9 ?_);refine g7 (b:=decide (((d:Nat):Int)<(k:Nat))) rfl (fun h2=> ?_) (fun h2=> ?_)
  ·replace h2:=oDt h2;refine s6 (mb (hu.mono l1) rM (d:Nat)) rfl ?_;have hms:j0 p (d:Nat)<2^n:=by have:=Si p (d:Nat) rM;rw[<-vW.2.2.1];exact this
   refine y9 (zu (lo:=lo) (hi:=hi) (ds:=(k:Nat)) (hw.mono l1) hg (qO.mono l1) qD zC hms) rfl fun H2 l2=> ?_;refine d9 ?_;refine g7 (b:= !alB es wl lo hi (j0 p (d:Nat))) rfl (fun h3=> ?_) (fun h3=> ?_)
   ·skip
    exact g6 rfl ⟨l1.trans l2,by rw[tY];refine congrArg Value.bool (Eq.symm ?_);rw[List.all_eq_false];exact⟨j0 p (d:Nat),aY.2 ⟨d,bR.2 aA,rfl⟩,by simpa using h3⟩⟩
   ·skip
    exact⟨(d+1,z),by show k-(d+1)<k-d;omega,(i7 rfl (i6 rfl aA)),⟨l1.trans l2,by show d+1<=k;omega,fun j hj=>by rcases fO.1 hj with hj|rfl;(exact hq j hj);simpa using h3⟩⟩
  ·replace h2:=oDf h2;have he:d=k:=aA;subst he;exact g6 rfl ⟨l1,by rw[tY];refine congrArg Value.bool (Eq.symm ?_);rw[dE];intro s vC;simp only[masks,Hi,aY,bR]at vC;obtain⟨j,hj,rfl⟩:=vC;exact hq j hj⟩
end
end Go.Z

/- Chapter 32: contracts of the library. -/
import Derived.Test.YtlmgkkjgdapnpaaGreatDoorGsA
import Derived.Test.YtlmgkkjgdapnpaaGreatDoorWdB
import Derived.Test.YtlmgkkjgdapnpaaGreatDoorRxW
import Derived.Test.YtlmgkkjgdapnpaaGreatDoorWdK
namespace Go.Proofs.YtlmgkkjgdapnpaaGreatDoor
open Go.Proofs.Tryz
open Go.RowKit Go.RX Go.WD Go.GS
theorem el_int:El prog 38 3 1 false (fun z:Int=>[ii z]) ii where
 und:=by kernel_rfl
 has:=by kernel_rfl
 cel:=by kernel_rfl
 agg:=by kernel_rfl
 pos:=by decide
 one1:=fun _=>rfl
 small:=by decide
 inf:=⟨(prog.info? 3).getD default,ii 0,by kernel_rfl,by kernel_rfl,by kernel_rfl,rfl,of_decide_eq_true (by kernel_rfl)⟩
 len:=fun _=>rfl
 val:=fun _=>rfl
 cells:=fun _=>rfl
 one:=fun x c hc=>by simp at hc;subst hc;rfl
theorem a0S:El prog 39 3 1 false (fun z:Int=>[ii z]) ii where
 und:=by kernel_rfl
 has:=by kernel_rfl
 cel:=by kernel_rfl
 agg:=by kernel_rfl
 pos:=by decide
 one1:=fun _=>rfl
 small:=by decide
 inf:=⟨(prog.info? 3).getD default,ii 0,by kernel_rfl,by kernel_rfl,by kernel_rfl,rfl,of_decide_eq_true (by kernel_rfl)⟩
 len:=fun _=>rfl
 val:=fun _=>rfl
 cells:=fun _=>rfl
 one:=fun x c hc=>by simp at hc;subst hc;rfl
theorem el_u64:El prog 111 57 1 false (fun s:Nat=>[uv s]) uv where
 und:=by kernel_rfl
 has:=by kernel_rfl
 cel:=by kernel_rfl
 agg:=by kernel_rfl
 pos:=by decide
 one1:=fun _=>rfl
 small:=by decide
 inf:=⟨(prog.info? 57).getD default,uv 0,by kernel_rfl,by kernel_rfl,by kernel_rfl,rfl,of_decide_eq_true (by kernel_rfl)⟩
 len:=fun _=>rfl
 val:=fun _=>rfl
 cells:=fun _=>rfl
 one:=fun x c hc=>by simp at hc;subst hc;rfl
def ec (e:Nat×Nat):List Value:=[ii e.1,ii e.2]
def ev2 (e:Nat×Nat):Value:= .agg #[ii e.1,ii e.2]
theorem el_edge:El prog 30 150 2 true ec ev2 where
 und:=by kernel_rfl
 has:=by kernel_rfl
 cel:=by kernel_rfl
 agg:=by kernel_rfl
 pos:=by decide
 one1:=fun h=>by cases h
 small:=by decide
 inf:=⟨(prog.info? 150).getD default,.agg #[ii 0,ii 0],by kernel_rfl,by kernel_rfl,by kernel_rfl,rfl,of_decide_eq_true (by kernel_rfl)⟩
 len:=fun _=>rfl
 val:=fun _=>rfl
 cells:=fun _=>rfl
 one:=fun x c hc=>by simp[ec]at hc;rcases hc with rfl|rfl<;>rfl
theorem d4D {n:Nat} (h:n<9223372036854775808):IntKind.i64.wrap (n:Int)=n:=by rw[IntKind.wrap_i64];omega
theorem d0r (k:IntKind) (a:Int):unV .neg k a= .int k (k.wrap (0-a)):=rfl
theorem b9i (k:IntKind) (a:Int):intOf (.int k a)=a:=rfl
def tabL:List Nat:=[0,1,56,2,57,49,28,3,61,58,42,50,38,29,17,4,62,47,59,36,45,43,51,22,53,39,33,30,24,18,12,5,63,55,48,27,60,41,37,16,46,35,44,21,52,32,23,11,54,26,40,15,34,20,31,10,25,14,19,9,13,8,7,6]
def Tb (H:PH):Prop:=∃T fz,H 0=some (.cells (tabL.map fun n=>Value.int .u8 (n:Nat)).toArray T fz)
theorem Tb.mono {H H':PH} (h:Tb H) (hl:PH.le H H'):Tb H':=by
 obtain⟨T,fz,h⟩:=h;exact⟨T,fz,hl _ _ h⟩
def tz (s:Nat):Nat:=(els s).headD 64
theorem d4E:∀k,k<64->tabL[(2^k*285870213051353865%18446744073709551616)/288230376151711744]? =some k:=by decide
section
variable {H:PH} {s:Nat}
theorem b4D (hT:Tb H) (hs:s<M64):Con prog 80 [uv s] H fun u H'=>H'=H/\u=ii (tz s):=by
 obtain⟨T,fz,hT⟩:=hT
 refine a0b mixed d6P (by kernel_rfl) rfl (a0a ⟨_,rfl⟩ (a0f (b:=decide (s=0)) ?_ (fun h=> ?_) (fun h=> ?_)))
 ·simp only[rxs,uv]
  congr 1
  rw[Bool.eq_iff_iff];simp
 ·have h:=of_decide_eq_true h
  subst h
  refine a0c rfl ⟨rfl,?_⟩
  simp only[rxs,a4w,tz,a6L];rfl
 ·have h:=of_decide_eq_false h
  cases he:els s with
  |nil=>exact absurd (a4U hs he) h
  |cons x r=>
   have hn:=a5s hs he
   have hx:=(a1Y he).2.1
   have htz:tz s=x:=by simp[tz,he]
   have htab:=d4E x hx
   have hlt:=(List.getElem?_eq_some_iff.1 htab).1
   obtain⟨m,hm⟩:∃m,m=(2^x*285870213051353865%18446744073709551616)/288230376151711744:=⟨_,rfl⟩
   rw[<-hm]at htab hlt
   have hlt:m<64:=hlt
   have e1:((M64-s)%M64:Nat)<M64:=Nat.mod_lt _ (by decide)
   have ea:[SV.k (Value.pointer (some ⟨0,0,none⟩)),SV.op2 .shr .u64 (.op2 .mul .u64 (.op2 .and .u64 (.v 0) (.op1 .neg .u64 (.v 0))) (.k (.int .u64 285870213051353865))) (.k (.int .u64 58))].map (D prog [uv s])=[.pointer (some ⟨0,0,none⟩),.int .u64 ((m:Nat):Int)]:=by
    simp only[rxs,uv]
    congr 2
    rw[IntKind.wrap_u64]
    have e58:(2:Int)^min (Int.toNat 58) (IntKind.bits .u64)=288230376151711744:=by decide
    have e2:∀n:Nat,(n:Int)*285870213051353865%18446744073709551616/288230376151711744=((n*285870213051353865%18446744073709551616/288230376151711744:Nat):Int):=fun n=>by omega
    rw[e58,d0r,b9i,Go.GS.u64_neg hs,Go.GS.u64_and hs e1,hn,Int.fdiv_eq_ediv_of_nonneg _ (by decide),e2,<-hm]
   refine a0l ((a5M (P:=prog) (len:=64) (e:=5) rfl rfl rfl (by kernel_rfl) (by kernel_rfl) (by omega) (by omega)).rds H) ea ?_
   have hc1:prog.cellsOf 5=1:=by kernel_rfl
   have hag:a0F prog 5=false:=by kernel_rfl
   rw[Int.toNat_natCast,hc1,Nat.zero_add,Nat.mul_one]
   have hl:=a4l (P:=prog) (o:=opr f80 3 7) (H:=H) (T:=5) b9d rfl hT (by kernel_rfl) (q:=m) (by rw[hc1];simp only[List.size_toArray,List.length_map];show _<=64;omega) (fun _=>by simp only[List.size_toArray,List.length_map];show _<64;omega)
   rw[hag]at hl
   have hv:((tabL.map fun n=>Value.int .u8 (n:Nat)).toArray).getD m undef= .int .u8 (x:Nat):=by
    rw[Array.getD_eq_getD_getElem?,List.getElem?_toArray,List.getElem?_map,htab];rfl
   simp only[Bool.false_eq_true,if_false,hv]at hl
   simp only[cA,nA]
   refine a0l hl rfl ?_
   simp only[cA,nA]
   refine a0a ⟨_,rfl⟩ (a0c rfl ⟨rfl,?_⟩)
   simp only[rxs,a4w,htz,ii]
   rw[d4D (by omega)]
end
theorem b3A {P:Program} {ρ:List Value} {a:SV} {n:Nat} {k:IntKind} (ha:D P ρ a= .int k (n:Nat)) (h:n<M64):D P ρ (.cv .u64 a)= .int .u64 (n:Nat):=by
 show Value.int .u64 (IntKind.u64.wrap (intOf (D P ρ a)))=_
 rw[ha]
 show Value.int .u64 (IntKind.u64.wrap (n:Int))= .int .u64 _
 congr 1
 rw[IntKind.wrap_u64];simp only[M64]at h;omega
end Go.Proofs.YtlmgkkjgdapnpaaGreatDoor
/- Loops by states; calls that only read. -/
namespace Go.RX
open Go.RowKit
def Asks (P:Program) (f:FuncId) (args:List Value) (H:PH) (v:Value):Prop:=Con P f args H fun u H'=>H'=H/\u=v
section
variable {P:Program} {G Xp:Value->PH->Prop} {nx:List (List Value->PH->Prop)} {ρ:List Value} {H:PH}
theorem a0q {pf:Bool} {f:FuncId} {args:List SV} {t:Tree} {vs:List Value} {v:Value} (hd:Asks P f vs H v) (ha:args.map (D P ρ)=vs) (n:den P G Xp t nx (ρ++[v]) H):den P G Xp (.call pf f args t) nx ρ H:=
 a0d hd ha fun u H' ⟨h1,h2⟩=>by subst h1;subst h2;exact⟨fun _=>PH.le.refl _,n⟩
theorem b1D {F:List Value->PH->Prop} {nx nx':List (List Value->PH->Prop)} {a b:List Value->PH->Prop} (hl:nx.length=nx'.length) (h:∀d l h,nx.getD d F l h->nx'.getD d F l h) (hab:∀l h,a l h->b l h):
  (nx++[a]).length=(nx'++[b]).length/\∀d l h,(nx++[a]).getD d F l h->(nx'++[b]).getD d F l h:=by
 refine⟨by simp[hl],fun d l h' hx=> ?_⟩
 rw[List.getD_eq_getElem?_getD]at hx⊢
 by_cases hd:d<nx.length
 ·rw[List.getElem?_append_left hd]at hx
  rw[List.getElem?_append_left (by omega)]
  have:=h d l h'
  rw[List.getD_eq_getElem?_getD,List.getD_eq_getElem?_getD]at this
  exact this hx
 ·rw[List.getElem?_append_right (by omega)]at hx
  rw[List.getElem?_append_right (by omega)]
  rw[<-hl]
  cases e:d-nx.length with
  |zero=>rw[e]at hx;exact hab l h' hx
  |succ n=>rw[e]at hx;exact hx
theorem b9j:∀(t:Tree) (Xp:Value->PH->Prop) (nx nx':List (List Value->PH->Prop)) (ρ:List Value) (H:PH),nx.length=nx'.length->(∀d l h,nx.getD d (fun _ _=>False) l h->nx'.getD d (fun _ _=>False) l h)->den P G Xp t nx ρ H->den P G Xp t nx' ρ H:=by
 intro t
 induction t with
 |ret l=>intro Xp nx nx' ρ H _ _ h;exact h
 |rq r t ih=>intro Xp nx nx' ρ H hl hn h;exact⟨h.1,ih _ _ _ _ _ hl hn h.2⟩
 |br c t e ih1 ih2=>intro Xp nx nx' ρ H hl hn h;exact⟨fun hc=>ih1 _ _ _ _ _ hl hn (h.1 hc),fun hc=>ih2 _ _ _ _ _ hl hn (h.2 hc)⟩
 |call pf f args t ih=>
  intro Xp nx nx' ρ H hl hn h w hw
  exact(h w hw).mono fun e w' hh=>hh.imp (fun⟨v,H',he,hs,hp,hd⟩=>⟨v,H',he,hs,hp,ih _ _ _ _ _ hl hn hd⟩) fun h=>h
 |prim id i o args t ih=>
  intro Xp nx nx' ρ H hl hn h
  obtain⟨v,hd,h⟩:=h
  exact⟨v,hd,ih _ _ _ _ _ hl hn h⟩
 |eff pf id i o args t ih=>
  intro Xp nx nx' ρ H hl hn h w hw
  exact(h w hw).mono fun u w' ⟨H',hs,hp,hd⟩=>⟨H',hs,hp,ih _ _ _ _ _ hl hn hd⟩
 |ext f args t ih=>
  intro Xp nx nx' ρ H hl hn h
  obtain⟨v,hd,h⟩:=h
  exact⟨v,hd,ih _ _ _ _ _ hl hn h⟩
 |pub T c t ih=>intro Xp nx nx' ρ H hl hn h b hb;exact ih _ _ _ _ _ hl hn (h b hb)
 |dead n=>intro Xp nx nx' ρ H _ _ h;exact h
 |both t u ih1 ih2=>intro Xp nx nx' ρ H hl hn h;exact⟨ih1 _ _ _ _ _ hl hn h.1,ih2 _ _ _ _ _ hl hn h.2⟩
 |rf g np ini tb ta te ih1 ih2 ih3=>
  intro Xp nx nx' ρ H hl hn h
  obtain⟨f,caps,X,K,Ro,E,S,Sp,I,Ix,h1,h2,h3,h4,h5,h6,h7,h8,h9,h10⟩:=h
  refine⟨f,caps,X,K,Ro,E,S,Sp,I,Ix,h1,h2,h3,h4,h5,h6,h7,fun pre xs vals X' a b c=>⟨(h8 pre xs vals X' a b c).1,?_⟩,fun xs vals X' K' a b c d=>ih2 _ _ _ _ _ hl hn (h9 xs vals X' K' a b c d),fun pre vals X' K' a b c d=>ih3 _ _ _ _ _ hl hn (h10 pre vals X' K' a b c d)⟩
  have e1:=b1D (F:=fun _ _=>False) hl hn (a:=fun v h=>I (pre++[xs]) v h) (b:=fun v h=>I (pre++[xs]) v h) (fun _ _ h=>h)
  have e2:=b1D (F:=fun _ _=>False) e1.1 e1.2 (a:=fun v h=>Ix (pre++[xs]) v h) (b:=fun v h=>Ix (pre++[xs]) v h) (fun _ _ h=>h)
  simp only[List.append_assoc,List.cons_append,List.nil_append]at e2
  exact ih1 _ _ _ _ _ e2.1 e2.2 (h8 pre xs vals X' a b c).2
 |mk id i o args t ih=>
  intro Xp nx nx' ρ H hl hn h
  obtain⟨mk,ob,h1,h2⟩:=h
  exact⟨mk,ob,h1,fun b hb=>ih _ _ _ _ _ hl hn (h2 b hb)⟩
 |loop ini t ih=>
  intro Xp nx nx' ρ H hl hn h
  obtain⟨I,μ,h0,h1⟩:=h
  refine⟨I,μ,h0,fun vals H' hv hI=> ?_⟩
  have e:=b1D (F:=fun _ _=>False) hl hn (a:=fun l h=>I l h/\μ l h<μ vals H') (b:=fun l h=>I l h/\μ l h<μ vals H') (fun _ _ h=>h)
  exact ih _ _ _ _ _ e.1 e.2 (h1 vals H' hv hI)
 |next d l=>intro Xp nx nx' ρ H hl hn h;exact hn d _ _ h
 |join n t u ih1 ih2=>
  intro Xp nx nx' ρ H hl hn h
  obtain⟨J,h1,h2⟩:=h
  have e:=b1D (F:=fun _ _=>False) hl hn (a:=J) (b:=J) (fun _ _ h=>h)
  exact⟨J,ih1 _ _ _ _ _ e.1 e.2 h1,fun vals H' hv hJ=>ih2 _ _ _ _ _ hl hn (h2 vals H' hv hJ)⟩
theorem c5d (t:Tree) (nx nx':List (List Value->PH->Prop)) (ρ:List Value) (H:PH) (hl:nx.length=nx'.length) (hn:∀d l h,nx.getD d (fun _ _=>False) l h->nx'.getD d (fun _ _=>False) l h) (h:den P G Xp t nx ρ H):den P G Xp t nx' ρ H:=b9j t Xp nx nx' ρ H hl hn h
theorem b9k {p:Nat->Prop}:∀n,p n->∃m,p m/\∀k,p k->m<=k:=by
 intro n
 induction n using Nat.strongRecOn with
 |_ n ih=>
  intro hp
  by_cases h:∃k,k<n/\p k
  ·obtain⟨k,h1,h2⟩:=h;exact ih k h1 h2
  ·exact⟨n,hp,fun k hk=>Nat.le_of_not_lt fun hlt=>h ⟨k,hlt,hk⟩⟩
theorem a0o {ini:List SV} {t:Tree} {α:Type} (f:α->List Value) (Q:α->PH->Prop) (m:α->Nat) (a0:α) (h0:ini.map (D P ρ)=f a0) (hQ:Q a0 H)
  (hs:∀a H',Q a H'->den P G Xp t (nx++[fun l h=>∃b,m b<m a/\l=f b/\Q b h]) (ρ++f a) H'):den P G Xp (.loop ini t) nx ρ H:=by
 classical
 have key:∀(l:List Value) (h:PH),(∃a,l=f a/\Q a h)->∃a,(l=f a/\Q a h)/\∀b,(l=f b/\Q b h)->m a<=m b:=by
  intro l h ⟨a,ha⟩
  obtain⟨n,⟨a',e1,e2⟩,e3⟩:=b9k (p:=fun n=>∃a,m a=n/\l=f a/\Q a h) (m a) ⟨a,rfl,ha⟩
  exact⟨a',e2,fun b hb=>by rw[e1];exact e3 _ ⟨b,rfl,hb⟩⟩
 refine⟨fun l h=>∃a,l=f a/\Q a h,fun l h=>if hx:∃a,l=f a/\Q a h then m (key l h hx).choose else 0,⟨a0,h0,hQ⟩,?_⟩
 intro vals H' _ hI
 obtain⟨⟨e1,e2⟩,e3⟩:=(key vals H' hI).choose_spec
 have hm:(if hx:∃a,vals=f a/\Q a H' then m (key vals H' hx).choose else 0)=m (key vals H' hI).choose:=dif_pos hI
 have h:=hs _ H' e2
 rw[<-e1]at h
 have e:=b1D (F:=fun _ _=>False) (nx:=nx) (nx':=nx) rfl (fun _ _ _ h=>h) (a:=fun l h=>∃b,m b<m (key vals H' hI).choose/\l=f b/\Q b h)
  (b:=fun l h=>(∃a,l=f a/\Q a h)/\(if hx:∃a,l=f a/\Q a h then m (key l h hx).choose else 0)<(if hx:∃a,vals=f a/\Q a H' then m (key vals H' hx).choose else 0)) (by
   rintro l h' ⟨b,hb1,hb2,hb3⟩
   have hx:∃a,l=f a/\Q a h':=⟨b,hb2,hb3⟩
   refine⟨hx,?_⟩
   rw[hm,dif_pos hx]
   exact Nat.lt_of_le_of_lt ((key l h' hx).choose_spec.2 b ⟨hb2,hb3⟩) hb1)
 exact c5d _ _ _ _ _ e.1 e.2 h
theorem a0W {ini:List SV} {t:Tree} {α:Type} (f:α->List Value) (Q:α->Prop) (m:α->Nat) (a0:α) (h0:ini.map (D P ρ)=f a0) (hQ:Q a0)
  (hs:∀a,Q a->den P G Xp t (nx++[fun l h=>∃b,m b<m a/\l=f b/\Q b/\h=H]) (ρ++f a) H):den P G Xp (.loop ini t) nx ρ H:=
 a0o f (fun a h=>Q a/\h=H) m a0 h0 ⟨hQ,rfl⟩ fun a H' ⟨h1,h2⟩=>by subst h2;exact hs a h1
theorem PH.le_put_of {H H':PH} {b:Nat} {o:Obj} (h:PH.le H H') (hb:H b=none):PH.le H (H'.put b o):=fun k ob hk=>by
 unfold PH.put
 split
 ·rename_i e;subst e;rw[hb]at hk;cases hk
 ·exact h k ob hk
theorem PH.le_put2 {H:PH} {b:Nat} (hb:H b=none) (o o2:Obj):PH.le H ((H.put b o).put b o2):=PH.le_put_of (PH.le_put hb _) hb
structure Sc (P:Program) (T:TypeId):Prop where
 has:a2h P T=true
 agg:a0F P T=false
 cel:P.cellsOf T=1
structure Ag (P:Program) (T:TypeId) (n:Nat):Prop where
 has:a2h P T=true
 agg:a0F P T=true
 cel:P.cellsOf T=n
structure Ar (P:Program) (T e:TypeId) (n:Nat):Prop where
 und:P.underlying T=some (.array n e)
 has:a2h P T=true
 agg:a0F P T=true
 cel:P.cellsOf T=n
 sc:Sc P e
section
variable {o o1 o2:Oper} {x y x2:Operand} {id i id2 i2:Nat} {args args2:List SV} {t:Tree} {pf:Bool} {b q:Nat} {T T' e:TypeId} {fz:Nat×Nat} {cs:Array Value} {u:Value} {n:Nat}
theorem a0g (hT:Sc P T) (ho:o.op= .load T x) (hx:a0k [x] [.pointer (some ⟨b,q,none⟩)] x= .pointer (some ⟨b,q,none⟩)) (hH:H b=some (.cells cs T' fz)) (hv:cs[q]? =some u) (ha:args.map (D P ρ)=[.pointer (some ⟨b,q,none⟩)]) (n:den P G Xp t nx (ρ++[u]) H):den P G Xp (.prim id i o args t) nx ρ H:=by
 have hq:=(Array.getElem?_eq_some_iff.1 hv).1
 have h:=a4l ho hx hH hT.has (by rw[hT.cel];omega) (fun _=>hq)
 rw[hT.agg]at h
 simp only[Bool.false_eq_true,if_false,Array.getD_eq_getD_getElem?,hv,Option.getD_some]at h
 exact a0l h ha n
theorem a0N {vs:List Value} (hT:Ag P T vs.length) (ho:o.op= .load T x) (hx:a0k [x] [.pointer (some ⟨b,q,none⟩)] x= .pointer (some ⟨b,q,none⟩)) (hH:H b=some (.cells cs T' fz)) (hv:(cs.toList.drop q).take vs.length=vs) (hq:q+vs.length<=cs.size) (ha:args.map (D P ρ)=[.pointer (some ⟨b,q,none⟩)]) (n:den P G Xp t nx (ρ++[.agg vs.toArray]) H):den P G Xp (.prim id i o args t) nx ρ H:=by
 have h:=a4l ho hx hH hT.has (by rw[hT.cel];exact hq) (fun h=>by rw[hT.agg]at h;cases h)
 rw[hT.agg,hT.cel]at h
 simp only[if_true]at h
 have:cs.extract q (q+vs.length)=vs.toArray:=by rw[<-Array.toList_inj,Array.toList_extract,List.extract_eq_take_drop,Nat.add_sub_cancel_left,hv]
 rw[this]at h
 exact a0l h ha n
theorem a1f (hT:Sc P T) (ho:o.op= .store T x y) (hx:a0k [x,y] [.pointer (some ⟨b,q,none⟩),u] x= .pointer (some ⟨b,q,none⟩)) (hy:a0k [x,y] [.pointer (some ⟨b,q,none⟩),u] y=u) (hH:H b=some (.cells cs T' (0,0))) (hq:q<cs.size) (hu:u.cells= #[u]) (h1:a3G u=true) (ha:args.map (D P ρ)=[.pointer (some ⟨b,q,none⟩),u]) (hpf:pf=true->PH.le H (H.put b (.cells (cs.setIfInBounds q u) T' (0,0))))
  (n:den P G Xp t nx (ρ++[undef]) (H.put b (.cells (cs.setIfInBounds q u) T' (0,0)))):den P G Xp (.eff pf id i o args t) nx ρ H:=by
 refine a0n (a3R ho hx hy hH hT.has (by rw[hT.cel];omega) (by rw[hu,hT.cel];rfl) (fun c hc=> ?_)) ha ?_
 ·rw[hu]at hc;simp at hc;subst hc;exact h1
 ·rintro v H' ⟨rfl,rfl⟩
  rw[hu]
  exact⟨hpf,n⟩
theorem c5e:∀(vs cs:List Value) (q:Nat) (a:Array Value),a.size=q+vs.length->(spl a q vs).toList=a.toList.take q++vs:=by
 intro vs
 induction vs with
 |nil=>intro cs q a h;simp only[spl];rw[List.take_of_length_le (by simp at h⊢;omega),List.append_nil]
 |cons v vs ih=>
  intro cs q a h
  simp only[spl]
  simp only[List.length_cons]at h
  rw[ih cs (q+1) _ (by simp;omega),Array.toList_setIfInBounds]
  rw[List.take_add_one,List.take_set_of_le (Nat.le_refl _),List.append_assoc]
  congr 1
  rw[List.getElem?_set_self (by simp;omega)];rfl
theorem a4V {vs:List Value} (hT:Ag P T vs.length) (ho:o.op= .store T x y) (hx:a0k [x,y] [.pointer (some ⟨b,0,none⟩),.agg vs.toArray] x= .pointer (some ⟨b,0,none⟩)) (hy:a0k [x,y] [.pointer (some ⟨b,0,none⟩),.agg vs.toArray] y= .agg vs.toArray) (hH:H b=some (.cells cs T' (0,0))) (hq:cs.size=vs.length) (h1:∀c∈vs,a3G c=true) (ha:args.map (D P ρ)=[.pointer (some ⟨b,0,none⟩),.agg vs.toArray]) (hpf:pf=true->PH.le H (H.put b (.cells vs.toArray T' (0,0))))
  (n:den P G Xp t nx (ρ++[undef]) (H.put b (.cells vs.toArray T' (0,0)))):den P G Xp (.eff pf id i o args t) nx ρ H:=by
 refine a0n (a3R ho hx hy hH hT.has (by rw[hT.cel];omega) (by rw[hT.cel];rfl) (fun c hc=>h1 c (by simpa[a1e]using hc))) ha ?_
 rintro v H' ⟨rfl,rfl⟩
 have:spl cs 0 (Value.agg vs.toArray).cells.toList=vs.toArray:=by
  rw[<-Array.toList_inj,a1e]
  have:=c5e vs [] 0 cs (by omega)
  simpa using this
 rw[this]
 exact⟨hpf,n⟩
theorem a5t {len m:Nat} {k:IntKind} (hT:Ar P T e len) (ho1:o1.op= .indexAddr T x y) (ho2:o2.op= .load e x2) (hx:a0k [x,y] [.pointer (some ⟨b,0,none⟩),.int k (m:Nat)] x= .pointer (some ⟨b,0,none⟩)) (hy:a0k [x,y] [.pointer (some ⟨b,0,none⟩),.int k (m:Nat)] y= .int k (m:Nat)) (hx2:a0k [x2] [.pointer (some ⟨b,m,none⟩)] x2= .pointer (some ⟨b,m,none⟩))
  (hH:H b=some (.cells cs T' fz)) (hm:m<len) (hv:cs[m]? =some u) (ha:args.map (D P ρ)=[.pointer (some ⟨b,0,none⟩),.int k (m:Nat)]) (ha2:args2.map (D P (ρ++[.pointer (some ⟨b,m,none⟩)]))=[.pointer (some ⟨b,m,none⟩)]) (n:den P G Xp t nx (ρ++[.pointer (some ⟨b,m,none⟩)]++[u]) H):den P G Xp (.prim id i o1 args (.prim id2 i2 o2 args2 t)) nx ρ H:=by
 have h:=(a5M (len:=len) (q:=0) ho1 hx hy hT.und hT.sc.has (by omega) (by omega)).rds H
 rw[hT.sc.cel,Int.toNat_natCast,Nat.zero_add,Nat.mul_one]at h
 exact a0l h ha (a0g hT.sc ho2 hx2 hH hv ha2 n)
structure FA (P:Program) (S:TypeId) (i off:Nat):Prop where
 und:P.underlying S=some (.struct (fieldsOf P S))
 lt:i<(fieldsOf P S).size
 off:(fieldAt P S i).offset=off
 has:a2h P (fieldAt P S i).type=true
 ne:P.cellsOf (fieldAt P S i).type≠0
theorem a0i {S i' off:Nat} (hF:FA P S i' off) (ho:o.op= .fieldAddr S x i') (hx:a0k [x] [.pointer (some ⟨b,q,none⟩)] x= .pointer (some ⟨b,q,none⟩)) (ha:args.map (D P ρ)=[.pointer (some ⟨b,q,none⟩)]) (n:den P G Xp t nx (ρ++[.pointer (some ⟨b,q+off,none⟩)]) H):den P G Xp (.prim id i o args t) nx ρ H:=
 a0l ((a2W ho hx hF.und hF.lt rfl hF.off hF.has hF.ne).rds H) ha n
theorem c7R {α:Type} {ce:α->List Value} {sz:Nat} {l:List α} (hH:H b=some (.cells cs T' fz)) (hl:cs.toList=l.flatMap ce) (hs:cs.size=l.length*sz) (hm:l.length<=maxLen):SE H sz ce (.slice (some ⟨b,0,none⟩) l.length l.length) l:=by
 refine⟨by rw[<-hl,Array.length_toList,hs],_,_,rfl,Nat.le_refl _,hm,.inr ⟨b,0,cs,T',fz,rfl,hH,?_⟩⟩
 rw[<-hl,List.drop_zero]
 exact List.take_of_length_le (by simp[hs])
end
theorem a0O {pf:Bool} {id i:Nat} {o:Oper} {args:List SV} {t:Tree} {vs:List Value} {v:Value} (hd:Run P o vs v) (ha:args.map (D P ρ)=vs) (n:den P G Xp t nx (ρ++[v]) H):den P G Xp (.eff pf id i o args t) nx ρ H:=
 a0n (hd.opn H) ha fun u H' ⟨h1,h2⟩=>by subst h1;subst h2;exact⟨fun _=>PH.le.refl _,n⟩
theorem a0A {T:TypeId} {c:SV} {t:Tree} {cs:Array Value} (hz:(D P ρ c).cells=cs) (n:∀b,H b=none->den P G Xp t nx (ρ++[.pointer (some ⟨b,0,none⟩)]) (H.put b (.cells cs T (0,0)))):den P G Xp (.pub T c t) nx ρ H:=by
 subst hz;exact n
def a1g (P:Program) (f:FuncId) (args:List Value) (H:PH) (v:Value):Prop:=Con P f args H fun u H'=>PH.le H H'/\u=v
theorem Asks.give {f:FuncId} {args:List Value} {v:Value} (h:Asks P f args H v):a1g P f args H v:=h.mono fun u H' ⟨h1,h2⟩=>by subst h1;exact⟨PH.le.refl _,h2⟩
theorem a0h {pf:Bool} {f:FuncId} {args:List SV} {t:Tree} {vs:List Value} {v:Value} (hd:a1g P f vs H v) (ha:args.map (D P ρ)=vs) (n:∀H',PH.le H H'->den P G Xp t nx (ρ++[v]) H'):den P G Xp (.call pf f args t) nx ρ H:=
 a0d hd ha fun u H' ⟨h1,h2⟩=>by subst h2;exact⟨fun _=>h1,n H' h1⟩
end
theorem a0u {P:Program} {H:PH} {G Xp:Value->PH->Prop} {nx:List (List Value->PH->Prop)} {ρ:List Value} {t:Tree} {id i:Nat} {o:Oper} {x:Operand} {args:List SV} {ad:Addr} (ho:o.op= .nilCheck x) (hx:a0k [x] [.pointer (some ad)] x= .pointer (some ad)) (ha:args.map (D P ρ)=[.pointer (some ad)]) (n:den P G Xp t nx (ρ++[.pointer (some ad)]) H):den P G Xp (.prim id i o args t) nx ρ H:=
 a0l ((b1j ho hx).rds H) ha n
end Go.RX
/- Words as sets, part 3: how many; the terms of the code. -/
namespace Go.RX
open Go.RowKit Go.GS
section
variable {P:Program} {ρ:List Value} {a b:SV} {A B:Nat}
theorem b6Y (ha:D P ρ a=uv A) (hb:D P ρ b=uv B) (hA:A<M64) (hB:B<M64):D P ρ (.op2 .or .u64 a b)=uv (A|||B):=by
 show a2U .or .u64 (intOf (D P ρ a)) (intOf (D P ρ b))=_
 rw[ha,hb]
 show Value.int .u64 _= .int .u64 _
 congr 1
 exact Go.GS.u64_or hA hB
theorem a8B (ha:D P ρ a=uv A) (hb:D P ρ b=uv B) (hA:A<M64) (hB:B<M64):D P ρ (.op2 .and .u64 a b)=uv (A&&&B):=by
 show a2U .and .u64 (intOf (D P ρ a)) (intOf (D P ρ b))=_
 rw[ha,hb]
 show Value.int .u64 _= .int .u64 _
 congr 1
 exact Go.GS.u64_and hA hB
theorem a7Q (ha:D P ρ a=uv A) (hb:D P ρ b=uv B) (hA:A<M64) (hB:B<M64):D P ρ (.op2 .andNot .u64 a b)=uv (sdf A B):=by
 show a2U .andNot .u64 (intOf (D P ρ a)) (intOf (D P ρ b))=_
 rw[ha,hb]
 show Value.int .u64 _= .int .u64 _
 congr 1
 exact Go.GS.u64_andn hA hB
theorem d4F {n:Nat} {k:IntKind} (ha:D P ρ a=uv A) (hb:D P ρ b= .int k (n:Nat)) (hn:n<64):D P ρ (.op2 .shl .u64 a b)=uv (A*2^n%M64):=by
 show a2U .shl .u64 (intOf (D P ρ a)) (intOf (D P ρ b))=_
 rw[ha,hb]
 show Value.int .u64 _= .int .u64 _
 congr 1
 exact Go.GS.u64_shl hn
theorem a6C {n:Nat} {k:IntKind} (hb:D P ρ b= .int k (n:Nat)) (hn:n<64):D P ρ (.op2 .shl .u64 (.k (.int .u64 1)) b)=uv (2^n):=by
 rw[d4F (A:=1) rfl hb hn,d0q hn]
theorem a9e (ha:D P ρ a=uv A) (hb:D P ρ b=uv B) (hA:A<M64) (h:B<=A):D P ρ (.op2 .sub .u64 a b)=uv (A-B):=by
 show a2U .sub .u64 (intOf (D P ρ a)) (intOf (D P ρ b))=_
 rw[ha,hb]
 show Value.int .u64 _= .int .u64 _
 congr 1
 exact Go.GS.u64_sub hA h
theorem b9l (ha:D P ρ a=uv A) (hA:A<M64):D P ρ (.op1 .neg .u64 a)=uv ((M64-A)%M64):=by
 show unV .neg .u64 (intOf (D P ρ a))=_
 rw[ha]
 show Value.int .u64 _= .int .u64 _
 congr 1
 exact Go.GS.u64_neg hA
theorem a3I {x y:Int} (ha:D P ρ a=ii x) (hb:D P ρ b=ii y) (h1: -9223372036854775808<=x+y) (h2:x+y<9223372036854775808):D P ρ (.op2 .add .i64 a b)=ii (x+y):=by
 show a2U .add .i64 (intOf (D P ρ a)) (intOf (D P ρ b))=_
 rw[ha,hb]
 show Value.int .i64 (IntKind.i64.wrap (x+y))= .int .i64 _
 congr 1
 rw[IntKind.wrap_i64];omega
theorem a7R {x y:Int} (ha:D P ρ a=ii x) (hb:D P ρ b=ii y) (h1: -9223372036854775808<=x-y) (h2:x-y<9223372036854775808):D P ρ (.op2 .sub .i64 a b)=ii (x-y):=by
 show a2U .sub .i64 (intOf (D P ρ a)) (intOf (D P ρ b))=_
 rw[ha,hb]
 show Value.int .i64 (IntKind.i64.wrap (x-y))= .int .i64 _
 congr 1
 rw[IntKind.wrap_i64];omega
theorem a0J {n:Nat} (ha:D P ρ a=ii (n:Nat)) (h:n+1<9223372036854775808):D P ρ (.op2 .add .i64 a (.k (.int .i64 1)))=ii ((n+1:Nat):Int):=by
 rw[a3I ha (y:=1) rfl (by omega) (by omega)];rfl
end
theorem a1R {P:Program} {ρ:List Value} {a:SV} {x:Value} (h:D P ρ a=x):[a].map (D P ρ)=[x]:=by rw[List.map_cons,h];rfl
theorem a0R {P:Program} {ρ:List Value} {a b:SV} {x y:Value} (h:D P ρ a=x) (h2:D P ρ b=y):[a,b].map (D P ρ)=[x,y]:=by rw[List.map_cons,h,a1R h2]
theorem b2K {P:Program} {ρ:List Value} {a b c:SV} {x y z:Value} (h:D P ρ a=x) (h2:D P ρ b=y) (h3:D P ρ c=z):[a,b,c].map (D P ρ)=[x,y,z]:=by rw[List.map_cons,h,a0R h2 h3]
theorem b6Z {P:Program} {ρ:List Value} {a b c d:SV} {x y z u:Value} (h:D P ρ a=x) (h2:D P ρ b=y) (h3:D P ρ c=z) (h4:D P ρ d=u):[a,b,c,d].map (D P ρ)=[x,y,z,u]:=by rw[List.map_cons,h,b2K h2 h3 h4]
end Go.RX
/- Chapter 32: contracts of the library, part 2. -/
namespace Go.Proofs.YtlmgkkjgdapnpaaGreatDoor
open Go.Proofs.Tryz
open Go.RowKit Go.RX Go.GS
theorem b4E (x:Int):Det prog 217 [ii x] (.bool false):=by
 refine a0H mixed d0e (by kernel_rfl) rfl (a0v ⟨_,rfl⟩ (a0Z ?_ rfl))
 show Value.bool (x !=x)=_
 simp
def b6t (x y:Int):Int:=if x<y then -1 else if x>y then 1 else 0
theorem c5f (x y:Int):Det prog 161 [ii x,ii y] (ii (b6t x y)):=by
 refine a0H mixed d0d (by kernel_rfl) rfl (a1l (b4E x) rfl (a1l (b4E y) rfl ?_))
 refine a0v ⟨_,rfl⟩ (a9L rfl (a0v ⟨_,rfl⟩ (a9L rfl (a0v ⟨_,rfl⟩ (a0v ⟨_,rfl⟩ ?_)))))
 refine a1I (b:=decide (x<y)) rfl (fun h=> ?_) (fun h=> ?_)
 ·have h:=of_decide_eq_true h
  refine a0Z ?_ rfl
  unfold b6t;rw[if_pos h];rfl
 ·have h:=of_decide_eq_false h
  refine a1I (b:=decide (x>y)) rfl (fun h'=>a0Z ?_ rfl) (fun h'=>a0Z ?_ rfl)
  ·have h':=of_decide_eq_true h'
   unfold b6t;rw[if_neg h,if_pos h'];rfl
  ·have h':=of_decide_eq_false h'
   unfold b6t;rw[if_neg h,if_neg h'];rfl
abbrev SI (H:PH) (v:Value) (l:List Int):Prop:=SE H 1 (fun z:Int=>[ii z]) v l
abbrev SU (H:PH) (v:Value) (l:List Nat):Prop:=SE H 1 (fun s:Nat=>[uv s]) v l
def b9m:List Int->List Int->Int
 |[],[]=>0
 |[],_::_=> -1
 |_::_,[]=>1
 |x::l,y::m=>if b6t x y≠0 then b6t x y else b9m l m
theorem a0t {α:Type} {l:List α} {i:Nat} (h:i<l.length):∃x,l[i]? =some x/\l.drop i=x::l.drop (i+1):=
 ⟨l[i],List.getElem?_eq_getElem h,List.drop_eq_getElem_cons h⟩
section
variable {H:PH} {u v:Value} {l m:List Int}
theorem c5g (hu:SI H u l) (hv:SI H v m):Asks prog 114 [u,v] H (ii (b9m l m)):=by
 refine a0b mixed d0c (by kernel_rfl) rfl ?_
 have hl:=hu.len
 have hm:=hv.len
 refine a0j el_int rfl rfl hu rfl ?_
 refine a0W (α:=Nat×Int) (fun⟨i,p⟩=>[ii p,ii (i:Nat)]) (fun⟨i,p⟩=>i<=l.length/\b9m (l.drop i) (m.drop i)=b9m l m) (fun⟨i,p⟩=>l.length-i) ((0,0)) rfl (⟨Nat.zero_le _,rfl⟩) fun⟨i,p⟩ hQ=> ?_
 simp only[cA,nA]
 obtain⟨hi,hc⟩:=hQ
 refine a0a ⟨_,rfl⟩ ?_
 refine a0a ⟨_,rfl⟩ ?_
 refine a0f (b:=decide (((i:Nat):Int)<(l.length:Nat))) rfl (fun h=> ?_) (fun h=> ?_)
 ·replace h:=of_decide_eq_true h
  have hi':i<l.length:=by omega
  obtain⟨x,hx,hdx⟩:=a0t hi'
  refine a0m el_int rfl rfl rfl rfl (fun _=>rfl) hu hx rfl (fun _=>rfl) fun _=> ?_
  simp only[cA,nA]
  refine a0j el_int rfl rfl hv rfl ?_
  refine a0a ⟨_,rfl⟩ ?_
  refine a0f (b:=decide (((i:Nat):Int)≥(m.length:Nat))) rfl (fun h2=> ?_) (fun h2=> ?_)
  ·replace h2:=of_decide_eq_true h2
   have:m.drop i=[]:=List.drop_eq_nil_of_le (by omega)
   rw[hdx,this]at hc
   exact a0c rfl ⟨rfl,by rw[<-hc];rfl⟩
  ·replace h2:=of_decide_eq_false h2
   obtain⟨y,hy,hdy⟩:=a0t (l:=m) (i:=i) (by omega)
   refine a0m el_int rfl rfl rfl rfl (fun _=>rfl) hv hy rfl (fun _=>rfl) fun _=> ?_
   simp only[cA,nA]
   rw[hdx,hdy]at hc
   refine a1o (c5f x y) rfl ?_
   simp only[cA,nA]
   refine a0a ⟨_,rfl⟩ ?_
   refine a0f (b:=decide (b6t x y≠0)) (by show Value.bool (b6t x y !=0)=_;congr 1;by_cases e:b6t x y=0<;>simp[e]) (fun h3=> ?_) (fun h3=> ?_)
   ·replace h3:=of_decide_eq_true h3
    exact a0c rfl ⟨rfl,by rw[<-hc];simp only[b9m];rw[if_pos h3];rfl⟩
   ·replace h3:=of_decide_eq_false h3
    exact⟨(i+1,p),by show l.length-(i+1)<l.length-i;omega,(a0R rfl (a0J rfl (by omega))),⟨⟨by show i+1<=_;omega,by rw[<-hc];simp only[b9m];rw[if_neg h3]⟩,rfl⟩⟩
 ·replace h:=of_decide_eq_false h
  have hle:i=l.length:=by omega
  subst hle
  rw[List.drop_length]at hc
  refine a0j el_int rfl rfl hu rfl ?_
  refine a0j el_int rfl rfl hv rfl ?_
  refine a0a ⟨_,rfl⟩ ?_
  refine a0a ⟨_,rfl⟩ ?_
  refine a0f (b:=decide (((l.length:Nat):Int)<(m.length:Nat))) rfl (fun h2=> ?_) (fun h2=> ?_)
  ·replace h2:=of_decide_eq_true h2
   obtain⟨y,hy,hdy⟩:=a0t (l:=m) (i:=l.length) (by omega)
   rw[hdy]at hc
   exact a0c rfl ⟨rfl,by rw[<-hc];rfl⟩
  ·replace h2:=of_decide_eq_false h2
   have:m.drop l.length=[]:=List.drop_eq_nil_of_le (by omega)
   rw[this]at hc
   exact a0c rfl ⟨rfl,by rw[<-hc];rfl⟩
end
end Go.Proofs.YtlmgkkjgdapnpaaGreatDoor
/- Graphs. -/
namespace Go.GS
def elt (a b:Nat×Nat):Prop:=a.1<b.1\/(a.1=b.1/\a.2<b.2)
structure GV (n:Nat) (es:List (Nat×Nat)):Prop where
 n1:1<=n
 n64:n<=64
 len:es.length<=200
 ed:∀e∈es,e.1<e.2/\e.2<n
 ord:es.Pairwise elt
theorem GV.next {n:Nat} {es:List (Nat×Nat)} (h:GV n es) {i:Nat} {a b:Nat×Nat} (ha:es[i]? =some a) (hb:es[i+1]? =some b):elt a b:=by
 obtain⟨h1,rfl⟩:=List.getElem?_eq_some_iff.1 ha
 obtain⟨h2,rfl⟩:=List.getElem?_eq_some_iff.1 hb
 exact List.pairwise_iff_getElem.1 h.ord i (i+1) h1 h2 (by omega)
theorem GV.mem {n:Nat} {es:List (Nat×Nat)} (h:GV n es) {i:Nat} {a:Nat×Nat} (ha:es[i]? =some a):a.1<a.2/\a.2<n:=h.ed a (List.mem_of_getElem? ha)
end Go.GS

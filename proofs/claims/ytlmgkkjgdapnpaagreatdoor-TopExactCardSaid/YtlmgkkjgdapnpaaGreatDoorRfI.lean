/- Slices of words in memory. -/
import Derived.Test.YtlmgkkjgdapnpaaGreatDoorRfC
import Derived.Test.YtlmgkkjgdapnpaaGreatDoorWdT
namespace Go.Proofs.YtlmgkkjgdapnpaaGreatDoor
open Go.Proofs.Tryz
open Go.RowKit Go.RX Go.WD
def uv (d:Nat):Value:= .int .u64 (d:Nat)
theorem d4h (f:Nat->Value) (d:Nat):Instr.fill (fun j=>some (j*1,1)) ((Array.range (1*1)).map f) [(0,uv d)]=some #[uv d]:=by
 rw[d4a]
 simp[Instr.fill,uv,b1h]
def Es (H:PH) (v:Value) (l:List Nat):Prop:=Sl H 1 v l.length (l.map uv)/\Eg l
def Eo (H0 H:PH) (v:Value) (l:List Nat):Prop:=OwS H0 H 57 1 v l.length (l.map uv)/\Eg l
theorem Es.mono {H H':PH} {v:Value} {l:List Nat} (h:Es H v l) (hl:PH.le H H'):Es H' v l:=⟨h.1.mono hl,h.2⟩
theorem Eo.mono {H0 H H':PH} {v:Value} {l:List Nat} (h:Eo H0 H v l) (hl:PH.le H H'):Eo H0 H' v l:=⟨h.1.mono hl,h.2⟩
theorem Eo.es {H0 H:PH} {v:Value} {l:List Nat} (h:Eo H0 H v l):Es H v l:=⟨h.1.sl,h.2⟩
def Mu (H:PH) (v:Value) (n:Nat):Prop:=∃l,Es H v l/\Um l/\ul l=n
theorem Mu.mono {H H':PH} {v:Value} {n:Nat} (h:Mu H v n) (hl:PH.le H H'):Mu H' v n:=by
 obtain⟨l,h1,h2⟩:=h;exact⟨l,h1.mono hl,h2⟩
theorem Es.cells {H:PH} {v:Value} {l:List Nat} (h:Es H v l):v.cells= #[v]:=by
 obtain⟨⟨_,a,c,h2,_⟩,_⟩:=h;rw[h2];rfl
theorem Es.one {H:PH} {v:Value} {l:List Nat} (h:Es H v l):v.cells.size=1/\a0p v.cells:=by
 rw[h.cells]
 obtain⟨⟨_,a,c,h2,_⟩,_⟩:=h
 refine⟨rfl,fun c hc=> ?_⟩
 simp at hc;rw[hc,h2];rfl
theorem d4i {l:List Nat} {i:Nat} (h:i<l.length):((l.map uv).drop (i*1)).take 1=[uv (l.getD i 0)]:=by
 rw[Nat.mul_one,<-List.map_drop,a9T h];rfl
theorem a3e:prog.cellsOf 57=1:=by kernel_rfl
theorem a2n:a2h prog 57=true:=by kernel_rfl
theorem b8y:a0F prog 57=false:=by kernel_rfl
theorem a2o:prog.underlying 111=some (.slice 57):=by kernel_rfl
theorem a6K:∃i,prog.info? 57=some i/\i.zero=some (.int .u64 0)/\i.size=1/\i.bytes=8:=by
 refine⟨(prog.info? 57).getD default,by kernel_rfl,by kernel_rfl,by kernel_rfl,by kernel_rfl⟩
section
variable {G Xp:Value->PH->Prop} {nx:List (List Value->PH->Prop)} {ρ:List Value} {H H0:PH} {o o1 o2:Oper} {x y x2 y2:Operand} {id i id2 i2:Nat} {args args2:List SV} {t:Tree} {v:Value} {l:List Nat}
theorem a0E (ho:o.op= .call ⟨.builtin .len,#[x],#[111]⟩) (hx:a0k [x] [v] x=v) (h:Es H v l) (ha:args.map (D prog ρ)=[v]) (n:den prog G Xp t nx (ρ++[iv l.length]) H):den prog G Xp (.prim id i o args t) nx ρ H:=
 a0l ((b7Z ho hx a2o h.1).rds H) ha n
theorem a1m {k:IntKind} {j:Nat} (ho1:o1.op= .indexAddr 111 x y) (ho2:o2.op= .load 57 x2) (hx:a0k [x,y] [v,.int k (j:Nat)] x=v) (hy:a0k [x,y] [v,.int k (j:Nat)] y= .int k (j:Nat)) (hx2:∀p,a0k [x2] [p] x2=p) (h:Es H v l) (hj:j<l.length)
  (ha:args.map (D prog ρ)=[v,.int k (j:Nat)]) (ha2:∀p,args2.map (D prog (ρ++[p]))=[p]) (n:∀p,den prog G Xp t nx (ρ++[p]++[uv (l.getD j 0)]) H):den prog G Xp (.prim id i o1 args (.prim id2 i2 o2 args2 t)) nx ρ H:=by
 obtain⟨b,q,cs,T',fz,h1,h2,h3,h4⟩:=c9d (P:=prog) ho1 hx hy a2o a2n a3e Nat.zero_lt_one h.1 hj
 rw[d4i hj]at h4
 exact a0l (h1.rds H) ha (a0l (a9P ho2 (hx2 _) h2 a2n b8y a3e h3 h4) (ha2 _) (n _))
theorem a2p {k:IntKind} {j d:Nat} {pf:Bool} (ho1:o1.op= .indexAddr 111 x y) (ho2:o2.op= .store 57 x2 y2) (hx:a0k [x,y] [v,.int k (j:Nat)] x=v) (hy:a0k [x,y] [v,.int k (j:Nat)] y= .int k (j:Nat)) (hx2:∀p,a0k [x2,y2] [p,uv d] x2=p) (hy2:∀p,a0k [x2,y2] [p,uv d] y2=uv d)
  (hle:PH.le H0 H) (h:Eo H0 H v l) (hj:j<l.length) (hd:d<18446744073709551616) (ha:args.map (D prog ρ)=[v,.int k (j:Nat)]) (ha2:∀p,args2.map (D prog (ρ++[p]))=[p,uv d]) (hpf:pf=false)
  (n:∀p u H',PH.le H0 H'->Eo H0 H' v (l.set j d)->(∃g ob,H0 g=none/\H'=H.put g ob)->den prog G Xp t nx (ρ++[p]++[u]) H'):den prog G Xp (.prim id i o1 args (.eff pf id2 i2 o2 args2 t)) nx ρ H:=by
 obtain⟨⟨hlen,hv⟩,hD⟩:=h
 rcases hv with⟨_,h0⟩|⟨g,cap,cur,rfl,hg0,hg,hnc,hcm,hcs,htk⟩
 ·omega
 rw[Nat.mul_one]at hcs htk
 have hix:=a5N (P:=prog) (m:=(j:Int)) (n:=l.length) ho1 hx hy a2o a2n (by omega) (by omega)
 rw[Int.toNat_natCast,a3e,Nat.zero_add,Nat.mul_one]at hix
 refine a0l (hix.rds H) ha (a0n (a3R ho2 (hx2 _) (hy2 _) hg a2n (by rw[a3e];omega) (by rw[a3e];rfl) (b3k _ _)) (ha2 _) ?_)
 rintro u H' ⟨rfl,rfl⟩
 subst hpf
 have hcl:(uv d).cells.toList=[uv d]:=rfl
 rw[hcl]
 refine⟨fun h=>(nomatch h),n _ _ _ ?_ ⟨⟨by simp,.inr ⟨g,cap,_,by rw[List.length_set],hg0,PH.put_self _ _ _,by rw[List.length_set];exact hnc,hcm,?_,?_⟩⟩,hD.set j hd⟩ ⟨g,_,hg0,rfl⟩⟩
 ·intro k ob hk
  rw[PH.put_ne _ _ (fun e=>by rw[e,hg0]at hk;cases hk)]
  exact hle _ _ hk
 ·show(cur.setIfInBounds j (uv d)).size=_
  rw[Array.size_setIfInBounds,hcs,Nat.mul_one]
 ·show(cur.setIfInBounds j (uv d)).toList.take _=_
  rw[Array.toList_setIfInBounds,Nat.mul_one,List.length_set,List.take_set,htk,List.map_set]
theorem c7M {g n:Nat} {cs:Array Value} {l:List Nat} (hg:H g=none) (hl:l.length=n) (hn:n<=maxLen) (hc:cs.toList=l.map uv) (hD:Eg l):Eo H (H.put g (.cells cs 57 (0,0))) (.slice (some ⟨g,0,none⟩) n n) l:=by
 have hs:cs.size=n:=by rw[<-Array.length_toList,hc,List.length_map,hl]
 refine⟨⟨by simp,.inr ⟨g,n,cs,by rw[hl],hg,PH.put_self _ _ _,by omega,hn,by omega,?_⟩⟩,hD⟩
 rw[hc,List.take_of_length_le (by simp)]
theorem a3W {kl kc:IntKind} {pf:Bool} {m:Nat} (ho:o.op= .makeSlice 111 x y) (hx:a0k [x,y] [.int kl (m:Nat),.int kc (m:Nat)] x= .int kl (m:Nat)) (hy:a0k [x,y] [.int kl (m:Nat),.int kc (m:Nat)] y= .int kc (m:Nat)) (hm:m<=1000000) (ha:args.map (D prog ρ)=[.int kl (m:Nat),.int kc (m:Nat)])
  (n:∀v H',PH.le H H'->Eo H H' v (List.replicate m 0)->den prog G Xp t nx (ρ++[v]) H'):den prog G Xp (.eff pf id i o args t) nx ρ H:=by
 obtain⟨ti,h1,h2,h3,h4⟩:=a6K
 refine a0n (b8b ho hx hy a2o h1 h2 h3 (by rw[h4];omega) (by simp only[maxLen];omega)) ha ?_
 rintro v H' ⟨g,hg,rfl,rfl⟩
 refine⟨fun _=>PH.le_put hg _,n _ _ (PH.le_put hg _) (c7M hg (by simp) (by simp only[maxLen];omega) ?_ (Eg.zeros m))⟩
 rw[Nat.mul_one]
 show(madeCells #[.int .u64 0] m).toList=_
 apply List.ext_getElem?
 intro j
 rw[List.getElem?_map,List.getElem?_replicate]
 simp only[madeCells,Array.toList_map,List.getElem?_map,Array.toList_range]
 by_cases hj:j<m
 ·simp[hj,Nat.mod_one,uv]
 ·simp[hj]
theorem a7B {d:Nat} {pf:Bool} (ho:o.op= .buildSlice 111 1 #[(0,x)]) (hx:a0k [x] [uv d] x=uv d) (hd:d<18446744073709551616) (ha:args.map (D prog ρ)=[uv d])
  (n:∀v H',PH.le H H'->Eo H H' v [d]->den prog G Xp t nx (ρ++[v]) H'):den prog G Xp (.eff pf id i o args t) nx ρ H:=by
 obtain⟨ti,h1,h2,h3,h4⟩:=a6K
 refine a0n (a9Q (cells:= #[uv d]) ho a2o h1 h2 (by rw[h3];decide) (by rw[h3];decide) (by rw[h3];simp only[List.map_cons,List.map_nil,hx];exact d4h _ d)) ha ?_
 rintro v H' ⟨g,hg,rfl,rfl⟩
 exact⟨fun _=>PH.le_put hg _,n _ _ (PH.le_put hg _) (c7M hg rfl (by simp only[maxLen];omega) rfl (Eg.one hd))⟩
end
end Go.Proofs.YtlmgkkjgdapnpaaGreatDoor
/- MADE BY rxgen.py: the trees of wide/long.go. -/
namespace Go.Proofs.YtlmgkkjgdapnpaaGreatDoor
open Go.Proofs.Tryz
open Go.RowKit Go.RX
theorem c4x:a0w prog [] [] [⟨3,2,[17],[]⟩,⟨0,2,[],[]⟩] [] 149=some (.pm f149 1 1 [V1]
(.loop [V2]
(.join 1
(.ri V3
(.br (.io .gtr V3 (.ki 0))
(.pm f149 2 6 [V1,(.io .sub V3 (.ki 1))]
(.pm f149 2 7 [V4]
(.ru V5
(.next 1 [(.uo .eql V5 (.k (.int .u64 (0))))]))))
(.next 1 [(.k (.bool false))])))
(.rq (.bool V4)
(.br V4
(.ri V3
(.next 0 [(.io .sub V3 (.ki 1))]))
(.rq (.bool V0)
(.br V0
(.ri V3
(.pm f149 4 7 [V1,V3]
(.rq (.cells 1 V5)
(.ret [(.cat (.io .gtr V3 (.ki 0)) 1 V5)]))))
(.pm f149 4 7 [V1,V3]
(.rq (.cells 1 V5)
(.ret [(.cat (.k (.bool false)) 1 V5)])))))))))):=by kernel_rfl
theorem b1t:(opr f149 4 7).op= .slice 111 (.tmp 25) none (some (.tmp 26)) none:=by kernel_rfl
theorem b6f:a0w prog [3] [] [] [⟨2,[0,1,0,0,8,28,63,127],[1,1,2,1,1,2,2,6],[0,0,0,0,0,0,0,1],[0,1,3,4,2,5,6],[7]⟩] 103=some (.rq (.cells 8 V0)
(.call false 119 [(.ag V0)]
(.pub 220 (.z 220)
(.ef false f103 1 3 [V2,V1]
(.pm f103 2 0 [V2]
(.pm f103 2 1 [V4]
(.pm f103 2 3 [V2]
(.pm f103 2 4 [V6]
(.ef true f103 2 2 []
(.ef true f103 2 5 [V8,V7]
(.call true 149 [V5,V9]
(.rq (.cells 2 V10)
(.ret [(.ag V10)]))))))))))))):=by kernel_rfl
theorem c4y:a0w prog [] [] [] [] 99=some (.call false 24 [V0]
(.call false 103 [V1]
(.rq (.cells 2 V2)
(.ret [(.ag V2)])))):=by kernel_rfl
theorem c4z:a0w prog [4] [] [] [⟨4,[0,1,0,4,15],[1,1,1,1,4],[0,0,0,0,0],[0,1,2,3],[4]⟩] 106=some (.rq (.cells 2 V0)
(.pm f106 1 2 [(.cell V0 1 0 noI)]
(.ri V1
(.br (.io .gtr V1 (.ki 8))
(.ret [(.z 59),(.ki 6)])
(.rq (.cells 1 (.cell V0 0 0 noI))
(.pub 220 (.z 220)
(.ef false f106 3 4 [V2,(.cat (.cell V0 0 0 noI) 1 (.z 218))]
(.pm f106 4 0 [V2]
(.pm f106 4 1 [V4]
(.ef false f106 4 4 [V5,(.cell V0 1 0 noI)]
(.pm f106 5 0 [V2]
(.call false 120 [V7]
(.rq (.tup 0 V8)
(.rq (.tup 1 V8)
(.rq (.cells 8 (.proj V8 0))
(.ret [(.ag (.proj V8 0)),(.proj V8 1)])))))))))))))))):=by kernel_rfl
theorem b1u:(opr f106 3 4).op= .store 220 (.tmp 4) (.tmp 12):=by kernel_rfl
theorem c9D:a0w prog [] [] [⟨0,4,[],[]⟩] [⟨6,[0,0,3,7,0,0,48,112,255,511],[0,0,1,1,0,0,1,1,0,0],[0,0,0,0,0,0,0,0,0,0],[0,1,2,3,4,5,6,7,8,9],[]⟩,⟨8,[0,0,3,7,0,0,48,112,255,511],[0,0,1,1,0,0,1,1,0,0],[0,0,0,0,0,0,0,0,0,0],[0,1,2,3,4,5,6,7,8,9],[]⟩] 153=some (.pm f153 1 1 [V0]
(.pm f153 1 3 [V1]
(.ri V2
(.ri V3
(.br (.io .neq V2 V3)
(.pm f153 2 1 [V0]
(.pm f153 2 3 [V1]
(.ri V4
(.ri V5
(.ret [(.io .sub V4 V5)])))))
(.pm f153 3 1 [V0]
(.ri V4
(.loop [(.ki 0),(.io .sub V4 (.ki 1))]
(.ri V6
(.br (.io .geq V6 (.ki 0))
(.pm f153 6 2 [V0,V6]
(.pm f153 6 3 [V7]
(.pm f153 6 6 [V1,V6]
(.pm f153 6 7 [V9]
(.ru V8
(.ru V10
(.br (.uo .lss V8 V10)
(.ret [(.k (.int .i64 (-1)))])
(.pm f153 8 2 [V0,V6]
(.pm f153 8 3 [V11]
(.pm f153 8 6 [V1,V6]
(.pm f153 8 7 [V13]
(.ru V12
(.ru V14
(.br (.uo .gtr V12 V14)
(.ret [(.ki 1)])
(.next 0 [V5,(.io .sub V6 (.ki 1))])))))))))))))))
(.ret [(.ki 0)]))))))))))):=by kernel_rfl
theorem c9E:a0w prog [] [] [⟨2,14,[0,1],[]⟩,⟨2,31,[9],[]⟩,⟨0,6,[],[]⟩] [] 152=some (.pm f152 1 1 [V0]
(.pm f152 1 3 [V1]
(.ri V2
(.ri V3
(.join 2
(.br (.io .lss V2 V3)
(.next 0 [V1,V0])
(.next 0 [V0,V1]))
(.pm f152 3 1 [V4]
(.ri V6
(.ef false f152 3 3 [(.io .add V6 (.ki 1)),(.io .add V6 (.ki 1))]
(.pm f152 5 1 [V4]
(.loop [(.k (.int .u64 (0))),(.ki 0)]
(.ri V10
(.ri V8
(.br (.io .lss V10 V8)
(.pm f152 7 1 [V4,V10]
(.pm f152 7 2 [V11]
(.pm f152 9 2 [V5]
(.ri V13
(.join 1
(.br (.io .lss V10 V13)
(.pm f152 10 2 [V5,V10]
(.pm f152 10 3 [V14]
(.next 1 [V15])))
(.next 1 [(.k (.int .u64 (0)))]))
(.ext 209 [V12,V14,V9]
(.rq (.tup 0 V15)
(.rq (.tup 1 V15)
(.pm f152 11 9 [V7,V10]
(.ef false f152 11 10 [V16,(.proj V15 0)]
(.next 0 [(.proj V15 1),(.io .add V10 (.ki 1))])))))))))))
(.pm f152 13 2 [V4]
(.pm f152 13 4 [V7,V11]
(.ef false f152 13 5 [V12,V9]
(.ret [V7]))))))))))))))))):=by kernel_rfl
theorem c4A:a0w prog [] [] [⟨2,23,[9],[]⟩,⟨0,4,[],[]⟩] [] 154=some (.pm f154 1 1 [V0]
(.ef false f154 1 2 [V2,V2]
(.pm f154 3 1 [V0]
(.loop [(.k (.int .u64 (0))),(.ki 0)]
(.ri V6
(.ri V4
(.br (.io .lss V6 V4)
(.pm f154 5 1 [V0,V6]
(.pm f154 5 2 [V7]
(.pm f154 7 2 [V1]
(.ri V9
(.join 1
(.br (.io .lss V6 V9)
(.pm f154 8 2 [V1,V6]
(.pm f154 8 3 [V10]
(.next 1 [V11])))
(.next 1 [(.k (.int .u64 (0)))]))
(.ext 210 [V8,V10,V5]
(.rq (.tup 0 V11)
(.rq (.tup 1 V11)
(.pm f154 9 9 [V3,V6]
(.ef false f154 9 10 [V12,(.proj V11 0)]
(.next 0 [(.proj V11 1),(.io .add V6 (.ki 1))])))))))))))
(.ret [V3])))))))):=by kernel_rfl
theorem c9F:a0w prog [] [] [⟨0,3,[],[]⟩,⟨0,7,[],[]⟩] [] 150=some (.pm f150 1 1 [V0]
(.pm f150 1 3 [V1]
(.ri V2
(.ri V3
(.ef false f150 1 5 [(.io .add V2 V3),(.io .add V2 V3)]
(.pm f150 2 1 [V0]
(.loop [(.ki 0)]
(.ri V6
(.ri V5
(.br (.io .lss V6 V5)
(.pm f150 4 1 [V0,V6]
(.pm f150 4 2 [V7]
(.pm f150 6 1 [V1]
(.loop [(.k (.int .u64 (0))),(.ki 0)]
(.ri V11
(.ri V9
(.br (.io .lss V11 V9)
(.pm f150 8 1 [V1,V11]
(.pm f150 8 2 [V12]
(.call false 208 [V8,V13]
(.rq (.tup 0 V14)
(.rq (.tup 1 V14)
(.pm f150 10 4 [V4,(.io .add V6 V11)]
(.pm f150 10 5 [V15]
(.ext 209 [V16,(.proj V14 1),(.k (.int .u64 (0)))]
(.rq (.tup 0 V17)
(.rq (.tup 1 V17)
(.ext 209 [(.proj V17 0),V10,(.k (.int .u64 (0)))]
(.rq (.tup 0 V18)
(.rq (.tup 1 V18)
(.rq (.int .u64 (.proj V14 0))
(.rq (.int .u64 (.proj V17 1))
(.rq (.int .u64 (.proj V18 1))
(.pm f150 12 10 [V4,(.io .add V6 V11)]
(.ef false f150 12 11 [V19,(.proj V18 0)]
(.next 1 [(.uo .add (.uo .add (.proj V14 0) (.proj V17 1)) (.proj V18 1)),(.io .add V11 (.ki 1))])))))))))))))))))))
(.pm f150 14 3 [V1]
(.ri V12
(.pm f150 14 6 [V4,(.io .add V6 V12)]
(.ef false f150 14 7 [V13,V10]
(.next 0 [(.io .add V6 (.ki 1))]))))))))))))
(.ret [V4]))))))))))):=by kernel_rfl
theorem c9G:a0w prog [] [] [] [] 249=some (.pm f249 1 1 [V0]
(.ri V1
(.br (.io .eql V1 (.ki 0))
(.ret [(.ki 0)])
(.pm f249 3 1 [V0]
(.ri V2
(.pm f249 3 5 [V0]
(.ri V3
(.pm f249 3 7 [V0,(.io .sub V3 (.ki 1))]
(.pm f249 3 8 [V4]
(.call false 266 [V5]
(.ri V6
(.ret [(.io .sub (.io .mul (.ki 64) V2) V6)])))))))))))):=by kernel_rfl
theorem c4B:a0w prog [] [] [⟨0,3,[],[]⟩] [⟨5,[0,0,0,4,14,31,63,0,0,256,896,2047,4095,8191],[0,0,0,0,0,1,1,0,0,0,0,0,1,4],[0,0,0,0,0,0,0,0,0,0,0,0,0,0],[0,1,2,3,4,5,6,7,8,9,10,11,12],[13]⟩] 250=some (.pm f250 1 1 [V0]
(.ri V1
(.ri V2
(.ef false f250 1 6 [(.io .add (.io .add V2 (.io .quo V1 (.ki 64))) (.ki 1)),(.io .add (.io .add V2 (.io .quo V1 (.ki 64))) (.ki 1))]
(.pm f250 2 1 [V0]
(.loop [(.ki 0)]
(.ri V5
(.ri V4
(.br (.io .lss V5 V4)
(.pm f250 4 1 [V0,V5]
(.pm f250 4 2 [V6]
(.pm f250 5 5 [V3,(.io .add V5 (.io .quo V1 (.ki 64)))]
(.pm f250 5 6 [V8]
(.ru V7
(.rq (.nn (.io .rem V1 (.ki 64)))
(.ru V9
(.pm f250 5 12 [V3,(.io .add V5 (.io .quo V1 (.ki 64)))]
(.ef false f250 5 13 [V10,(.uo .or V9 (.uo .shl V7 (.io .rem V1 (.ki 64))))]
(.br (.io .gtr (.io .rem V1 (.ki 64)) (.ki 0))
(.rq (.nn (.io .sub (.ki 64) (.io .rem V1 (.ki 64))))
(.pm f250 7 11 [V3,(.io .add (.io .add V5 (.io .quo V1 (.ki 64))) (.ki 1))]
(.ef false f250 7 12 [V12,(.uo .shr V7 (.io .sub (.ki 64) (.io .rem V1 (.ki 64))))]
(.next 0 [(.io .add V5 (.ki 1))]))))
(.next 0 [(.io .add V5 (.ki 1))])))))))))))
(.call false 149 [(.k (.bool false)),V3]
(.rq (.agg 2 V6)
(.ret [(.cell V6 1 0 noI)])))))))))))):=by kernel_rfl
theorem c9H:a0w prog [] [] [⟨0,5,[],[]⟩,⟨0,11,[],[]⟩] [⟨7,[0,0,0,0,0,24,56,0,128,384,1020,2044,4092,4092,8191,24575,65535],[0,0,0,0,0,1,1,0,1,1,2,0,0,0,1,4,0],[0,0,0,0,0,0,0,0,0,0,0,0,0,0,0,0,0],[0,1,2,3,4,5,6,7,8,9,10,11,12,13,14],[15,16]⟩,⟨16,[0,0,2,7,15,0,32,96,255,511,1023],[0,0,0,1,1,0,0,0,0,1,4],[0,0,0,0,0,0,0,0,0,0,0],[0,1,2,3,4,5,6,7,8,9],[10]⟩] 207=some (.pm f207 1 1 [V0]
(.ef false f207 1 2 [V2,V2]
(.pm f207 2 1 [V1]
(.ri V4
(.br (.io .eql V4 (.ki 1))
(.pm f207 4 1 [V0]
(.ri V5
(.loop [(.k (.int .u64 (0))),(.io .sub V5 (.ki 1))]
(.ri V7
(.br (.io .geq V7 (.ki 0))
(.pm f207 7 5 [V0,V7]
(.pm f207 7 6 [V8]
(.pm f207 7 8 [V1,(.ki 0)]
(.pm f207 7 9 [V10]
(.call true 248 [V6,V9,V11]
(.rq (.tup 0 V12)
(.rq (.tup 1 V12)
(.pm f207 7 14 [V3,V7]
(.ef false f207 7 15 [V13,(.proj V12 0)]
(.next 0 [(.proj V12 1),(.io .sub V7 (.ki 1))]))))))))))
(.ef false f207 8 2 [V6]
(.call false 149 [(.k (.bool false)),V8]
(.rq (.agg 2 V9)
(.ret [V3,(.cell V9 1 0 noI)])))))))))
(.call false 249 [V0]
(.call false 249 [V1]
(.ri V5
(.ri V6
(.loop [V0,(.io .sub V5 V6)]
(.ri V8
(.br (.io .geq V8 (.ki 0))
(.call false 250 [V1,V8]
(.call false 153 [V7,V9]
(.ri V10
(.br (.io .geq V10 (.ki 0))
(.call false 154 [V7,V9]
(.call false 149 [(.k (.bool false)),V11]
(.rq (.agg 2 V12)
(.pm f207 16 3 [V3,(.io .quo V8 (.ki 64))]
(.pm f207 16 4 [V13]
(.rq (.nn (.io .rem V8 (.ki 64)))
(.ru V14
(.pm f207 16 9 [V3,(.io .quo V8 (.ki 64))]
(.ef false f207 16 10 [V15,(.uo .or V14 (.uo .shl (.k (.int .u64 (1))) (.io .rem V8 (.ki 64))))]
(.next 0 [(.cell V12 1 0 noI),(.io .sub V8 (.ki 1))]))))))))))
(.next 0 [V7,(.io .sub V8 (.ki 1))])))))
(.ret [V3,V7]))))))))))))):=by kernel_rfl
theorem b6g:a0w prog [] [] [] [] 148=some (.rq (.cells 2 V0)
(.rq (.bool (.cell V0 0 0 noI))
(.call false 149 [(.nt (.cell V0 0 0 noI)),(.cell V0 1 0 noI)]
(.rq (.cells 2 V1)
(.ret [(.ag V1)]))))):=by kernel_rfl
theorem c4C:a0w prog [] [] [] [⟨2,[0,1,0,4,0,16,60,127,255],[1,1,1,1,1,1,2,2,6],[0,0,0,0,0,0,0,0,2],[0,1,2,3,4,5,6,7],[8]⟩,⟨5,[0,1,0,4,0,16,60,127,255],[1,1,1,1,1,1,2,2,6],[0,0,0,0,0,0,0,0,2],[0,1,2,3,4,5,6,7],[8]⟩] 105=some (.rq (.cells 2 V0)
(.rq (.cells 2 V1)
(.rq (.bool (.cell V0 0 0 noI))
(.rq (.bool (.cell V1 0 0 noI))
(.br (.eqb false (.cell V0 0 0 noI) (.cell V1 0 0 noI))
(.call true 152 [(.cell V0 1 0 noI),(.cell V1 1 0 noI)]
(.call true 149 [(.cell V0 0 0 noI),V2]
(.rq (.cells 2 V3)
(.ret [(.ag V3)]))))
(.call false 153 [(.cell V0 1 0 noI),(.cell V1 1 0 noI)]
(.ri V2
(.br (.io .lss V2 (.ki 0))
(.call true 154 [(.cell V1 1 0 noI),(.cell V0 1 0 noI)]
(.call true 149 [(.cell V1 0 0 noI),V3]
(.rq (.cells 2 V4)
(.ret [(.ag V4)]))))
(.call true 154 [(.cell V0 1 0 noI),(.cell V1 1 0 noI)]
(.call true 149 [(.cell V0 0 0 noI),V3]
(.rq (.cells 2 V4)
(.ret [(.ag V4)])))))))))))):=by kernel_rfl
theorem b8z:a0w prog [] [] [] [⟨1,[0,0,2,7,15],[5,5,2,2,6],[0,1,0,0,2],[0,1,2,3],[4]⟩] 151=some (.rq (.cells 2 V0)
(.rq (.cells 2 V1)
(.call true 148 [(.ag V1)]
(.call true 105 [(.ag V0),V2]
(.rq (.cells 2 V3)
(.ret [(.ag V3)])))))):=by kernel_rfl
theorem b8A:a0w prog [] [] [] [⟨1,[0,1,0,4,15,0,32,0,128,480,1023,2047],[1,1,1,1,0,1,1,1,1,2,2,6],[0,0,0,0,0,0,0,0,0,0,0,2],[0,1,2,3,4,5,6,7,8,9,10],[11]⟩] 101=some (.rq (.cells 2 V0)
(.rq (.cells 2 V1)
(.rq (.bool (.cell V0 0 0 noI))
(.rq (.bool (.cell V1 0 0 noI))
(.call true 150 [(.cell V0 1 0 noI),(.cell V1 1 0 noI)]
(.call true 149 [(.eqb true (.cell V0 0 0 noI) (.cell V1 0 0 noI)),V2]
(.rq (.cells 2 V3)
(.ret [(.ag V3)])))))))):=by kernel_rfl
theorem b8B:a0w prog [] [] [] [⟨2,[0,1,0,4,15,0,63,0,128,0,1023,2047,4095],[1,1,1,1,0,0,2,1,1,0,2,6,6],[0,0,0,0,0,0,0,0,0,0,0,2,3],[0,1,2,3,4,5,7,8,9,6,10],[11,12]⟩,⟨8,[0,0,1,7],[5,5,6,6],[2,3,2,3],[0,1],[2,3]⟩] 147=some (.rq (.cells 2 V0)
(.rq (.cells 2 V1)
(.call false 207 [(.cell V0 1 0 noI),(.cell V1 1 0 noI)]
(.rq (.tup 0 V2)
(.rq (.tup 1 V2)
(.rq (.bool (.cell V0 0 0 noI))
(.rq (.bool (.cell V1 0 0 noI))
(.call true 149 [(.eqb true (.cell V0 0 0 noI) (.cell V1 0 0 noI)),(.proj V2 0)]
(.call true 149 [(.cell V0 0 0 noI),(.proj V2 1)]
(.rq (.cells 2 V3)
(.rq (.cells 2 V4)
(.rq (.bool (.cell V4 0 0 noI))
(.br (.cell V4 0 0 noI)
(.rq (.cells 1 (.cell V1 1 0 noI))
(.call false 105 [(.ag V4),(.cat (.z 4) 1 (.cell V1 1 0 noI))]
(.rq (.cells 2 V5)
(.ef false f147 6 3 [(.k (.int .u64 (1)))]
(.rq (.cells 1 V6)
(.call false 105 [(.ag V3),(.cat (.nt (.cell V1 0 0 noI)) 1 V6)]
(.rq (.cells 2 V7)
(.ret [(.ag V7),(.ag V5)]))))))))
(.ret [(.ag V3),(.ag V4)])))))))))))))):=by kernel_rfl
theorem b6h:a0w prog [] [] [⟨0,2,[],[]⟩] [⟨1,[0,1,0,4,3,31],[1,1,1,1,0,0],[0,0,0,0,0,0],[0,1,2,3,4,5],[]⟩] 146=some (.rq (.cells 2 V0)
(.rq (.cells 2 V1)
(.loop [(.cell V0 1 0 noI),(.cell V1 1 0 noI)]
(.pm f146 2 1 [V3]
(.ri V4
(.br (.io .gtr V4 (.ki 0))
(.call false 207 [V2,V3]
(.rq (.tup 0 V5)
(.rq (.tup 1 V5)
(.next 0 [V3,(.proj V5 1)]))))
(.rq (.cells 1 V2)
(.ret [(.cat (.z 4) 1 V2)])))))))):=by kernel_rfl
theorem c4D:a0w prog [] [] [] [] 143=some (.rq (.cells 2 V0)
(.rq (.bool (.cell V0 0 0 noI))
(.br (.cell V0 0 0 noI)
(.ret [(.k (.int .i64 (-1)))])
(.pm f143 3 2 [(.cell V0 1 0 noI)]
(.ri V1
(.br (.io .eql V1 (.ki 0))
(.ret [(.ki 0)])
(.ret [(.ki 1)]))))))):=by kernel_rfl
theorem c9I:a0w prog [] [] [] [] 104=some (.rq (.cells 2 V0)
(.rq (.cells 2 V1)
(.call false 151 [(.ag V0),(.ag V1)]
(.call false 143 [V2]
(.ret [V3]))))):=by kernel_rfl
end Go.Proofs.YtlmgkkjgdapnpaaGreatDoor
/- The reference of chapter 01: numbers with a sign. -/
namespace Go.Proofs.YtlmgkkjgdapnpaaGreatDoor
open Go.Proofs.Tryz
open Go.RowKit Go.RX Go.WD
def Lm (z:Int):Prop:=z.natAbs<BP 10000
theorem d4j (z:Int):sn (!decide (z<0)) z.natAbs= -z:=by
 unfold sn;by_cases h:z<0<;>simp[h]<;>omega
theorem c9J (z:Int):sn (decide (z<0)) z.natAbs=z:=by
 unfold sn;by_cases h:z<0<;>simp[h]<;>omega
section
variable {H:PH} {v x y:Value} {z p q:Int}
theorem c4E (h:(decide (p<0)==decide (q<0))=true):sn (decide (p<0)) (p.natAbs+q.natAbs)=p+q:=by
 unfold sn
 by_cases h1:p<0<;>by_cases h2:q<0<;>simp[h1,h2]at h⊢<;>omega
theorem b4t (h:(decide (p<0)==decide (q<0))=false) (hl:q.natAbs<=p.natAbs):sn (decide (p<0)) (p.natAbs-q.natAbs)=p+q:=by
 unfold sn
 by_cases h1:p<0<;>by_cases h2:q<0<;>simp[h1,h2]at h⊢<;>omega
theorem d4k:sn (true !=(decide (p<0)==decide (q<0))) (p.natAbs*q.natAbs)=p*q:=by
 obtain⟨a,ha⟩:=Int.eq_nat_or_neg p
 obtain⟨b,hb⟩:=Int.eq_nat_or_neg q
 have hab:(((a*b:Nat):Int))=(a:Int)*b:=Int.natCast_mul a b
 have hz:a=0\/b=0->(a:Int)*b=0:=by rintro(h|h)<;>rw[h]<;>simp
 unfold sn
 rcases ha with ha|ha<;>rcases hb with hb|hb<;>subst ha<;>subst hb
 ·simp[show ¬(a:Int)<0 by omega,show ¬(b:Int)<0 by omega]
 ·rw[Int.natAbs_neg,Int.natAbs_natCast,Int.natAbs_natCast,hab,Int.mul_neg]
  by_cases h:b=0
  ·rw[hz (.inr h)];simp
  ·rw[decide_eq_false (show ¬(a:Int)<0 by omega),decide_eq_true (show -(b:Int)<0 by omega)];rfl
 ·rw[Int.natAbs_neg,Int.natAbs_natCast,Int.natAbs_natCast,hab,Int.neg_mul]
  by_cases h:a=0
  ·rw[hz (.inl h)];simp
  ·rw[decide_eq_false (show ¬(b:Int)<0 by omega),decide_eq_true (show -(a:Int)<0 by omega)];rfl
 ·rw[Int.natAbs_neg,Int.natAbs_natCast,Int.natAbs_neg,Int.natAbs_natCast,hab,Int.neg_mul_neg]
  by_cases h:a=0\/b=0
  ·rw[hz h];simp
  ·rw[decide_eq_true (show -(a:Int)<0 by omega),decide_eq_true (show -(b:Int)<0 by omega)];rfl
end
end Go.Proofs.YtlmgkkjgdapnpaaGreatDoor
/- The reference of chapter 01: Parts, Divisor, and what the chapter says. -/
namespace Go.Proofs.YtlmgkkjgdapnpaaGreatDoor
open Go.Proofs.Tryz
open Go.RowKit Go.RX Go.WD
theorem b8C:a0G prog 4= .bool false:=by kernel_rfl
open Classical in
section
variable {H:PH} {v x y:Value} {z p q:Int}
theorem Lm.nat {n:Nat} (h:n<BP 10000):Lm (n:Int):=by unfold Lm;rw[Int.natAbs_natCast];exact h
theorem b8D:Lm 1:=by
 unfold Lm
 have:=BP_lt_iff.2 (show 0<10000 by omega)
 rw[c9s]at this
 exact this
end
open Go.RowKit Go.RX Go.WD
theorem d8e {z:Int} (h:z.natAbs<M):Lm z:=by
 unfold Lm
 have:=c9u (show 16<=10000 by omega)
 rw[d8b]at this
 omega
theorem b4u (a:Nat):Lm (toI a):=d8e (a2r a)
end Go.Proofs.YtlmgkkjgdapnpaaGreatDoor

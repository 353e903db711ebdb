/- Trees of functions. -/
import Derived.Test.YtmannekkmdockaaGreatDoorRxX
open List renaming getElem?_eq_getElem->aA,getElem?_eq_some_iff->aC,getElem?_set_ne->iE,getElem?_set_self->jA,mem_cons->aL,mem_of_getElem?->aI,pairwise_append->jI,pairwise_cons->gG,takeWhile_append_dropWhile->jY
open List.Perm renaming eq_of_pairwise->pC
open Option.some renaming injEq->aD
set_option maxRecDepth 100000
namespace Go.Proofs.Z
open Go.Proofs.Tryz
open Go.RowKit Go.RX
theorem d2S:tree prog [48] [] [⟨0,12,[],[0,1,2]⟩,⟨0,20,[],[]⟩] [⟨24,[0,0,0,4,14,30,63,0,0,0,512,1792,3840,8064,16383,0,65535],[0,0,0,0,1,1,1,0,0,0,0,1,1,1,0,3,4],[0,0,0,0,0,0,0,0,0,0,0,0,0,0,0,0,0],[0,1,2,3,4,5,6,7,8,9,10,11,12,13,14,15],[16]⟩,⟨29,[0,0,2,6,14,1,63,127],[0,0,1,1,1,0,6,0],[0,0,0,0,0,0,2,0],[0,1,2,3,4,5],[6,7]⟩] 113=some (.rq (.cells 2 V0) (.rq (.cells 1 V2) (.call false 103 [(.ag V0)]
(.ri V3
(.br (.io .neq V3 (.ki 0)) (.ret [(.k (.slice none 0 0)),(.z 63),V3])
(.ru V1
(.br (.uo .eql V1 (kU 0)) (.ret [(.k (.slice none 0 0)),(.z 63),(.ki 2)]) (.call false 183 [(.ag V0),V1]
(.rq (.bool V4) (.br (.nt V4) (.ret [(.k (.slice none 0 0)),(.z 63),(.ki 2)]) (.call false 112 [(.ag V0),V1]
(.rq (.tup 0 V5) (.rq (.tup 1 V5) (.rq (.bool (.proj V5 0)) (.br (.nt (.proj V5 0)) (.ret [(.k (.slice none 0 0)),(.z 63),(.ki 4)]) (.rq (.cells 1 V1) (.pub 267 (.cat (.ag V2) 1 (.cat (.ag V0) 2 (.put (.cat V1 1 (.z 3)) 1 1 (.ki 10000) 0 noI))) (.loop [(.ki 0),(.uo .and V1 (.op1 .neg .u64 V1)),(.k (.slice none 0 0)),(.ki 0),V0,V2,(.z 63)]
(.ri V10
(.rq (.int .i64 (.cell V0 0 0 noI)) (.br (.io .lss V10 (.cell V0 0 0 noI))
(.ru V8
(.rq (.num V10) (.rq (.nn V10) (.br (.uo .eql (.uo .and (.uo .shr (.uo .andNot V1 V8) V10) (kU 1)) (kU 0)) (.next 0 [V7,V8,V9,(.io .add V10 (.ki 1)),V11,V12,V13]) (.call false 184 [V6,V10,V8]
(.rq (.tup 0 V14) (.rq (.tup 1 V14) (.rq (.int .i64 (.proj V14 1)) (.br (.io .neq (.proj V14 1) (.ki 0)) (.ret [(.k (.slice none 0 0)),(.z 63),(.proj V14 1)]) (.call false 185 [(.proj V14 0)]
(.pm f113 19 1 [V15]
(.loop [V8,V9,(.ki 0)]
(.ri V19
(.ri V16
(.br (.io .lss V19 V16)
(.pm f113 21 1 [V15,V19]
(.pm f113 21 2 [V20]
(.rq (.num V21) (.rq (.nn V21)
(.ru V17
(.br (.io .gtr V19 (.ki 0))
(.pm f113 24 4 [V15,(.io .sub V19 (.ki 1))]
(.pm f113 24 5 [V22]
(.pm f113 24 6 [V21,V23]
(.pm f113 24 11 [V15,(.io .sub V19 (.ki 1))]
(.pm f113 24 12 [V25]
(.pm f113 24 13 [V21,V26]
(.rq (.cells 1 V24) (.rq (.cells 1 V27) (.call false 186 [(.cell V11 1 0 noI),(.put (.put (.z 99) 0 1 V24 0 noI) 1 1 V27 0 noI)]
(.ef false f113 25 5 [V28]
(.ef false f113 25 6 [V18,V29]
(.next 1 [(.uo .or V17 (.uo .shl (kU 1) V21)),V30,(.io .add V19 (.ki 1))])))))))))))) (.next 1 [(.uo .or V17 (.uo .shl (kU 1) V21)),V18,(.io .add V19 (.ki 1))]))))))) (.next 0 [V7,V17,V18,(.io .add V10 (.ki 1)),V11,V12,V13])))))))))))))))) (.call false 187 [V9]
(.pm f113 29 2 [V6]
(.pm f113 29 3 [V15]
(.pm f113 29 4 [V16]
(.rq (.cells 1 V17) (.ret [V9,(.ag V17),(.ki 0)]))))))))))))))))))))))))))):=by kernel_rfl
theorem d2T:tree prog [] [] [⟨0,4,[],[]⟩] [] 184=some (.ef false f184 1 1 [V1]
(.ef false f184 2 1 [V0]
(.loop [(.k (.slice none 0 0)),(.ki 0),V1,V3]
(.ru V2
(.rq (.num V7) (.rq (.nn V7) (.br (.uo .eql (.uo .and (.uo .shr V2 V7) (kU 1)) (kU 1)) (.ret [V8,(.ki 0)])
(.pm f184 5 1 [V0]
(.pm f184 5 2 [V9]
(.pm f184 5 3 [V10]
(.ri V11
(.br (.io .eql V11 (.ki 0)) (.ret [(.k (.slice none 0 0)),(.ki 9)])
(.pm f184 7 1 [V0]
(.pm f184 7 2 [V12]
(.pm f184 7 3 [V13]
(.ri V14
(.pm f184 7 5 [V0]
(.pm f184 7 6 [V15]
(.ef false f184 7 7 [V16,(.io .sub V14 (.ki 1))]
(.call false 228 [V0,V7]
(.call false 227 [V18]
(.call false 226 [V19,V4]
(.rq (.tup 0 V20) (.rq (.tup 1 V20) (.rq (.int .i64 (.proj V20 1)) (.br (.io .neq (.proj V20 1) (.ki 0)) (.ret [(.k (.slice none 0 0)),(.proj V20 1)])
(.ef false f184 12 2 [(.proj V20 0)]
(.ef false f184 12 3 [V8,V21]
(.next 0 [V5,V6,(.proj V20 0),V22]))))))))))))))))))))))))))))):=by kernel_rfl
theorem d2U:tree prog [] [] [⟨0,3,[],[]⟩,⟨0,9,[],[]⟩] [] 185=some (.ef false f185 1 0 []
(.pm f185 2 1 [V0]
(.loop [(.ki 0)]
(.ri V3
(.ri V2
(.br (.io .lss V3 V2)
(.pm f185 4 1 [V0,V3]
(.pm f185 4 2 [V4]
(.ef false f185 5 3 [V1,V5,V3]
(.next 0 [(.io .add V3 (.ki 1))]))))
(.pm f185 7 1 [V0,(.ki 0)]
(.pm f185 7 2 [V4]
(.ef false f185 7 3 [V5]
(.pm f185 8 1 [V0,(.ki 0)]
(.pm f185 8 2 [V7]
(.loop [V8,V6]
(.pm f185 9 3 [V0]
(.ri V11
(.pm f185 9 5 [V0,(.io .sub V11 (.ki 1))]
(.pm f185 9 6 [V12]
(.ri V9
(.ri V13
(.br (.io .neq V9 V13)
(.pm f185 10 3 [V1,V9]
(.ri V14
(.pm f185 10 5 [V0,(.io .add V14 (.ki 1))]
(.pm f185 10 6 [V15]
(.ef false f185 11 2 [V16]
(.ef false f185 11 3 [V10,V17]
(.next 1 [V16,V18]))))))) (.ret [V10])))))))))))))))))))):=by kernel_rfl
theorem d2V:tree prog [] [] [] [] 226=some (.pm f226 1 2 [V0]
(.ef false f226 1 3 [V1,V2]
(.rq (.tup 0 V3) (.rq (.tup 1 V3) (.rq (.int .i64 (.proj V3 1)) (.br (.io .neq (.proj V3 1) (.ki 0)) (.ret [(.ki 0),(.proj V3 1)])
(.pm f226 5 2 [V0,(.proj V3 0)]
(.pm f226 5 3 [V4]
(.ret [V5,(.ki 0)]))))))))):=by kernel_rfl
theorem d2W:tree prog [] [] [] [] 225=some (.pm f225 1 1 [V0]
(.pm f225 1 2 [V2]
(.pm f225 1 3 [V3]
(.call false 180 [V4,V1]
(.rq (.tup 0 V5) (.rq (.tup 1 V5) (.rq (.tup 2 V5) (.rq (.cells 1 (.proj V5 1))
(.pm f225 2 2 [V0]
(.pm f225 2 3 [V6]
(.ef false f225 2 4 [V7,(.ag (.proj V5 1))]
(.ret [(.proj V5 0),(.proj V5 2)])))))))))))):=by kernel_rfl
theorem d2X:tree prog [2,3] [] [] [] 228=some (.rq (.cells 1 V0) (.pub 265 V0
(.rq (.cells 1 V1) (.pub 3 V1
(.ef false f228 1 0 [V2,V3]
(.ret [V4])))))):=by kernel_rfl
@[reducible] def jc:SV:= .io .add (.cell V12 0 0 noI) (.cell V12 1 0 noI)
theorem c7o:tree prog [] [] [⟨0,2,[],[]⟩,⟨0,8,[],[]⟩] [] 252=some (.pm f252 1 0 [V1]
(.pm f252 1 1 [V3]
(.pm f252 1 2 [V4]
(.pm f252 1 3 [V5]
(.pm f252 1 4 [V6]
(.pm f252 1 5 [V7]
(.loop [(kU 0),(.ki 0)]
(.ri V10
(.ri V8
(.br (.io .lss V10 V8)
(.pm f252 3 0 [V7,V10]
(.pm f252 3 1 [V11]
(.rq (.cells 2 V12)
(.pm f252 4 2 [V2]
(.rq (.int .i64 (.cell V12 0 0 noI))
(.ri V13
(.br (.io .eql (.cell V12 0 0 noI) V13) (.rq (.int .i64 (.cell V12 1 0 noI))
(.pm f252 5 6 [V2]
(.ri V14
(.rq (.nn (.io .sub jc V14))
(.ru V9
(.next 0 [(.uo .or V9 (.uo .shl (kU 1) (.io .sub jc V14))),(.io .add V10 (.ki 1))]))))))
(.pm f252 4 7 [V2]
(.rq (.int .i64 (.cell V12 1 0 noI))
(.ri V14
(.br (.io .eql (.cell V12 1 0 noI) V14)
(.pm f252 5 6 [V2]
(.ri V15
(.rq (.nn (.io .sub jc V15))
(.ru V9
(.next 0 [(.uo .or V9 (.uo .shl (kU 1) (.io .sub jc V15))),(.io .add V10 (.ki 1))]))))) (.next 0 [V9,(.io .add V10 (.ki 1))]))))))))))))
(.pm f252 7 1 [V1]
(.pm f252 7 2 [V11]
(.pm f252 7 3 [V12]
(.pm f252 7 4 [V13]
(.ru V9
(.ru V14
(.loop [(.uo .and V9 V14)]
(.ru V15
(.br (.uo .neq V15 (kU 0)) (.call false 122 [V15]
(.ef false f252 10 3 [V0,V16]
(.rq (.bool V17) (.br (.nt V17) (.ret []) (.next 1 [(.uo .and V15 (.uo .sub V15 (kU 1)))]))))) (.ret [])))))))))))))))))))):=by kernel_rfl
theorem d2Y:tree prog [] [] [] [⟨1,[0,1,0,4,15,31],[0,2,0,5,0,0],[0,0,0,0,0,0],[0,2,3,1,4,5],[]⟩] 183=some (.rq (.cells 2 V0) (.call true 117 [V1]
(.ri V2
(.rq (.int .i64 (.cell V0 0 0 noI)) (.ret [(.io .leq V2 (.cell V0 0 0 noI))]))))):=by kernel_rfl
theorem d2Z:tree prog [] [] [] [] 227=some (.call false 251 [(.k (.slice none 0 0)),V0]
(.ret [V1])):=by kernel_rfl
theorem d3a:tree prog [] [] [⟨4,3,[],[0]⟩] [] 251=some (.rq (.cells 1 V0) (.rf V1 1 [V0]
(.ef false f251 3 2 [V2]
(.ef false f251 3 3 [(.cell V3 0 0 noI),V4]
(.rq (.cells 1 V5) (.next 0 [V5])))) (.ret [(.cell V2 0 0 noI)]) (.dead 818))):=by kernel_rfl
theorem d3b:tree prog [] [] [⟨0,2,[],[]⟩] [⟨4,[0,0,0,6,14,31],[5,0,0,1,1,1],[0,0,0,0,0,0],[0,1,2,3,4,5],[]⟩] 186=some (.rq (.cells 2 V1)
(.pm f186 1 1 [V0]
(.loop [(.ki 0),(.ki 0)]
(.ri V4
(.ri V2
(.br (.io .lss V4 V2)
(.pm f186 4 3 [V0,V4]
(.pm f186 4 4 [V5]
(.pm f186 4 5 [(.ag V1),V6]
(.rq (.bool V7) (.br V7
(.ret [V4]) (.next 0 [V3,(.io .add V4 (.ki 1))])))))) (.ret [(kI (-1))]))))))):=by kernel_rfl
theorem d3c:tree prog [] [] [] [] 187=some (.pm f187 0 1 [V0]
(.ri V1
(.call false 92 [(.cv .u64 V1)]
(.call false 229 [V0,(.ki 0),V1,V2]
(.ret []))))):=by kernel_rfl
theorem d3d:tree prog [] [(23,true)] [⟨0,2,[],[]⟩] [] 229=some (.loop [V3,(.k (.bool true)),V1,(.k (.bool true)),V2]
(.ri V8
(.ri V6
(.rq (.isb true (.io .leq (.io .sub V8 V6) (.ki 12))) (.call false 253 [V0,V6,V8]
(.ret [])))))):=by kernel_rfl
theorem d3e:tree prog [] [] [⟨0,1,[],[]⟩,⟨0,4,[],[]⟩] [⟨4,[0,0,3,7,15,15,63,127,15,15,527,1807,3855,8191,16383],[0,0,0,0,0,0,1,1,0,0,0,1,1,2,0],[0,0,0,0,0,0,0,0,0,0,0,0,0,0,0],[0,1,2,3,4,5,6,7,8,9,10,11,12,13,14],[]⟩,⟨6,[0,0,0,0,8,0,0,64,224,480,0,0,3072,7168,16355,32739,65535,131071],[0,0,0,0,0,0,0,0,1,1,0,0,1,1,1,8,7,8],[0,0,0,0,0,0,0,0,0,0,0,0,0,0,0,0,0,0],[0,1,2,3,4,5,6,7,8,9,10,11,12,13,14],[15,16,17]⟩] 253=some (.ri V1
(.loop [(.io .add V1 (.ki 1))]
(.ri V3
(.ri V2
(.br (.io .lss V3 V2) (.loop [V3]
(.ri V4
(.br (.io .gtr V4 V1)
(.pm f253 4 6 [V0,V4]
(.pm f253 4 7 [V5]
(.pm f253 4 11 [V0,(.io .sub V4 (.ki 1))]
(.pm f253 4 12 [V7]
(.call true 259 [V6,V8]
(.rq (.bool V9) (.br V9
(.pm f253 6 8 [V0,(.io .sub V4 (.ki 1))]
(.pm f253 6 9 [V10]
(.pm f253 6 12 [V0,V4]
(.pm f253 6 13 [V12]
(.pm f253 6 14 [V0,V4]
(.ef false f253 6 15 [V14,V11]
(.pm f253 6 16 [V0,(.io .sub V4 (.ki 1))]
(.ef false f253 6 17 [V16,V13]
(.next 1 [(.io .sub V4 (.ki 1))]))))))))) (.next 0 [(.io .add V3 (.ki 1))])))))))) (.next 0 [(.io .add V3 (.ki 1))])))) (.ret [])))))):=by kernel_rfl
theorem d3f:tree prog [] [] [] [] 259=some (.call false 158 [V0]
(.rq (.bool V2) (.br V2
(.call false 158 [V1]
(.rq (.bool V3) (.br (.nt V3) (.ret [(.k (.bool true))])
(.ri V0
(.ri V1
(.ret [(.io .lss V0 V1)]))))))
(.ri V0
(.ri V1
(.ret [(.io .lss V0 V1)])))))):=by kernel_rfl
end Go.Proofs.Z
/- MADE BY rxgen.py (mkGT.py): trees of chapter 32. -/
namespace Go.Proofs.Z
open Go.Proofs.Tryz
open Go.RowKit Go.RX
theorem c7p:tree prog [] [] [⟨0,2,[],[]⟩] [] 50=some (.pm f50 1 1 [V0]
(.loop [(.ki 0),(.ki 0)]
(.ri V4
(.ri V2
(.br (.io .lss V4 V2)
(.pm f50 3 1 [V0,V4]
(.pm f50 3 2 [V5]
(.pm f50 4 2 [V1]
(.ri V7
(.br (.io .geq V4 V7) (.ret [(.ki 1)])
(.pm f50 6 2 [V1,V4]
(.pm f50 6 3 [V8]
(.call false 93 [V6,V9]
(.ri V10
(.br (.io .neq V10 (.ki 0)) (.ret [V10]) (.next 0 [V3,(.io .add V4 (.ki 1))])))))))))))
(.pm f50 11 1 [V0]
(.pm f50 11 3 [V1]
(.ri V5
(.ri V6
(.br (.io .lss V5 V6) (.ret [(kI (-1))]) (.ret [(.ki 0)]))))))))))):=by kernel_rfl
theorem d3g:tree prog [] [] [⟨0,4,[],[]⟩] [⟨6,[0,0,3,7,0,0,48,112,255],[0,0,1,1,0,0,1,1,1],[0,0,0,0,0,0,0,0,0],[0,1,2,3,4,5,6,7,8],[]⟩] 15=some (.pm f15 1 1 [V0]
(.pm f15 1 3 [V1]
(.ri V2
(.ri V3
(.br (.io .neq V2 V3) (.ret [(.k (.bool false))])
(.pm f15 3 1 [V0]
(.loop [(.k (.bool false)),(.ki 0)]
(.ri V6
(.ri V4
(.br (.io .lss V6 V4)
(.pm f15 6 2 [V0,V6]
(.pm f15 6 3 [V7]
(.pm f15 6 6 [V1,V6]
(.pm f15 6 7 [V9]
(.pm f15 6 8 [V8,V10]
(.rq (.bool V11) (.br V11
(.ret [(.k (.bool false))]) (.next 0 [V5,(.io .add V6 (.ki 1))])))))))) (.ret [(.k (.bool true))]))))))))))):=by kernel_rfl
theorem c7q:tree prog [] [] [] [] 92=some (.call false 117 [V0]
(.ret [V1])):=by kernel_rfl
end Go.Proofs.Z
/- Lists that are put in order; where an edge stands. -/
namespace Go.GS
def SoT (l:List Int) (i:Nat):Prop:=∀a b x y,a<b->b<i->l[a]? =some x->l[b]? =some y->x<=y
def Ze (l0 l:List Int) (i j:Nat):Prop:=l.Perm l0/\∀a b x y,a<b->b<=i->b≠j->l[a]? =some x->l[b]? =some y->x<=y
theorem d9T {l:List Int} {j:Nat} {x y:Int} (hj:j<l.length) (h0:0<j) (a:Nat):((l.set j y).set (j-1) x)[a]? =if a=j-1 then some x else if a=j then some y else l[a]?:=by
 by_cases h1:a=j-1
 ·subst h1;rw[jA (by rw[List.length_set];omega),if_pos rfl]
 ·rw[iE (fun e=>h1 e.symm),if_neg h1];by_cases h2:a=j
  ·subst h2;rw[jA hj,if_pos rfl]
  ·rw[iE (fun e=>h2 e.symm),if_neg h2]
theorem d3h {l:List Int} {j:Nat} {x y:Int} (hx:l[j]? =some x) (hy:l[j-1]? =some y):((l.set j y).set (j-1) x).Perm l:=by
 obtain⟨h1,rfl⟩:=aC.1 hx;obtain⟨h2,rfl⟩:=aC.1 hy;exact List.set_set_perm h1 h2
theorem c2c {l0 l:List Int} {i:Nat} (hp:l.Perm l0) (h:SoT l i):Ze l0 l i i:=⟨hp,fun a b x y rL hb pT hx hy=>h a b x y rL (by omega) hx hy⟩
theorem c7r {l0 l:List Int} {i j:Nat} {x y:Int} (h:Ze l0 l i j) (hx:l[j]? =some x) (hy:l[j-1]? =some y) (h0:0<j) (hji:j<=i) (tC:x<y):Ze l0 ((l.set j y).set (j-1) x) i (j-1):=by
 have hj:=(aC.1 hx).1;refine⟨(d3h hx hy).trans h.1,fun a b u v rL hb pT hu hv=> ?_⟩;rw[d9T hj h0]at hu hv;rw[if_neg pT]at hv;by_cases tL:b=j
 ·subst tL;rw[if_pos rfl]at hv;simp only[aD]at hv;subst hv;by_cases ha:a=b-1
  ·rw[if_pos ha]at hu;simp only[aD]at hu;omega
  ·rw[if_neg ha,if_neg (by omega)]at hu;exact h.2 a (b-1) u y (by omega) (by omega) (by omega) hu hy
 ·rw[if_neg tL]at hv;by_cases ha:a=j-1
  ·rw[if_pos ha]at hu;simp only[aD]at hu;subst hu;exact h.2 j b x v (by omega) hb tL hx hv
  ·rw[if_neg ha]at hu;by_cases rX:a=j
   ·rw[if_pos rX]at hu;simp only[aD]at hu;subst hu;exact h.2 (j-1) b y v (by omega) hb tL hy hv
   ·rw[if_neg rX]at hu;exact h.2 a b u v rL hb tL hu hv
theorem KU {l0 l:List Int} {i j:Nat} (h:Ze l0 l i j) (hj:j=0\/∃x y,l[j]? =some x/\l[j-1]? =some y/\¬x<y):SoT l (i+1):=fun a b x y rL hb hx hy=>by
 by_cases tL:b=j
 ·subst tL;rcases hj with hj|⟨u,v,hu,hv,huv⟩
  ·omega
  ·rw[hu]at hy;simp only[aD]at hy;subst hy;by_cases ha:a=b-1
   ·subst ha;rw[hv]at hx;simp only[aD]at hx;omega
   ·have:=h.2 a (b-1) x v (by omega) (by omega) (by omega) hx hv;omega
 ·exact h.2 a b x y rL (by omega) tL hx hy
theorem d7i {l:List Int} (h:SoT l l.length):l.Pairwise (· <= ·):=by
 rw[List.pairwise_iff_getElem];intro i j hi hj sA;exact h i j _ _ sA hj (aA hi) (aA hj)
theorem d3i (l:List Int):SoT l 1:=fun a b x y h1 h2 _ _=>by omega
theorem KV {l m:List Int} (h1:l.Pairwise (· <= ·)) (h2:m.Pairwise (· <= ·)) (h:l.Perm m):l=m:=
 pC (le:=(· <= ·)) (fun a b _ _ h3 h4=>by omega) h1 h2 h
def Il (es:List (Nat×Nat)) (e:Nat×Nat):Int:=if e∈es then(es.idxOf e:Nat)else -1
theorem c2e {es:List (Nat×Nat)} {e:Nat×Nat}:∀{i:Nat},es[i]? =some e->(∀y∈es.take i,y≠e)->Il es e=(i:Nat):=by
 intro i hi hn;have hm:=aI hi;unfold Il;rw[if_pos hm];congr 1;induction es generalizing i with
 |nil=>cases hm
 |cons x r ih=>
  cases i with
  |zero=>
   simp only[List.getElem?_cons_zero,aD]at hi;subst hi;simp
  |succ i=>
   have hx:x≠e:=hn x (by simp);simp only[List.getElem?_cons_succ]at hi;rw[List.idxOf_cons,show(x==e)=false by simp[hx],cond_false,ih hi (fun y hy=>hn y (by simp[hy])) (aI hi)]
theorem c7s {es:List (Nat×Nat)} {e:Nat×Nat} (h:∀y∈es,y≠e):Il es e= -1:=by
 unfold Il;rw[if_neg (fun hm=>h e hm rfl)]
def Vi (l:List Int) (x:Int):List Int:=(l.takeWhile fun y=>decide (y<=x))++x::l.dropWhile fun y=>decide (y<=x)
theorem c2f (l:List Int) (x:Int):(Vi l x).Perm (l++[x]):=by
 unfold Vi;refine List.perm_middle.trans ?_;rw[jY];exact(List.perm_append_comm (l₁:=[x]) (l₂:=l))
theorem KW {p:Int->Bool}:∀{l:List Int} {y:Int} {r:List Int},l.dropWhile p=y::r->p y=false
 |z::l,y,r,h=>by
  rw[List.dropWhile_cons]at h;split at h
  ·exact KW h
  ·rename_i hz;simp only[List.cons.injEq]at h;rw[<-h.1];simpa using hz
theorem d3j {l:List Int} {x:Int} (h:l.Pairwise (· <= ·)):(Vi l x).Pairwise (· <= ·):=by
 unfold Vi;have hs:l.takeWhile (fun y=>decide (y<=x))++l.dropWhile (fun y=>decide (y<=x))=l:=jY;rw[<-hs]at h;obtain⟨h1,h2,h3⟩:=jI.1 h;have ht:∀a∈l.takeWhile (fun y=>decide (y<=x)),a<=x:=fun a ha=>by
  have:=List.all_takeWhile (p:=fun y=>decide (y<=x)) (l:=l);exact oDt (List.all_eq_true.1 this a ha)
 have hd:∀b∈l.dropWhile (fun y=>decide (y<=x)),x<=b:=fun b hb=>by
  generalize hr:l.dropWhile (fun y=>decide (y<=x))=r at hb h2;cases r with
  |nil=>cases hb
  |cons z r=>
   have hz:=oDf (KW hr);rcases aL.1 hb with rfl|hb
   ·omega
   ·have:=(gG.1 h2).1 b hb;omega
 refine jI.2 ⟨h1,gG.2 ⟨hd,h2⟩,fun a ha b hb=> ?_⟩;rcases aL.1 hb with rfl|hb
 ·exact ht a ha
 ·exact h3 a ha b hb
end Go.GS

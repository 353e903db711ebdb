/- slices.SortFunc of the shelf as a contract with memory. -/
import Derived.Test.YtlmgkkjgdapnpaaGreatDoorGsD
import Derived.Shelf.SlSortCmp.Whole1
import Derived.Test.YtlmgkkjgdapnpaaGreatDoorRxW
import Derived.Shelf.SlSortCmp.WholeK
import Derived.Test.YtlmgkkjgdapnpaaGreatDoorRxR
import Derived.Test.YtlmgkkjgdapnpaaGreatDoorRxY
import Derived.Test.YtlmgkkjgdapnpaaGreatDoorGfK
import Derived.Test.YtlmgkkjgdapnpaaGreatDoorWdT
namespace Go.RX
open Go.Proofs Go.Shelf Go.RowKit Go.Lib Go.Sort
theorem c6s {w w':World} (h:Ext w w'):∃q os',w'=grow (w.drewN q) os':=by
 refine⟨w'.drawn-w.drawn,w'.heap.extract w.heap.size w'.heap.size,?_⟩
 have hs:=h.size
 have hd:=h.dr
 have hh:w'.heap=w.heap++w'.heap.extract w.heap.size w'.heap.size:=by
  apply Array.ext_getElem?
  intro k
  by_cases hk:k<w.heap.size
  ·rw[Array.getElem?_append_left hk,h.blk k hk]
  ·rw[Array.getElem?_append_right (by omega),Array.getElem?_extract]
   split
   ·congr 1;omega
   ·rw[Array.getElem?_eq_none];omega
 have h1:=h.os
 have h2:=h.tape
 have h3:=h.output
 obtain⟨hp',tp',dr',os',out'⟩:=w'
 obtain⟨hp,tp,dr,os,out⟩:=w
 simp only at h1 h2 h3 hh hd
 subst h1 h2 h3
 simp only[grow,World.drewN]
 congr 1
 omega
section
variable {P:Program} {α:Type} [Inhabited α] {enc:α->Value} {H B:PH} {blk:Nat} {cur:Array Value} {T:TypeId} {d:Array α}
theorem a8n {w:World} (hw:H.In w) (hb:H blk=some (.cells cur T (0,0))) (n:Nat) (dk:Array α) (os:Array Obj):Step H w (H.put blk (.cells (putCells enc 0 dk cur) T (0,0))) (sortWorld enc w blk 0 n dk os):=by
 have hwb:=hw _ _ hb
 have hlt:=a0y hwb
 have hsz:(w.heap.modify blk (onCells (putCells enc 0 dk))).size=w.heap.size:=by simp
 have hne:∀k,k<w.heap.size->k≠blk->(w.heap.modify blk (onCells (putCells enc 0 dk))++os)[k]? =w.heap[k]?:=fun k hk h=>by
  rw[Array.getElem?_append_left (by omega),Array.getElem?_modify,if_neg (fun e=>h e.symm)]
 refine⟨rfl,rfl,rfl,by show w.heap.size<=(w.heap.modify blk (onCells (putCells enc 0 dk))++os).size;simp,fun k hk hn=> ?_,fun k ob hk=> ?_,fun k hk=> ?_,Nat.le_add_right _ _⟩
 ·exact hne k hk (fun e=>by rw[e,hb]at hn;cases hn)
 ·show(w.heap.modify blk (onCells (putCells enc 0 dk))++os)[k]? =_
  unfold PH.put at hk
  split at hk
  ·rename_i e;subst e;cases hk
   rw[Array.getElem?_append_left (by omega),Array.getElem?_modify,if_pos rfl,hwb]
   rfl
  ·rename_i e
   rw[hne k (a0y (hw _ _ hk)) e];exact hw _ _ hk
 ·unfold PH.put at hk
  split at hk
  ·rename_i e;subst e;left;rw[hb];simp
  ·exact .inl hk
end
end Go.RX
/- slices.SortFunc of the shelf at structs, as a contract with memory. -/
namespace Go.RX
open Go.Proofs Go.Shelf Go.RowKit Go.Lib Go.Sort
theorem c8g {α:Type} {ce:α->List Value} (h1:∀x,∀v∈ce x,a3G v=true):∀x,∀v∈ce x,v.oneCell'=true:=fun x v hv=>by rw[b3a];exact h1 x v hv
section
variable {P:Program} {α:Type} [Inhabited α] {ce:α->List Value} {k:Nat} {H B:PH}
theorem b4Z {d:Array α} (hk:∀x,(ce x).length=k):(flatK ce k d).toList=d.toList.flatMap ce:=by
 have hl:(d.toList.flatMap ce).length=d.size*k:=by rw[a4B hk,Array.length_toList]
 apply List.ext_getElem?
 intro t
 by_cases ht:t<d.size*k
 ·have k0:0<k:=Nat.pos_of_ne_zero fun e=>by subst e;simp at ht
  have hi:t/k<d.size:=Nat.div_lt_of_lt_mul (by rw[Nat.mul_comm];exact ht)
  have hm:t%k<k:=Nat.mod_lt _ k0
  have e1:(flatK ce k d).toList[t]? =some ((ce d[t/k]!)[t%k]!):=by
   unfold flatK
   rw[Array.getElem?_toList,Array.getElem?_map,Array.getElem?_range]
   simp[ht]
  rw[e1]
  have e2:d.toList[t/k]? =some d[t/k]!:=by rw[Array.getElem?_toList,Array.getElem?_eq_getElem hi,getElem!_pos d _ hi]
  have e3:=d4z hk e2
  have e4:=congrArg (fun z=>z[t%k]?) e3
  change (((d.toList.flatMap ce).drop (t/k*k)).take k)[t%k]? =(ce d[t/k]!)[t%k]? at e4
  rw[List.getElem?_take_of_lt hm,List.getElem?_drop,show t/k*k+t%k=t by rw[Nat.mul_comm];exact Nat.div_add_mod t k]at e4
  rw[e4]
  have h9:t%k<(ce d[t/k]!).length:=by rw[hk];exact hm
  rw[List.getElem?_eq_getElem h9,getElem!_pos (ce d[t/k]!) (t%k) h9]
 ·rw[List.getElem?_eq_none (by simp;omega),List.getElem?_eq_none (by omega)]
theorem c0V {α:Type} [Inhabited α] {enc:α->Value} (d:Array α) (c:Array Value) (h:d.size<=c.size):(putCells enc 0 d c).toList.take d.size=d.toList.map enc:=by
 apply List.ext_getElem?
 intro i
 by_cases hi:i<d.size
 ·rw[List.getElem?_take_of_lt hi,Array.getElem?_toList]
  unfold putCells
  rw[Array.getElem?_mapIdx,Array.getElem?_eq_getElem (by omega)]
  simp[hi]
 ·rw[List.getElem?_eq_none (by simp;omega),List.getElem?_eq_none (by simp;omega)]
theorem b2e {blk:Nat} {cur:Array Value} {T:TypeId} {g:Nat} {cb:Array Value} {cf:α->α->Int} {size:Nat} {w:World} (hw:H.In w) (hb:H blk=some (.cells cur T (0,0))) (hle:PH.le B H) (hn:B blk=none) (h:∀x y,a1g P g (.agg (ce x).toArray:: .agg (ce y).toArray::cb.toList) B (.int .i64 (cf x y))):CmpLays P g cb ce k cf blk 0 size w:=fun m os dk _ x y=>by
 have hs:=a8n (enc:=id) hw hb m (flatK ce k dk) os
 have hB:B.In (sortWorldK ce k w blk 0 m dk os):=fun b ob hk=>hs.holds b ob (by
  rw[PH.put_ne _ _ (fun e=>by rw[e,hn]at hk;cases hk)];exact hle _ _ hk)
 have h1:=h x y _ hB
 have ha:(Value.agg (ce x).toArray:: .agg (ce y).toArray::cb.toList).toArray= #[.agg (ce x).toArray,.agg (ce y).toArray]++cb:=by
  rw[<-Array.toList_inj];simp
 rw[ha]at h1
 refine h1.mono fun e w' ⟨v,H',he,hst,hl,hv⟩=>⟨by rw[he,hv],c6s (hst.toExt hB hl)⟩
theorem b2f {blk:Nat} {cur:Array Value} {T:TypeId} {l:List α} {w:World} (hk:∀x,(ce x).length=k) (hwb:w.heap[blk]? =some (.cells cur T (0,0))) (hcur:cur.toList.take (l.length*k)=l.flatMap ce):HoldsK ce k w blk 0 l.toArray:=fun j hj=>by
 rw[size_flatK]at hj
 have hj0:j<l.length*k:=by simpa using hj
 have hf:(flatK ce k l.toArray).toList=l.flatMap ce:=by rw[b4Z hk]
 have hj2:cur.toList[j]? =some (id (flatK ce k l.toArray)[j]!):=by
  have:(cur.toList.take (l.length*k))[j]? =cur.toList[j]?:=List.getElem?_take_of_lt hj0
  rw[<-this,hcur,<-hf,Array.getElem?_toList,Array.getElem?_eq_getElem (by rw[size_flatK];exact hj),getElem!_pos _ j (by rw[size_flatK];exact hj)];rfl
 constructor
 ·rw[Nat.zero_add]
  unfold World.cell?
  simp only[hwb]
  rw[if_neg (by simp),<-Array.getElem?_toList,hj2]
 ·unfold World.frozen?
  simp[hwb]
theorem b2g {blk cap:Nat} {cur:Array Value} {e:TypeId} {l:List α} {d':Array α} {cf:α->α->Int} (hk:∀x,(ce x).length=k) (hB:B blk=none) (hc1:l.length<=cap) (hc2:cap<=maxLen) (hc3:cur.size=cap*k) (hle:PH.le B H) (hp:PermIn 0 l.length l.toArray d') (hs:SortedIn (ltOf cf) 0 l.length d'):
  PH.le B (H.put blk (.cells (putCells id 0 (flatK ce k d') cur) e (0,0)))/\∃m:List α,m.Perm l/\m.Pairwise (fun a b=>¬cf b a<0)/\SO B (H.put blk (.cells (putCells id 0 (flatK ce k d') cur) e (0,0))) e k ce (.slice (some ⟨blk,0,none⟩) l.length cap) m:=by
 have hsz:d'.size=l.length:=by have:=hp.1;simpa using this
 have hpm:d'.toList.Perm l:=by
  have:=hp.2.2
  have e1:d'.extract 0 l.length=d':=by rw[<-hsz];simp
  have e2:l.toArray.extract 0 l.length=l.toArray:=by
   have:l.length=l.toArray.size:=by simp
   rw[this];simp
  rw[e1,e2]at this
  simpa using this
 refine⟨fun i ob hi=> ?_,d'.toList,hpm,?_,?_⟩
 ·rw[PH.put_ne _ _ (fun e=>by rw[e,hB]at hi;cases hi)];exact hle _ _ hi
 ·rw[List.pairwise_iff_getElem]
  intro i j hi hj hij
  have:=hs i j (Nat.zero_le _) hij (by simp at hj;omega)
  unfold ltOf at this
  rw[decide_eq_false_iff_not]at this
  rw[getElem!_pos d' i (by simpa using hi),getElem!_pos d' j (by simpa using hj)]at this
  simpa using this
 ·have hln:d'.toList.length=l.length:=by rw[Array.length_toList,hsz]
  refine⟨a4B hk _,.inr ⟨blk,cap,putCells id 0 (flatK ce k d') cur,by rw[hln],hB,PH.put_self _ _ _,by rw[hln];exact hc1,hc2,by unfold putCells;rw[Array.size_mapIdx,hc3],?_⟩⟩
  have hle2:l.length*k<=cap*k:=Nat.mul_le_mul_right _ hc1
  have:=c0V (enc:=id) (flatK ce k d') cur (by rw[size_flatK,hsz,hc3];exact hle2)
  rw[size_flatK,hsz]at this
  rw[hln,this,List.map_id,b4Z hk]
theorem c0W {ρ:Ren} (L:SlLaysF0.n6 P ρ) (aE:∀w,(isAgg (ρ.t 24)).run P w= .ok true w) (zE:∀w,(Go.sizeOf (ρ.t 24)).run P w= .ok k w) (hk:∀x,(ce x).length=k) (h1:∀x,∀v∈ce x,a3G v=true) {cf:α->α->Int} (hO:SWO (ltOf cf)) {g:Nat} {cb:Array Value} (eg:a1q P g=true)
  {e:TypeId} {v:Value} {l:List α} (hle:PH.le B H) (ho:SO B H e k ce v l) (h0:l≠[]) (hl:l.length<4611686018427387904) (h:∀x y,a1g P g (.agg (ce x).toArray:: .agg (ce y).toArray::cb.toList) B (.int .i64 (cf x y))):
  Con P (ρ.f 6) [v,.func (.func g) #[] cb] H fun _ H'=>PH.le B H'/\∃m:List α,m.Perm l/\m.Pairwise (fun a b=>¬cf b a<0)/\SO B H' e k ce v m:=by
 obtain⟨h2,⟨_,h3⟩|⟨blk,cap,cur,rfl,hB,hH,hc1,hc2,hc3,hc4⟩⟩:=ho
 ·exact absurd (List.eq_nil_of_length_eq_zero h3) h0
 intro w hw
 have hwb:=hw _ _ hH
 have hla:l.toArray.size=l.length:=by simp
 have hc:=AnyQ.slices_SortFunc L k aE zE ce hk (c8g h1) cf hO g cb blk 0 cap l.toArray w (a2a eg) (b2e hw hH hle hB h) (b2f hk hwb hc4) (a0y hwb) (by rw[hla];exact hl)
 rw[hla]at hc
 refine hc.mono fun en w' ⟨he,d',n,os,hp,hs,hw'⟩=>⟨.tuple #[],_,he,by rw[hw'];exact a8n (enc:=id) hw hH n (flatK ce k d') os,b2g hk hB hc1 hc2 hc3 hle hp hs⟩
theorem c6t {ρ:Ren} (L:SlLaysF0.n14 P ρ) (aE:∀w,(isAgg (ρ.t 24)).run P w= .ok true w) (zE:∀w,(Go.sizeOf (ρ.t 24)).run P w= .ok k w) (hk:∀x,(ce x).length=k) (h1:∀x,∀v∈ce x,a3G v=true) {cf:α->α->Int} (hO:SWO (ltOf cf)) {g:Nat} {cb:Array Value} (eg:a1q P g=true)
  {e:TypeId} {v:Value} {l:List α} (hle:PH.le B H) (ho:SO B H e k ce v l) (h0:l≠[]) (hl:l.length<4611686018427387904) (h:∀x y,a1g P g (.agg (ce x).toArray:: .agg (ce y).toArray::cb.toList) B (.int .i64 (cf x y))) (lim:Nat) (hlim:lim<4611686018427387904):
  Con P (ρ.f 14) [v,.int .i64 0,.int .i64 (l.length:Nat),.int .i64 (lim:Nat),.func (.func g) #[] cb] H fun _ H'=>PH.le B H'/\∃m:List α,m.Perm l/\m.Pairwise (fun a b=>¬cf b a<0)/\SO B H' e k ce v m:=by
 obtain⟨h2,⟨_,h3⟩|⟨blk,cap,cur,rfl,hB,hH,hc1,hc2,hc3,hc4⟩⟩:=ho
 ·exact absurd (List.eq_nil_of_length_eq_zero h3) h0
 intro w hw
 have hwb:=hw _ _ hH
 have hla:l.toArray.size=l.length:=by simp
 have hHK:=b2f hk hwb hc4
 have hc:=AnyQ.pdqsortCmpFunc_all L k aE zE ce cf g cb hO blk 0 cap l.toArray w (a2a eg) (b2e hw hH hle hB h) ⟨hk,c8g h1,hHK,a0y hwb⟩ (l.length+1) 0 l.length lim l.toArray w (by omega) rfl (SWK.start hHK) (Nat.zero_le _) (by rw[hla];exact Nat.le_refl _) (by rw[hla];exact hl) hlim (.inl rfl)
 rw[hla]at hc
 have hsr:=pdq_sorts (ltOf cf) hO l.toArray 0 l.length lim true true (Nat.zero_le _) (by rw[hla];exact Nat.le_refl _) (Or.inl rfl)
 refine hc.mono fun en w' ⟨he,n,os,hw'⟩=>⟨.tuple #[],_,he,by rw[hw'];exact a8n (enc:=id) hw hH n (flatK ce k _) os,b2g hk hB hc1 hc2 hc3 hle hsr.1 hsr.2⟩
end
end Go.RX
/- Iterations over maps: what is left. -/
namespace Go.RX
open Go.RowKit
theorem Rds.opn' {P:Program} {o:Oper} {vs:List Value} {H:PH} {v:Value} (h:Rds P o vs H v):Opn P o vs H fun u H'=>u=v/\H'=H:=fun w hw=>by
 unfold Stp
 have:=h w hw
 rw[this]
 exact⟨_,Step.refl hw,rfl,rfl⟩
def nxV (b:Bool) (x y:Value):Value:=if b then .tuple #[.bool true,x,y]else .tuple #[.bool false]
theorem b0v (b:Bool) (x y:Value):∃vs,nxV b x y= .tuple vs/\0<vs.size:=by cases b<;>exact⟨_,rfl,by simp⟩
theorem a2Q (b:Bool) (x y:Value):(match nxV b x y with| .tuple vs=>vs.getD 0 undef|_=>undef)= .bool b:=by cases b<;>rfl
section
variable {κ:Type} {ok:κ->Prop} {ke:κ->Value}
theorem a6Q {H H':PH} {v:Value} {q r clock:Nat} {es:List (κ×Value×Nat)} {seen:List Nat} (h:(left es seen=[]/\v= .tuple #[.bool false]/\H'=H)\/∃p∈left es seen,v= .tuple #[.bool true,ke p.1,p.2.1]/\H'=H.put q (.mapIter (some r) clock (seen++[p.2.2]).toArray clock)):
  ∃b x y,v=nxV b x y/\((b=false/\left es seen=[]/\H'=H)\/(b=true/\∃p∈left es seen,x=ke p.1/\y=p.2.1/\H'=H.put q (.mapIter (some r) clock (seen++[p.2.2]).toArray clock))):=by
 rcases h with⟨h1,h2,h3⟩|⟨p,h1,h2,h3⟩
 ·exact⟨false,undef,undef,h2,.inl ⟨rfl,h1,h3⟩⟩
 ·exact⟨true,_,_,h2,.inr ⟨rfl,p,h1,rfl,rfl,h3⟩⟩
theorem c8h {a b:Nat} (h:a≠b):Nat.beq a b=false:=by
 rw[Bool.eq_false_iff];intro e;exact h (Nat.eq_of_beq_eq_true e)
theorem a6R (es:List (κ×Value×Nat)):left es []=es:=by
 unfold left;exact List.filter_eq_self.2 fun x _=>rfl
theorem c0X (es:List (κ×Value×Nat)) (seen:List Nat) (b:Nat):left es (seen++[b])=(left es seen).filter fun p=> !Nat.beq p.2.2 b:=by
 unfold left
 rw[List.filter_filter]
 refine List.filter_congr fun p _=> ?_
 rw[List.any_append]
 simp[Bool.and_comm]
theorem a5C {es:List (κ×Value×Nat)} {seen:List Nat} {p:κ×Value×Nat} (hn:(es.map (·.2.2)).Nodup) (hp:p∈left es seen):∃a b,left es seen=a++p::b/\left es (seen++[p.2.2])=a++b:=by
 obtain⟨a,b,h⟩:=List.append_of_mem hp
 refine⟨a,b,h,?_⟩
 have hs:(left es seen).map (·.2.2)|>.Nodup:=(List.filter_sublist.map _).nodup hn
 rw[c0X,h,List.filter_append,List.filter_cons_of_neg (by simp)]
 rw[h,List.map_append,List.map_cons,List.nodup_append,List.nodup_cons]at hs
 obtain⟨h1,⟨h2,h3⟩,h4⟩:=hs
 congr 1
 ·refine List.filter_eq_self.2 fun x hx=> ?_
  have:=h4 _ (List.mem_map.2 ⟨x,hx,rfl⟩) p.2.2 (by simp)
  rw[c8h this];rfl
 ·refine List.filter_eq_self.2 fun x hx=> ?_
  have:x.2.2≠p.2.2:=fun e=>h2 (List.mem_map.2 ⟨x,hx,e⟩)
  rw[c8h this];rfl
end
end Go.RX
/- Fields of structs that are elements of a slice. -/
namespace Go.RX
open Go.RowKit
section
variable {P:Program} {T e e2:TypeId} {sz:Nat} {ag:Bool} {α:Type} {ce:α->List Value} {ve:α->Value} (E:El P T e sz ag ce ve)
variable {G Xp:Value->PH->Prop} {nx:List (List Value->PH->Prop)} {ρ:List Value} {H H0:PH} {o1 o2 o3:Oper} {x y x2 x3 y3:Operand} {id1 i1 id2 i2 id3 i3:Nat} {args1 args2 args3:List SV} {t:Tree} {v c:Value} {l:List α} {a a':α} {k:IntKind} {j f off:Nat} {pf:Bool}
include E
theorem c0Y (hF:FA P e f off) (hS:Sc P e2) (hc:(ce a)[off]? =some c) (ho1:o1.op= .indexAddr T x y) (ho2:o2.op= .fieldAddr e x2 f) (ho3:o3.op= .load e2 x3) (hx:a0k [x,y] [v,.int k (j:Nat)] x=v) (hy:a0k [x,y] [v,.int k (j:Nat)] y= .int k (j:Nat)) (hx2:∀p,a0k [x2] [p] x2=p) (hx3:∀p,a0k [x3] [p] x3=p)
  (h:SE H sz ce v l) (hj:l[j]? =some a) (ha:args1.map (D P ρ)=[v,.int k (j:Nat)]) (ha2:∀p,args2.map (D P (ρ++[p]))=[p]) (ha3:∀p p',args3.map (D P (ρ++[p]++[p']))=[p'])
  (n:∀p p',den P G Xp t nx (ρ++[p]++[p']++[c]) H):den P G Xp (.prim id1 i1 o1 args1 (.prim id2 i2 o2 args2 (.prim id3 i3 o3 args3 t))) nx ρ H:=by
 refine b0d E ho1 hx hy h hj ha fun p hp=> ?_
 obtain⟨b,q,cs,T',fz,rfl,h2,h3,h4⟩:=hp
 have hlt:=(List.getElem?_eq_some_iff.1 hc).1
 refine a0i hF ho2 (hx2 _) (ha2 _) ?_
 refine a0g hS ho3 (hx3 _) h2 ?_ (ha3 _ _) (n _ _)
 rw[<-Array.getElem?_toList]
 rw[<-h4,List.getElem?_take_of_lt hlt,List.getElem?_drop]at hc
 exact hc
theorem c0Z {ws:List Value} (hF:FA P e f off) (hA:Ag P e2 ws.length) (hw:((ce a).drop off).take ws.length=ws) (hlw:off+ws.length<=sz) (ho1:o1.op= .indexAddr T x y) (ho2:o2.op= .fieldAddr e x2 f) (ho3:o3.op= .load e2 x3) (hx:a0k [x,y] [v,.int k (j:Nat)] x=v) (hy:a0k [x,y] [v,.int k (j:Nat)] y= .int k (j:Nat)) (hx2:∀p,a0k [x2] [p] x2=p) (hx3:∀p,a0k [x3] [p] x3=p)
  (h:SE H sz ce v l) (hj:l[j]? =some a) (ha:args1.map (D P ρ)=[v,.int k (j:Nat)]) (ha2:∀p,args2.map (D P (ρ++[p]))=[p]) (ha3:∀p p',args3.map (D P (ρ++[p]++[p']))=[p'])
  (n:∀p p',den P G Xp t nx (ρ++[p]++[p']++[.agg ws.toArray]) H):den P G Xp (.prim id1 i1 o1 args1 (.prim id2 i2 o2 args2 (.prim id3 i3 o3 args3 t))) nx ρ H:=by
 refine b0d E ho1 hx hy h hj ha fun p hp=> ?_
 obtain⟨b,q,cs,T',fz,rfl,h2,h3,h4⟩:=hp
 rw[E.len]at h3 h4
 refine a0i hF ho2 (hx2 _) (ha2 _) ?_
 refine a0N hA ho3 (hx3 _) h2 ?_ (by omega) (ha3 _ _) (n _ _)
 rw[<-h4,List.drop_take,List.take_take,Nat.min_eq_left (by omega),List.drop_drop]at hw
 exact hw
end
end Go.RX
/- Splits: the parents of units. -/
namespace Go.GS
def a3l (lv:Nat) (x:Un):Int:=(x.par[lv]?).getD 0
def a8x (us:List Un) (p:List Int) (lv:Nat) (nm:Int):Nat->Nat
 |0=>0
 |i+1=>a8x us p lv nm i|||(match us[i]?,p[i]? with|some u,some x=>if a3l lv u=nm then 2^x.toNat else 0|_,_=>0)
theorem c1a {us:List Un} {p:List Int} {lv:Nat} {nm:Int} (h:∀x∈p,0<=x/\x<8):∀i,a8x us p lv nm i<256:=by
 intro i
 induction i with
 |zero=>show(0:Nat)<256;decide
 |succ i ih=>
  refine Nat.or_lt_two_pow (n:=8) ih ?_
  split
  ·rename_i u x h1 h2
   have:=h x (List.mem_of_getElem? h2)
   split
   ·exact Nat.pow_lt_pow_right (by decide) (by omega)
   ·decide
  ·decide
theorem c1b {us:List Un} {p:List Int} {lv:Nat} {i:Nat} {x:Un} {d:Nat} (hx:us[i]? =some x) (hp:p[i]? =some ((d:Nat):Int)) (nm:Int):a8x us p lv nm (i+1)=a8x us p lv nm i|||if a3l lv x=nm then 2^d else 0:=by
 show _|||_=_
 rw[hx,hp];rfl
def a8o (us:List Un) (lv i:Nat):List Int:=(us.take i).map (a3l lv)
theorem b2h {us:List Un} {lv i:Nat} {x:Un} (hx:us[i]? =some x):a8o us lv (i+1)=a8o us lv i++[a3l lv x]:=by
 unfold a8o;rw[List.take_add_one,hx,List.map_append];rfl
theorem d2h {us:List Un} {p:List Int} {lv:Nat} {nm:Int}:∀i,nm∉a8o us lv i->a8x us p lv nm i=0:=by
 intro i
 induction i with
 |zero=>intro _;rfl
 |succ i ih=>
  intro h
  show _|||_=0
  cases hx:us[i]? with
  |none=>
   have e:a8o us lv (i+1)=a8o us lv i:=by
    unfold a8o
    rw[List.take_of_length_le (by have:=List.getElem?_eq_none_iff.1 hx;omega),List.take_of_length_le (List.getElem?_eq_none_iff.1 hx)]
   rw[e]at h
   rw[ih h];cases p[i]?<;>exact Nat.zero_or 0
  |some x=>
   rw[b2h hx,List.mem_append,List.mem_singleton]at h
   rw[ih (fun hh=>h (.inl hh))]
   cases p[i]? with
   |none=>exact Nat.zero_or 0
   |some y=>
    show 0|||(if a3l lv x=nm then _ else 0)=0
    rw[if_neg (fun e=>h (.inr e.symm))];rfl
end Go.GS
namespace Go.Proofs.YtlmgkkjgdapnpaaGreatDoor
open Go.Proofs.Tryz
open Go.RowKit Go.RX Go.GS Go.RZ Go.WD
set_option maxRecDepth 100000
section
variable {H B:PH} {n k lv:Nat} {us:List Un} {w:Value} {u v:Value} {p:List Int}
def viB (w:Value) (lv:Nat):Array Value:= #[ii 2,ii 3,ii 2,w,ii (lv:Nat)]
def viV (w:Value) (lv:Nat):Value:= .agg (viB w lv)
theorem b3K (h:a3G w=true):(viV w lv).cells.size=5/\a0p (viV w lv).cells:=⟨rfl,fun c hc=>by
 simp[viV,viB,Value.cells]at hc
 rcases hc with rfl|rfl|rfl|rfl|rfl
 ·rfl
 ·rfl
 ·rfl
 ·exact h
 ·rfl⟩
theorem c1c (hr:RoR H w us) (hv:RoV n us) (hl:lv<2):a1g prog 263 [rov w,ii (lv:Nat)] H (.tuple #[viV w lv,ii 0]):=by
 refine a0b mixed d1U (by kernel_rfl) rfl ?_
 refine a0a (a1A hr.one) ?_
 refine a0h (a3k hr hv) rfl fun H1 l1=> ?_
 simp only[cA,nA]
 refine a0a ⟨_,rfl⟩ ?_
 refine a0e (bF (p:=(0:Int)≠0) (by simp)) ?_
 refine a0a ⟨_,rfl⟩ ?_
 refine a0e (bF (p:=((lv:Nat):Int)<0) (by omega)) ?_
 refine a0a ⟨_,rfl⟩ ?_
 refine a0e (bF (p:=((lv:Nat):Int)≥2) (by omega)) ?_
 refine a0a (el_int.vcells _) ?_
 exact a0c rfl ⟨l1,rfl⟩
def c1d (b:Nat) (w:Value) (lv:Nat):PH:=PH.nil.put b (.cells (viB w lv) 354 (0,0))
theorem b2i (b:Nat) (w:Value) (lv:Nat):c1d b w lv b=some (.cells (viB w lv) 354 (0,0)):=PH.put_self _ _ _
theorem c1e {X:PH} {b:Nat} (h:X b=none):Disj X (c1d b w lv):=b0e (a5p X) h
theorem c1f:a1q prog 282=true:=by kernel_rfl
theorem c6u (hw:a3G w=true):Con prog 275 [viV w lv] H fun u H'=>∃b,H b=none/\H'=H.or (c1d b w lv)/\u= .func (.func 282) #[] #[.pointer (some ⟨b,0,none⟩)]:=by
 refine a0b mixed d1V (by kernel_rfl) rfl ?_
 refine a0a (b3K hw) ?_
 refine a0A (cs:=viB w lv) rfl fun b hb=> ?_
 simp only[cA,nA]
 refine a0O (a0z (vs:=[.pointer (some ⟨b,0,none⟩)]) rfl rfl) rfl ?_
 simp only[cA,nA]
 exact a0c rfl ⟨b,hb,PH.put_or hb,rfl⟩
theorem d5f:FA prog 354 0 0:=⟨by kernel_rfl,of_decide_eq_true (by kernel_rfl),by kernel_rfl,by kernel_rfl,of_decide_eq_true (by kernel_rfl)⟩
theorem d5g:FA prog 354 1 4:=⟨by kernel_rfl,of_decide_eq_true (by kernel_rfl),by kernel_rfl,by kernel_rfl,of_decide_eq_true (by kernel_rfl)⟩
theorem c1g {x:Un} (hx:UnV x) (hl:lv<2):x.par[lv]? =some (a3l lv x):=by
 have:=hx.pl
 unfold a3l
 rw[List.getElem?_eq_getElem (by omega)];rfl
theorem c6v {b:Nat} {Ro:PH} (hr:RoR Ro w us) (hv:RoV n us) (hl:lv<2):ItC prog 282 [.pointer (some ⟨b,0,none⟩)] Ro (c1d b w lv) (fun pre xs=>∃x,us[pre.length]? =some x/\pre.length<n/\xs=[ii (pre.length:Nat),ii (a3l lv x)]) (fun xs _=>xs.length=n) (fun _ _=>True):=by
 intro l J Jx hRo hY X hX hd w' hw'
 refine(a0b (H:=X.or (c1d b w lv)) (V:=fun _ H'=>∃X' K',PH.le (X'.or K') H'/\Disj X' K'/\((∃xs,xs.length=n/\J xs X')\/(∃pre,True/\Jx pre X'))) mixed c6m (by kernel_rfl) rfl ?_ w' hw').mono fun e w' ⟨v,H',he,hst,hV⟩=>⟨v,H',he,hst,hV⟩
 have hb:=PH.or_right hd (b2i b w lv)
 obtain⟨ul,hwu,hlen,hun⟩:=hr
 have hle:=hv.le
 have h64:=hv.l64
 refine a0i d5f rfl rfl rfl ?_
 simp only[cA,nA]
 refine a0i c0F rfl rfl rfl ?_
 simp only[cA,nA]
 refine a0g c0G rfl rfl hb rfl rfl ?_
 simp only[cA,nA]
 refine a0j a0U rfl rfl (hwu.mono ((hRo _ _ hX).trans (PH.le_or _ _))) rfl ?_
 simp only[cA,nA]
 refine a0o (α:=Nat×List (List Value)×PH) (fun⟨i,pre,X'⟩=>[ii (i:Nat)]) (fun⟨i,pre,X'⟩=>fun H'=>i<=us.length/\H'=X'.or (c1d b w lv)/\Disj X' (c1d b w lv)/\pre.length=min i n/\J pre X') (fun⟨i,pre,X'⟩=>us.length-i) ((0,[],X)) rfl (⟨Nat.zero_le _,rfl,hd,by simp,hX⟩) fun⟨i,pre,X'⟩ H' hQ=> ?_
 simp only[cA,nA]
 obtain⟨hi,rfl,hd',hpre,hJ⟩:=hQ
 refine a0a ⟨_,rfl⟩ ?_
 refine a0a ⟨_,rfl⟩ ?_
 refine a0f (b:=decide (((i:Nat):Int)<(ul.length:Nat))) rfl (fun h=> ?_) (fun h=> ?_)
 ·replace h:=of_decide_eq_true h
  have hiu:i<ul.length:=by omega
  obtain⟨u,hu,_⟩:=a0t hiu
  obtain⟨x,hx,_⟩:=a0t (show i<us.length by omega)
  have hR:=hun i u x hu hx
  have hwt:u.wat=decide (n<=i):=hR.wat.trans (hv.wat i x hx)
  refine a0m a0U rfl rfl rfl rfl (fun _=>rfl) (hwu.mono ((hRo _ _ hJ).trans (PH.le_or _ _))) hu rfl (fun _=>rfl) fun _=> ?_
  simp only[cA,nA]
  refine a0a (a1O u) ?_
  refine a0a ⟨_,rfl⟩ ?_
  refine a0f (b:= !u.wat) rfl (fun hb2=> ?_) (fun hb2=> ?_)
  ·skip
   have hni:¬n<=i:=fun hh=>by rw[hwt,decide_eq_true hh]at hb2;cases hb2
   have hpi:pre.length=i:=by omega
   have hb':=PH.or_right hd' (b2i b w lv)
   refine a0i d5g rfl rfl rfl ?_
   simp only[cA,nA]
   refine a0g sc_int rfl rfl hb' rfl rfl ?_
   simp only[cA,nA]
   refine a0m el_int rfl rfl rfl rfl (fun _=>rfl) (hR.par.mono ((hRo _ _ hJ).trans (PH.le_or _ _))) (c1g (hv.un x (List.mem_of_getElem? hx)) hl) rfl (fun _=>rfl) fun _=> ?_
   simp only[cA,nA]
   refine a3X (hY _ [ii (i:Nat),ii (a3l lv x)] X' (c1d b w lv) ⟨x,by rw[hpi];exact hx,by omega,by rw[hpi]⟩ hJ hd') rfl rfl rfl rfl rfl fun v X2 hd2 hV=> ?_
   simp only[cA,nA]
   obtain⟨bb,rfl,hb1,hb3⟩:∃bb,v= .bool bb/\(bb=true->J (pre++[[ii (i:Nat),ii (a3l lv x)]]) X2)/\(bb=false->Jx (pre++[[ii (i:Nat),ii (a3l lv x)]]) X2):=by
    rcases hV with⟨rfl,h⟩|⟨rfl,h⟩
    ·exact⟨true,rfl,fun _=>h,(fun h=>nomatch h)⟩
    ·exact⟨false,rfl,(fun h=>nomatch h),fun _=>h⟩
   refine a0a ⟨_,rfl⟩ ?_
   refine a0f (b:= !bb) rfl (fun hbb=> ?_) (fun hbb=> ?_)
   ·skip
    exact a0c rfl ⟨X2,c1d b w lv,PH.le.refl _,hd2,.inr ⟨_,trivial,hb3 (by simpa using hbb)⟩⟩
   ·skip
    exact⟨(i+1,pre++[[ii (i:Nat),ii (a3l lv x)]],X2),by show us.length-(i+1)<us.length-i;omega,(a1R (a0J rfl (by omega))),⟨by show i+1<=us.length;omega,rfl,hd2,by rw[List.length_append];simp only[List.length_cons,List.length_nil];omega,hb1 (by simpa using hbb)⟩⟩
  ·skip
   have hni:n<=i:=by rw[hwt]at hb2;simpa using hb2
   exact⟨(i+1,pre,X'),by show us.length-(i+1)<us.length-i;omega,(a1R (a0J rfl (by omega))),⟨by show i+1<=us.length;omega,rfl,hd',by show pre.length=min (i+1) n;omega,hJ⟩⟩
 ·replace h:=of_decide_eq_false h
  exact a0c rfl ⟨X',c1d b w lv,PH.le.refl _,hd',.inl ⟨pre,by omega,hJ⟩⟩
def paC (nm z:Int) (m:Nat):Array Value:= #[ii nm,ii z,.int .u8 (m:Nat)]
theorem c8i:FA prog 332 1 1:=⟨by kernel_rfl,of_decide_eq_true (by kernel_rfl),by kernel_rfl,by kernel_rfl,of_decide_eq_true (by kernel_rfl)⟩
theorem c8j:FA prog 332 2 2:=⟨by kernel_rfl,of_decide_eq_true (by kernel_rfl),by kernel_rfl,by kernel_rfl,of_decide_eq_true (by kernel_rfl)⟩
theorem d2i:Sc prog 5:=⟨by kernel_rfl,by kernel_rfl,by kernel_rfl⟩
theorem d5h {ρ:List Value} {a b:SV} {m d:Nat} (ha:D prog ρ a= .int .u8 (m:Nat)) (hb:D prog ρ b=ii (d:Nat)) (hm:m<256) (hd:d<8):D prog ρ (.op2 .or .u8 a (.op2 .shl .u8 (.k (.int .u8 1)) b))= .int .u8 ((m|||2^d:Nat):Int):=by
 have h1:D prog ρ (.op2 .shl .u8 (.k (.int .u8 1)) b)= .int .u8 ((2^d:Nat):Int):=by
  show a2U .shl .u8 (intOf (.int .u8 1)) (intOf (D prog ρ b))=_
  rw[hb]
  have:∀d,d<8->a2U .shl .u8 (intOf (.int .u8 1)) (intOf (ii ((d:Nat):Int)))= .int .u8 ((2^d:Nat):Int):=by
   intro d hd
   match d,hd with
   |0,_=>rfl
   |1,_=>rfl
   |2,_=>rfl
   |3,_=>rfl
   |4,_=>rfl
   |5,_=>rfl
   |6,_=>rfl
   |7,_=>rfl
  exact this d hd
 show a2U .or .u8 (intOf (D prog ρ a)) (intOf (D prog ρ (.op2 .shl .u8 (.k (.int .u8 1)) b)))=_
 rw[ha,h1]
 have hp:2^d<2^8:=Nat.pow_lt_pow_right (by decide) hd
 have bv8:∀a:Nat,a<256->(BitVec.ofInt 8 (a:Int)).toNat=a:=fun a ha=>by
  rw[BitVec.toNat_ofInt];omega
 have e:(BitVec.ofInt 8 (m:Int)|||BitVec.ofInt 8 ((2^d:Nat):Int)).toNat=m|||2^d:=by rw[BitVec.toNat_or,bv8 m hm,bv8 _ hp]
 show Value.int .u8 (IntKind.u8.wrap ((BitVec.ofInt 8 (m:Int)|||BitVec.ofInt 8 ((2^d:Nat):Int)).toNat:Int))=_
 rw[e]
 have h9:m|||2^d<2^8:=Nat.or_lt_two_pow hm hp
 congr 1
 show((m|||2^d:Nat):Int)%256=_
 omega
theorem b5a {b:Nat} {T:TypeId} {nm z x:Int} {m d:Nat} (hb:H b=some (.cells (paC nm z m) T (0,0))) (hm:m<256) (hd:d<8):Con prog 276 [.pointer (some ⟨b,0,none⟩),ii x,ii (d:Nat)] H fun r H'=>∃z',H'=H.put b (.cells (paC nm z' (m|||2^d)) T (0,0)):=by
 refine a0b mixed d1X (by kernel_rfl) rfl ?_
 refine a0u (ad:=⟨b,0,none⟩) rfl rfl rfl ?_
 simp only[cA,nA]
 refine a0i c8i rfl rfl rfl ?_
 simp only[cA,nA]
 refine a0g sc_int rfl rfl hb rfl rfl ?_
 simp only[cA,nA]
 refine a0a ⟨_,rfl⟩ ?_
 refine a0a ⟨_,rfl⟩ ?_
 refine a0u (ad:=⟨b,0,none⟩) rfl rfl rfl ?_
 simp only[cA,nA]
 refine a0i c8i rfl rfl rfl ?_
 simp only[cA,nA]
 refine a1f (u:=ii (IntKind.i64.wrap (z+x))) sc_int rfl rfl rfl hb (by show 1<3;decide) rfl rfl rfl (fun h=>(nomatch h)) ?_
 simp only[cA,nA]
 refine a0u (ad:=⟨b,0,none⟩) rfl rfl rfl ?_
 simp only[cA,nA]
 refine a0i c8j rfl rfl rfl ?_
 simp only[cA,nA]
 refine a0g d2i rfl rfl (PH.put_self _ _ _) rfl rfl ?_
 simp only[cA,nA]
 refine a0a ⟨_,_,rfl⟩ ?_
 refine a0a (show(0:Int)<=((d:Nat):Int) by omega) ?_
 refine a0a ⟨_,rfl⟩ ?_
 refine a0u (ad:=⟨b,0,none⟩) rfl rfl rfl ?_
 simp only[cA,nA]
 refine a0i c8j rfl rfl rfl ?_
 simp only[cA,nA]
 refine a1f (u:= .int .u8 ((m|||2^d:Nat):Int)) d2i rfl rfl rfl (PH.put_self _ _ _) (by show 2<3;decide) rfl rfl (a0R rfl (d5h rfl rfl hm hd)) (fun h=>(nomatch h)) ?_
 simp only[cA,nA]
 exact a0c rfl ⟨_,by rw[PH.put_put];rfl⟩
end
end Go.Proofs.YtlmgkkjgdapnpaaGreatDoor

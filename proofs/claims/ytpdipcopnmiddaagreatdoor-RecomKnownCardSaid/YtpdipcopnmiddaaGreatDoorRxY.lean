/- Operations on pointers; bytes; strings of bytes. -/
import Derived.Test.YtpdipcopnmiddaaGreatDoorRxT
import Derived.Lib.Builder
import Derived.Lib.UnsafeStr
import Derived.LaidEqlPtr
import Derived.Laws.Concat
import Derived.Laws.IdiomStrings
import Derived.Laws.BytesArg
import Derived.Laws.Small
import Derived.Laws.CopyRow
import Derived.Laws.IdiomCopy
namespace Go.RX
open Go.RowKit

def fieldsOf (P : Program) (t : TypeId) : Array Field := match P.underlying t with | some (.struct fs) => fs | _ => #[]
def fieldAt (P : Program) (t : TypeId) (i : Nat) : Field := ((fieldsOf P t)[i]?).getD default
theorem fieldAt_get {P : Program} {t : TypeId} {i : Nat} (h : i < (fieldsOf P t).size) : (fieldsOf P t)[i]? = some (fieldAt P t i) := by
 unfold fieldAt
 rw [Array.getElem?_eq_getElem h]; rfl
theorem PH.put_same {H : PH} {b : Nat} {ob : Obj} (h : H b = some ob) : H.put b ob = H := by
 funext k
 unfold PH.put
 split
 ·rename_i e; rw [e,h]
 ·rfl
section
variable {P : Program} {H : PH} {o : Oper} {x y : Operand} {vs : List Value}
theorem yld_nilCheck {a : Addr} (ho : o.op = .nilCheck x) (hx : argEv [x] vs x = .pointer (some a)) : Yld P o vs (.pointer (some a)) := fun w => by
 have hos : o.op.operands.toList = [x] := by simp [ho,Op.operands]
 rw [hos]
 simp only [execOp,ho,hx]
 rfl
end
end Go.RX
namespace Go.RX
open Go.RowKit

section
variable {P : Program} {H : PH} {o : Oper} {x y : Operand} {vs : List Value} {l m : List UInt8}
theorem yld_imin {t u : TypeId} {a b : Int} (ho : o.op = .call ⟨.builtin .min,#[x,y],#[t,u]⟩) (hx : argEv [x,y] vs x = .int .i64 a) (hy : argEv [x,y] vs y = .int .i64 b) : Yld P o vs (.int .i64 (if b < a then b else a)) := fun w => by
 have hos : o.op.operands.toList = [x,y] := by simp [ho,Op.operands,Call.operands]
 rw [hos]
 simp only [execOp,ho,resolve,invoke,Sem.run_bind,Sem.run_pure,Result.andThen_ok,List.map_toArray,List.map_cons,List.map_nil,hx,hy]
 simp only [builtin,Sem.run_bind,run_min_int2,Result.andThen_ok]
 rfl
theorem yld_fieldAddrN {S T : TypeId} {i b q off : Nat} (ho : o.op = .fieldAddr S x i) (hx : argEv [x] vs x = .pointer (some ⟨b,q,none⟩)) (hS : P.underlying S = some (.struct (fieldsOf P S))) (hi : i < (fieldsOf P S).size) (hT : (fieldAt P S i).type = T) (hof : (fieldAt P S i).offset = off) (hT' : hasT P T = true) (hc : P.cellsOf T ≠ 0) : Yld P o vs (.pointer (some ⟨b,q + off,none⟩)) := fun w => by
 have hos : o.op.operands.toList = [x] := by simp [ho,Op.operands]
 rw [hos]
 simp only [execOp,ho,hx,Sem.run_bind]
 rw [run_fieldAt hS (fieldAt_get hi) (by rw [hT]; exact hT') (by rw [hT]; exact hc),hof]
 rfl
end
end Go.RX

/- Slices of elements of any kind, iterators. -/
namespace Go.RX
open Go.RowKit

section
variable {α : Type} {ce : α -> List Value} {sz : Nat}
theorem fm_drop (hl : ∀ x,(ce x).length = sz) : ∀ (l : List α) (j : Nat),(l.flatMap ce).drop (j * sz) = (l.drop j).flatMap ce := by
 intro l
 induction l with
 | nil => intro j; simp
 | cons x l ih =>
  intro j
  cases j with
  | zero => simp
  | succ j => rw [List.flatMap_cons,Nat.add_mul,Nat.one_mul,Nat.add_comm,<- List.drop_drop,show sz = (ce x).length from (hl x).symm,List.drop_left,hl x,ih j,List.drop_succ_cons]
theorem fm_at (hl : ∀ x,(ce x).length = sz) {l : List α} {j : Nat} {a : α} (h : l[j]? = some a) : ((l.flatMap ce).drop (j * sz)).take sz = ce a := by
 rw [fm_drop hl]
 obtain ⟨hlt,rfl⟩ := List.getElem?_eq_some_iff.1 h
 rw [List.drop_eq_getElem_cons hlt,List.flatMap_cons,List.take_append_of_le_length (by rw [hl]; exact Nat.le_refl _),List.take_of_length_le (by rw [hl]; exact Nat.le_refl _)]
end

structure El (P : Program) (T e : TypeId) (sz : Nat) (ag : Bool) {α : Type} (ce : α -> List Value) (ve : α -> Value) : Prop where
 und : P.underlying T = some (.slice e)
 has : hasT P e = true
 cel : P.cellsOf e = sz
 agg : isAggB P e = ag
 pos : 0 < sz
 one1 : ag = false -> sz = 1
 small : sz <= 1000
 inf : ∃ i z,P.info? e = some i /\ i.zero = some z /\ i.size = sz /\ z.cells.size = sz /\ i.bytes <= 1000
 len : ∀ x,(ce x).length = sz
 val : ∀ x,ve x = if ag then .agg (ce x).toArray else (ce x).headD undef
 cells : ∀ x,(ve x).cells.toList = ce x
 one : ∀ x,∀ c ∈ ce x,oneC c = true
def SE (H : PH) (sz : Nat) {α : Type} (ce : α -> List Value) (v : Value) (l : List α) : Prop := Sl H sz v l.length (l.flatMap ce)
def Pt (H : PH) (p : Value) (ws : List Value) : Prop := ∃ b q cs T fz,p = .pointer (some ⟨b,q,none⟩) /\ H b = some (.cells cs T fz) /\ q + ws.length <= cs.size /\ (cs.toList.drop q).take ws.length = ws
section
variable {α : Type} {ce : α -> List Value} {sz : Nat} {H H' H0 : PH} {v : Value} {l : List α} {e : TypeId}
theorem SE.mono (h : SE H sz ce v l) (hl : PH.le H H') : SE H' sz ce v l := Sl.mono h hl
theorem SE.cells (h : SE H sz ce v l) : v.cells = #[v] := by
 obtain ⟨_,a,c,h2,_⟩ := h; rw [h2]; rfl
theorem SE.one (h : SE H sz ce v l) : v.cells.size = 1 /\ oneAll v.cells := by
 rw [h.cells]
 obtain ⟨_,a,c,h2,_⟩ := h
 refine ⟨rfl,fun c hc => ?_⟩
 simp at hc; rw [hc,h2]; rfl
end

section
variable {P : Program} {T e : TypeId} {sz : Nat} {ag : Bool} {α : Type} {ce : α -> List Value} {ve : α -> Value} (E : El P T e sz ag ce ve)
variable {G : Value -> PH -> Prop} {nx : List (List Value -> PH -> Prop)} {ρ : List Value} {H H0 : PH} {o o1 o2 : Oper} {x y x2 y2 lo hi : Operand} {id i id2 i2 : Nat} {args args2 : List SV} {t : Tree} {v p : Value} {l : List α} {a : α} {k : IntKind} {j : Nat} {pf pf2 : Bool} {vs : List Value}
include E
theorem El.vcells (x : α) : (ve x).cells.size = sz /\ oneAll (ve x).cells := by
 refine ⟨?_,fun c hc => ?_⟩
 ·rw [<- Array.length_toList,E.cells,E.len]
 ·rw [E.cells] at hc; exact E.one x c hc
theorem den_lenE (ho : o.op = .call ⟨.builtin .len,#[x],#[T]⟩) (hx : argEv [x] [v] x = v) (h : SE H sz ce v l) (ha : args.map (D P ρ) = [v]) (n : den P G t nx (ρ ++ [.int .i64 (l.length : Nat)]) H) : den P G (.prim id i o args t) nx ρ H :=
 den_prim ((sl_len ho hx E.und h).rds H) ha n
theorem pt_at (ho : o.op = .indexAddr T x y) (hx : argEv [x,y] [v,.int k (j : Nat)] x = v) (hy : argEv [x,y] [v,.int k (j : Nat)] y = .int k (j : Nat)) (h : SE H sz ce v l) (hj : l[j]? = some a) : ∃ p,Yld P o [v,.int k (j : Nat)] p /\ Pt H p (ce a) := by
 obtain ⟨hlt,_⟩ := List.getElem?_eq_some_iff.1 hj
 obtain ⟨b,q,cs,T',fz,h1,h2,h3,h4⟩ := sl_at (P := P) ho hx hy E.und E.has E.cel E.pos h hlt
 rw [fm_at E.len hj] at h4
 exact ⟨_,h1,b,q,cs,T',fz,rfl,h2,by rw [E.len]; exact h3,by rw [E.len]; exact h4⟩
theorem den_ixE (ho : o.op = .indexAddr T x y) (hx : argEv [x,y] [v,.int k (j : Nat)] x = v) (hy : argEv [x,y] [v,.int k (j : Nat)] y = .int k (j : Nat)) (h : SE H sz ce v l) (hj : l[j]? = some a) (ha : args.map (D P ρ) = [v,.int k (j : Nat)])
  (n : ∀ p,Pt H p (ce a) -> den P G t nx (ρ ++ [p]) H) : den P G (.prim id i o args t) nx ρ H := by
 obtain ⟨p,h1,h2⟩ := pt_at E ho hx hy h hj
 exact den_prim (h1.rds H) ha (n p h2)
theorem rds_ldE (ho : o.op = .load e x) (hx : argEv [x] [p] x = p) (h : Pt H p (ce a)) : Rds P o [p] H (ve a) := by
 obtain ⟨b,q,cs,T',fz,rfl,h2,h3,h4⟩ := h
 rw [E.len] at h3 h4
 rw [E.val a]
 cases hag : ag with
 | true =>
  have := sl_loadN ho hx h2 E.has (by rw [E.agg,hag]) E.cel h3 h4
  simpa using this
 | false =>
  have h1 := E.one1 hag
  subst h1
  have e1 : ce a = [(ce a).headD undef] := by
   have := E.len a
   match hc : ce a,this with
   | [c],_ => rfl
  rw [e1] at h4
  have := sl_load1 ho hx h2 E.has (by rw [E.agg,hag]) E.cel h3 h4
  simpa using this
theorem den_ldE (ho : o.op = .load e x) (hx : argEv [x] [p] x = p) (h : Pt H p (ce a)) (ha : args.map (D P ρ) = [p]) (n : den P G t nx (ρ ++ [ve a]) H) : den P G (.prim id i o args t) nx ρ H :=
 den_prim (rds_ldE E ho hx h) ha n
theorem den_atE (ho1 : o1.op = .indexAddr T x y) (ho2 : o2.op = .load e x2) (hx : argEv [x,y] [v,.int k (j : Nat)] x = v) (hy : argEv [x,y] [v,.int k (j : Nat)] y = .int k (j : Nat)) (hx2 : ∀ p,argEv [x2] [p] x2 = p) (h : SE H sz ce v l) (hj : l[j]? = some a)
  (ha : args.map (D P ρ) = [v,.int k (j : Nat)]) (ha2 : ∀ p,args2.map (D P (ρ ++ [p])) = [p]) (n : ∀ p,den P G t nx (ρ ++ [p] ++ [ve a]) H) : den P G (.prim id i o1 args (.prim id2 i2 o2 args2 t)) nx ρ H :=
 den_ixE E ho1 hx hy h hj ha fun p hp => den_ldE E ho2 (hx2 p) hp (ha2 p) (n p)
end

theorem PH.or_put {X K : PH} {b : Nat} {ob : Obj} (h : X b = none) : (X.or K).put b ob = X.or (K.put b ob) := by
 funext k
 unfold PH.put PH.or
 by_cases e : k = b
 ·subst e; simp [h]
 ·simp only [if_neg e]
theorem disj_put {X K : PH} {b : Nat} {ob : Obj} (h : Disj X K) (hb : X b = none) : Disj X (K.put b ob) := fun k hk => by
 unfold PH.put
 rw [if_neg (fun e => by rw [e] at hk; exact hk hb)]; exact h k hk
theorem disj_nil (X : PH) : Disj X PH.nil := fun _ _ => rfl
theorem Disj.none {X K : PH} (h : Disj X K) {b : Nat} (hb : K b ≠ none) : X b = none := by
 cases e : X b with
 | none => rfl
 | some o => exact absurd (h b (by simp [e])) hb
theorem PH.or_right {X K : PH} {b : Nat} {ob : Obj} (h : Disj X K) (hb : K b = some ob) : X.or K b = some ob := PH.or_r h b ob hb
theorem den_rf {P : Program} {G : Value -> PH -> Prop} {nx : List (List Value -> PH -> Prop)} {ρ : List Value} {g : SV} {np : Nat} {ini : List SV} {tb ta te : Tree} {f : FuncId} {caps : List Value} {X K Ro : PH} {E : List (List Value) -> List Value -> Prop} {S Sp : List (List Value) -> PH -> Prop} (I Ix : List (List Value) -> List Value -> PH -> Prop)
  (hit : ItC P f caps Ro K E S Sp) (hent : entB P f = true) (hd : Disj X K) (hg : D P ρ g = .func (.func f) #[] caps.toArray) (hRo : ∀ pre vals X',I pre vals X' -> PH.le Ro X') (h0 : I [] (ini.map (D P ρ)) X)
  (hr : ∀ pre xs vals X',E pre xs -> vals.length = ini.length -> I pre vals X' -> xs.length = np /\ den P G tb (nx ++ [fun v h => I (pre ++ [xs]) v h,fun v h => Ix (pre ++ [xs]) v h]) (ρ ++ (xs ++ vals)) X')
  (ha : ∀ xs vals X' K',S xs K' -> Disj X' K' -> vals.length = ini.length -> I xs vals X' -> den P G ta nx (ρ ++ vals) (X'.or K'))
  (hx : ∀ pre vals X' K',Sp pre K' -> Disj X' K' -> vals.length = ini.length -> Ix pre vals X' -> den P G te nx (ρ ++ vals) (X'.or K')) : den P G (.rf g np ini tb ta te) nx ρ (X.or K) :=
 ⟨f,caps,X,K,Ro,E,S,Sp,I,Ix,hg,hent,rfl,hd,hit,hRo,h0,hr,ha,hx⟩
theorem den_yield {P : Program} {G : Value -> PH -> Prop} {nx : List (List Value -> PH -> Prop)} {ρ : List Value} {pf : Bool} {id i : Nat} {o : Oper} {x : Operand} {as : Array Operand} {tys : Array TypeId} {args : List SV} {t : Tree} {l : Nat} {xs : List Value} {X K : PH} {V : Value -> PH -> Prop}
  (hy : YieldC P l xs X K V) (ho : o.op = .call ⟨.value x,as,tys⟩) (hx : argEv (x :: as.toList) (.func (.yield l) #[] #[] :: xs) x = .func (.yield l) #[] #[]) (ha' : as.toList.map (argEv (x :: as.toList) (.func (.yield l) #[] #[] :: xs)) = xs) (ha : args.map (D P ρ) = .func (.yield l) #[] #[] :: xs) (hpf : pf = false)
  (n : ∀ v X',Disj X' K -> V v X' -> den P G t nx (ρ ++ [v]) (X'.or K)) : den P G (.eff pf id i o args t) nx ρ (X.or K) := by
 intro w hw
 rw [ha]
 have hA : as.map (argEv (x :: as.toList) (.func (.yield l) #[] #[] :: xs)) = xs.toArray := by rw [<- Array.toList_inj,Array.toList_map]; exact ha'
 have hos : o.op.operands.toList = x :: as.toList := by simp [ho,Op.operands,Call.operands]
 obtain ⟨fn,tmps,asg,body,h1,h2⟩ := hy w hw
 have hr : (execOp (argEv (x :: as.toList) (.func (.yield l) #[] #[] :: xs)) o).run P w = .ok (.round l fn tmps asg body) w := by
  simp only [execOp,ho,resolve,hx,hA,Deferred.ofValue,Sem.run_bind,Sem.run_pure,Result.andThen_ok,invoke]
  simpa using h1
 unfold Stp
 rw [hos,hr]
 refine h2.mono fun e w' ⟨v,X',he,hs,hd,hV⟩ => ⟨v,he,X'.or K,hs,(fun h => by rw [hpf] at h; cases h),n v X' hd hV⟩
end Go.RX

/- Loops by states; calls that only read. -/

namespace Go.RX
open Go.RowKit
def Asks (P : Program) (f : FuncId) (args : List Value) (H : PH) (v : Value) : Prop := Con P f args H fun u H' => H' = H /\ u = v
section
variable {P : Program} {G : Value -> PH -> Prop} {nx : List (List Value -> PH -> Prop)} {ρ : List Value} {H : PH}
theorem den_ask {pf : Bool} {f : FuncId} {args : List SV} {t : Tree} {vs : List Value} {v : Value} (hd : Asks P f vs H v) (ha : args.map (D P ρ) = vs) (n : den P G t nx (ρ ++ [v]) H) : den P G (.call pf f args t) nx ρ H :=
 den_call hd ha fun u H' ⟨h1,h2⟩ => by subst h1; subst h2; exact ⟨fun _ => PH.le.refl _,n⟩
theorem nx_app {F : List Value -> PH -> Prop} {nx nx' : List (List Value -> PH -> Prop)} {a b : List Value -> PH -> Prop} (hl : nx.length = nx'.length) (h : ∀ d l h,nx.getD d F l h -> nx'.getD d F l h) (hab : ∀ l h,a l h -> b l h) :
  (nx ++ [a]).length = (nx' ++ [b]).length /\ ∀ d l h,(nx ++ [a]).getD d F l h -> (nx' ++ [b]).getD d F l h := by
 refine ⟨by simp [hl],fun d l h' hx => ?_⟩
 rw [List.getD_eq_getElem?_getD] at hx ⊢
 by_cases hd : d < nx.length
 ·rw [List.getElem?_append_left hd] at hx
  rw [List.getElem?_append_left (by omega)]
  have := h d l h'
  rw [List.getD_eq_getElem?_getD,List.getD_eq_getElem?_getD] at this
  exact this hx
 ·rw [List.getElem?_append_right (by omega)] at hx
  rw [List.getElem?_append_right (by omega)]
  rw [<- hl]
  cases e : d - nx.length with
  | zero => rw [e] at hx; exact hab l h' hx
  | succ n => rw [e] at hx; exact hx
theorem den_mono : ∀ (t : Tree) (nx nx' : List (List Value -> PH -> Prop)) (ρ : List Value) (H : PH),nx.length = nx'.length -> (∀ d l h,nx.getD d (fun _ _ => False) l h -> nx'.getD d (fun _ _ => False) l h) -> den P G t nx ρ H -> den P G t nx' ρ H := by
 intro t
 induction t with
 | ret l => intro nx nx' ρ H _ _ h; exact h
 | rq r t ih => intro nx nx' ρ H hl hn h; exact ⟨h.1,ih _ _ _ _ hl hn h.2⟩
 | br c t e ih1 ih2 => intro nx nx' ρ H hl hn h; exact ⟨fun hc => ih1 _ _ _ _ hl hn (h.1 hc),fun hc => ih2 _ _ _ _ hl hn (h.2 hc)⟩
 | call pf f args t ih =>
  intro nx nx' ρ H hl hn h w hw
  exact (h w hw).mono fun e w' ⟨v,H',he,hs,hp,hd⟩ => ⟨v,H',he,hs,hp,ih _ _ _ _ hl hn hd⟩
 | prim id i o args t ih =>
  intro nx nx' ρ H hl hn h
  obtain ⟨v,hd,h⟩ := h
  exact ⟨v,hd,ih _ _ _ _ hl hn h⟩
 | eff pf id i o args t ih =>
  intro nx nx' ρ H hl hn h w hw
  exact (h w hw).mono fun u w' ⟨H',hs,hp,hd⟩ => ⟨H',hs,hp,ih _ _ _ _ hl hn hd⟩
 | ext f args t ih =>
  intro nx nx' ρ H hl hn h
  obtain ⟨v,hd,h⟩ := h
  exact ⟨v,hd,ih _ _ _ _ hl hn h⟩
 | pub T c t ih => intro nx nx' ρ H hl hn h b hb; exact ih _ _ _ _ hl hn (h b hb)
 | dead n => intro nx nx' ρ H _ _ h; exact h
 | rf g np ini tb ta te ih1 ih2 ih3 =>
  intro nx nx' ρ H hl hn h
  obtain ⟨f,caps,X,K,Ro,E,S,Sp,I,Ix,h1,h2,h3,h4,h5,h6,h7,h8,h9,h10⟩ := h
  refine ⟨f,caps,X,K,Ro,E,S,Sp,I,Ix,h1,h2,h3,h4,h5,h6,h7,fun pre xs vals X' a b c => ⟨(h8 pre xs vals X' a b c).1,?_⟩,fun xs vals X' K' a b c d => ih2 _ _ _ _ hl hn (h9 xs vals X' K' a b c d),fun pre vals X' K' a b c d => ih3 _ _ _ _ hl hn (h10 pre vals X' K' a b c d)⟩
  have e1 := nx_app (F := fun _ _ => False) hl hn (a := fun v h => I (pre ++ [xs]) v h) (b := fun v h => I (pre ++ [xs]) v h) (fun _ _ h => h)
  have e2 := nx_app (F := fun _ _ => False) e1.1 e1.2 (a := fun v h => Ix (pre ++ [xs]) v h) (b := fun v h => Ix (pre ++ [xs]) v h) (fun _ _ h => h)
  simp only [List.append_assoc,List.cons_append,List.nil_append] at e2
  exact ih1 _ _ _ _ e2.1 e2.2 (h8 pre xs vals X' a b c).2
 | mk id i o args t ih =>
  intro nx nx' ρ H hl hn h
  obtain ⟨mk,ob,h1,h2⟩ := h
  exact ⟨mk,ob,h1,fun b hb => ih _ _ _ _ hl hn (h2 b hb)⟩
 | loop ini t ih =>
  intro nx nx' ρ H hl hn h
  obtain ⟨I,μ,h0,h1⟩ := h
  refine ⟨I,μ,h0,fun vals H' hv hI => ?_⟩
  have e := nx_app (F := fun _ _ => False) hl hn (a := fun l h => I l h /\ μ l h < μ vals H') (b := fun l h => I l h /\ μ l h < μ vals H') (fun _ _ h => h)
  exact ih _ _ _ _ e.1 e.2 (h1 vals H' hv hI)
 | next d l => intro nx nx' ρ H hl hn h; exact hn d _ _ h
 | join n t u ih1 ih2 =>
  intro nx nx' ρ H hl hn h
  obtain ⟨J,h1,h2⟩ := h
  have e := nx_app (F := fun _ _ => False) hl hn (a := J) (b := J) (fun _ _ h => h)
  exact ⟨J,ih1 _ _ _ _ e.1 e.2 h1,fun vals H' hv hJ => ih2 _ _ _ _ hl hn (h2 vals H' hv hJ)⟩
theorem least_nat {p : Nat -> Prop} : ∀ n,p n -> ∃ m,p m /\ ∀ k,p k -> m <= k := by
 intro n
 induction n using Nat.strongRecOn with
 | _ n ih =>
  intro hp
  by_cases h : ∃ k,k < n /\ p k
  ·obtain ⟨k,h1,h2⟩ := h; exact ih k h1 h2
  ·exact ⟨n,hp,fun k hk => Nat.le_of_not_lt fun hlt => h ⟨k,hlt,hk⟩⟩
theorem den_loopV {ini : List SV} {t : Tree} {α : Type} (f : α -> List Value) (Q : α -> PH -> Prop) (m : α -> Nat) (a0 : α) (h0 : ini.map (D P ρ) = f a0) (hQ : Q a0 H)
  (hs : ∀ a H',Q a H' -> den P G t (nx ++ [fun l h => ∃ b,m b < m a /\ l = f b /\ Q b h]) (ρ ++ f a) H') : den P G (.loop ini t) nx ρ H := by
 classical
 have key : ∀ (l : List Value) (h : PH),(∃ a,l = f a /\ Q a h) -> ∃ a,(l = f a /\ Q a h) /\ ∀ b,(l = f b /\ Q b h) -> m a <= m b := by
  intro l h ⟨a,ha⟩
  obtain ⟨n,⟨a',e1,e2⟩,e3⟩ := least_nat (p := fun n => ∃ a,m a = n /\ l = f a /\ Q a h) (m a) ⟨a,rfl,ha⟩
  exact ⟨a',e2,fun b hb => by rw [e1]; exact e3 _ ⟨b,rfl,hb⟩⟩
 refine ⟨fun l h => ∃ a,l = f a /\ Q a h,fun l h => if hx : ∃ a,l = f a /\ Q a h then m (key l h hx).choose else 0,⟨a0,h0,hQ⟩,?_⟩
 intro vals H' _ hI
 obtain ⟨⟨e1,e2⟩,e3⟩ := (key vals H' hI).choose_spec
 have hm : (if hx : ∃ a,vals = f a /\ Q a H' then m (key vals H' hx).choose else 0) = m (key vals H' hI).choose := dif_pos hI
 have h := hs _ H' e2
 rw [<- e1] at h
 have e := nx_app (F := fun _ _ => False) (nx := nx) (nx' := nx) rfl (fun _ _ _ h => h) (a := fun l h => ∃ b,m b < m (key vals H' hI).choose /\ l = f b /\ Q b h)
  (b := fun l h => (∃ a,l = f a /\ Q a h) /\ (if hx : ∃ a,l = f a /\ Q a h then m (key l h hx).choose else 0) < (if hx : ∃ a,vals = f a /\ Q a H' then m (key vals H' hx).choose else 0)) (by
   rintro l h' ⟨b,hb1,hb2,hb3⟩
   have hx : ∃ a,l = f a /\ Q a h' := ⟨b,hb2,hb3⟩
   refine ⟨hx,?_⟩
   rw [hm,dif_pos hx]
   exact Nat.lt_of_le_of_lt ((key l h' hx).choose_spec.2 b ⟨hb2,hb3⟩) hb1)
 exact den_mono _ _ _ _ _ e.1 e.2 h
structure Sc (P : Program) (T : TypeId) : Prop where
 has : hasT P T = true
 agg : isAggB P T = false
 cel : P.cellsOf T = 1
structure Ag (P : Program) (T : TypeId) (n : Nat) : Prop where
 has : hasT P T = true
 agg : isAggB P T = true
 cel : P.cellsOf T = n
section
variable {o o1 o2 : Oper} {x y x2 : Operand} {id i id2 i2 : Nat} {args args2 : List SV} {t : Tree} {pf : Bool} {b q : Nat} {T T' e : TypeId} {fz : Nat × Nat} {cs : Array Value} {u : Value} {n : Nat}
theorem den_ldS (hT : Sc P T) (ho : o.op = .load T x) (hx : argEv [x] [.pointer (some ⟨b,q,none⟩)] x = .pointer (some ⟨b,q,none⟩)) (hH : H b = some (.cells cs T' fz)) (hv : cs[q]? = some u) (ha : args.map (D P ρ) = [.pointer (some ⟨b,q,none⟩)]) (n : den P G t nx (ρ ++ [u]) H) : den P G (.prim id i o args t) nx ρ H := by
 have hq := (Array.getElem?_eq_some_iff.1 hv).1
 have h := rds_load ho hx hH hT.has (by rw [hT.cel]; omega) (fun _ => hq)
 rw [hT.agg] at h
 simp only [Bool.false_eq_true,if_false,Array.getD_eq_getD_getElem?,hv,Option.getD_some] at h
 exact den_prim h ha n
theorem den_ldA {vs : List Value} (hT : Ag P T vs.length) (ho : o.op = .load T x) (hx : argEv [x] [.pointer (some ⟨b,q,none⟩)] x = .pointer (some ⟨b,q,none⟩)) (hH : H b = some (.cells cs T' fz)) (hv : (cs.toList.drop q).take vs.length = vs) (hq : q + vs.length <= cs.size) (ha : args.map (D P ρ) = [.pointer (some ⟨b,q,none⟩)]) (n : den P G t nx (ρ ++ [.agg vs.toArray]) H) : den P G (.prim id i o args t) nx ρ H := by
 have h := rds_load ho hx hH hT.has (by rw [hT.cel]; exact hq) (fun h => by rw [hT.agg] at h; cases h)
 rw [hT.agg,hT.cel] at h
 simp only [if_true] at h
 have : cs.extract q (q + vs.length) = vs.toArray := by rw [<- Array.toList_inj,Array.toList_extract,List.extract_eq_take_drop,Nat.add_sub_cancel_left,hv]
 rw [this] at h
 exact den_prim h ha n
theorem den_stS (hT : Sc P T) (ho : o.op = .store T x y) (hx : argEv [x,y] [.pointer (some ⟨b,q,none⟩),u] x = .pointer (some ⟨b,q,none⟩)) (hy : argEv [x,y] [.pointer (some ⟨b,q,none⟩),u] y = u) (hH : H b = some (.cells cs T' (0,0))) (hq : q < cs.size) (hu : u.cells = #[u]) (h1 : oneC u = true) (ha : args.map (D P ρ) = [.pointer (some ⟨b,q,none⟩),u]) (hpf : pf = true -> PH.le H (H.put b (.cells (cs.setIfInBounds q u) T' (0,0))))
  (n : den P G t nx (ρ ++ [undef]) (H.put b (.cells (cs.setIfInBounds q u) T' (0,0)))) : den P G (.eff pf id i o args t) nx ρ H := by
 refine den_eff (opn_store ho hx hy hH hT.has (by rw [hT.cel]; omega) (by rw [hu,hT.cel]; rfl) (fun c hc => ?_)) ha ?_
 ·rw [hu] at hc; simp at hc; subst hc; exact h1
 ·rintro v H' ⟨rfl,rfl⟩
  rw [hu]
  exact ⟨hpf,n⟩
structure FA (P : Program) (S : TypeId) (i off : Nat) : Prop where
 und : P.underlying S = some (.struct (fieldsOf P S))
 lt : i < (fieldsOf P S).size
 off : (fieldAt P S i).offset = off
 has : hasT P (fieldAt P S i).type = true
 ne : P.cellsOf (fieldAt P S i).type ≠ 0
theorem den_fa {S i' off : Nat} (hF : FA P S i' off) (ho : o.op = .fieldAddr S x i') (hx : argEv [x] [.pointer (some ⟨b,q,none⟩)] x = .pointer (some ⟨b,q,none⟩)) (ha : args.map (D P ρ) = [.pointer (some ⟨b,q,none⟩)]) (n : den P G t nx (ρ ++ [.pointer (some ⟨b,q + off,none⟩)]) H) : den P G (.prim id i o args t) nx ρ H :=
 den_prim ((yld_fieldAddrN ho hx hF.und hF.lt rfl hF.off hF.has hF.ne).rds H) ha n
end
theorem den_run {pf : Bool} {id i : Nat} {o : Oper} {args : List SV} {t : Tree} {vs : List Value} {v : Value} (hd : Run P o vs v) (ha : args.map (D P ρ) = vs) (n : den P G t nx (ρ ++ [v]) H) : den P G (.eff pf id i o args t) nx ρ H :=
 den_eff (hd.opn H) ha fun u H' ⟨h1,h2⟩ => by subst h1; subst h2; exact ⟨fun _ => PH.le.refl _,n⟩
theorem den_pub {T : TypeId} {c : SV} {t : Tree} {cs : Array Value} (hz : (D P ρ c).cells = cs) (n : ∀ b,H b = none -> den P G t nx (ρ ++ [.pointer (some ⟨b,0,none⟩)]) (H.put b (.cells cs T (0,0)))) : den P G (.pub T c t) nx ρ H := by
 subst hz; exact n
def Give (P : Program) (f : FuncId) (args : List Value) (H : PH) (v : Value) : Prop := Con P f args H fun u H' => PH.le H H' /\ u = v
end
end Go.RX


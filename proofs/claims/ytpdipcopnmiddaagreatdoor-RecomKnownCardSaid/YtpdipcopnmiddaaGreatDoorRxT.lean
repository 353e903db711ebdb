/- Operations with memory. -/
import Derived.Test.YtpdipcopnmiddaaGreatDoorRxH
import Derived.Laws.Slices
import Derived.Laws.Entries
import Derived.Laws.Strings
import Derived.Laws.AppendOwn
import Derived.Laws.OwnMore
import Derived.Laws.MakeOwn
import Derived.Great.BuildSlice
namespace Go.RX
open Go.RowKit

section
variable {P : Program} {H : PH} {o : Oper} {x y : Operand}
theorem PH.put_self (H : PH) (b : Nat) (ob : Obj) : H.put b ob b = some ob := by simp [PH.put]
theorem PH.put_ne (H : PH) {b k : Nat} (ob : Obj) (h : k ≠ b) : H.put b ob k = H k := by simp [PH.put,h]
theorem PH.put_put (H : PH) (b : Nat) (a c : Obj) : (H.put b a).put b c = H.put b c := by
 funext k; unfold PH.put; split <;> rfl
theorem rds_load {T T' : TypeId} {b q : Nat} {cs : Array Value} {fz : Nat × Nat} (ho : o.op = .load T x) (hx : argEv [x] [.pointer (some ⟨b,q,none⟩)] x = .pointer (some ⟨b,q,none⟩)) (hH : H b = some (.cells cs T' fz)) (hT : hasT P T = true) (hq : q + P.cellsOf T <= cs.size) (h0 : isAggB P T = false -> q < cs.size) :
  Rds P o [.pointer (some ⟨b,q,none⟩)] H (if isAggB P T then .agg (cs.extract q (q + P.cellsOf T)) else cs.getD q undef) := fun w hw => by
 have hos : o.op.operands.toList = [x] := by simp [ho,Op.operands]
 rw [hos]
 simp only [execOp,ho,hx,Sem.run_bind]
 rw [run_loadV hT (hw _ _ hH) hq h0]
 rfl
theorem opn_store {T T' : TypeId} {b q : Nat} {cs : Array Value} {v : Value} (ho : o.op = .store T x y) (hx : argEv [x,y] [.pointer (some ⟨b,q,none⟩),v] x = .pointer (some ⟨b,q,none⟩)) (hy : argEv [x,y] [.pointer (some ⟨b,q,none⟩),v] y = v) (hH : H b = some (.cells cs T' (0,0))) (hT : hasT P T = true) (hq : q + P.cellsOf T <= cs.size) (hv : v.cells.size = P.cellsOf T) (h1 : oneAll v.cells) :
  Opn P o [.pointer (some ⟨b,q,none⟩),v] H fun u H' => u = undef /\ H' = H.put b (.cells (spl cs q v.cells.toList) T' (0,0)) := fun w hw => by
 have hos : o.op.operands.toList = [x,y] := by simp [ho,Op.operands]
 have hb := hw _ _ hH
 rw [hos]
 have hr : (execOp (argEv [x,y] [.pointer (some ⟨b,q,none⟩),v]) o).run P w = .ok .skip (w.setRow b (spl cs q v.cells.toList)) := by
  simp only [execOp,ho,hx,hy,Sem.run_bind]
  rw [run_storeV hT hb hq hv h1]
  rfl
 unfold Stp
 rw [hr]
 refine ⟨_,⟨rfl,rfl,rfl,by simp,fun k hk hn => setRow_other _ _ _ _ (fun e => by rw [e,hH] at hn; cases hn),fun k ob hk => ?_,fun k hk => ?_⟩,rfl,rfl⟩
 ·unfold PH.put at hk
  split at hk
  ·rename_i e; subst e; cases hk; exact setRow_heap w k _ _ T' (0,0) hb
  ·rename_i e; rw [setRow_other _ _ _ _ e]; exact hw k ob hk
 ·unfold PH.put at hk
  split at hk
  ·rename_i e; subst e; exact .inl (by simp [hH])
  ·exact .inl hk
theorem rds_indexA {T e : TypeId} {len b q : Nat} {k : IntKind} {m : Int} (ho : o.op = .indexAddr T x y) (hx : argEv [x,y] [.pointer (some ⟨b,q,none⟩),.int k m] x = .pointer (some ⟨b,q,none⟩)) (hy : argEv [x,y] [.pointer (some ⟨b,q,none⟩),.int k m] y = .int k m) (hu : P.underlying T = some (.array len e)) (he : hasT P e = true) (h0 : 0 <= m) (h1 : m < len) :
  Yld P o [.pointer (some ⟨b,q,none⟩),.int k m] (.pointer (some ⟨b,q + m.toNat * P.cellsOf e,none⟩)) := fun w => by
 have hos : o.op.operands.toList = [x,y] := by simp [ho,Op.operands]
 rw [hos]
 simp only [execOp,ho,hx,hy,Sem.run_bind]
 rw [run_indexAt hu he b q k m h0 h1]
 rfl
theorem run_makeFunc {fn : Fn} {caps : Array Operand} {vs : List Value} (ho : o.op = .makeFunc fn #[] caps) (hv' : caps.toList.map (argEv caps.toList vs) = vs) : Run P o vs (.func fn #[] vs.toArray) := fun w => by
 have hv : caps.map (argEv caps.toList vs) = vs.toArray := by rw [<- Array.toList_inj,Array.toList_map]; exact hv'
 have hos : o.op.operands.toList = caps.toList := by simp [ho,Op.operands]
 unfold Stp
 rw [hos]
 simp only [execOp,ho,Sem.run_bind,Instr.makeFunc,Array.map_empty,hv]
 exact ⟨rfl,Ext.refl _⟩
end
end Go.RX
namespace Go.RX
open Go.RowKit

section
variable {P : Program} {H : PH} {o : Oper} {x y : Operand}
theorem Run.opn {args : List Value} {v : Value} (h : Run P o args v) (H : PH) : Opn P o args H fun u H' => u = v /\ H' = H :=
 fun w hw => (h w).mono fun u _ ⟨hu,hx⟩ => ⟨H,Step.of_ext hw hx,hu,rfl⟩
def PH.nil : PH := fun _ => none
theorem yld_len {t : TypeId} {e : TypeId} {a : Option Addr} {n c : Nat} {vs : List Value} (ho : o.op = .call ⟨.builtin .len,#[x],#[t]⟩) (hx : argEv [x] vs x = .slice a n c) (hu : P.underlying t = some (.slice e)) : Yld P o vs (.int .i64 n) := fun w => by
 have hos : o.op.operands.toList = [x] := by simp [ho,Op.operands,Call.operands]
 have hE : P.elem t = e := by simp [Program.elem,hu]
 rw [hos]
 simp only [execOp,ho,resolve,invoke,Sem.run_bind,Sem.run_pure,Result.andThen_ok,List.map_toArray,List.map_cons,List.map_nil,hx]
 simp only [builtin,Sem.run_bind,run_len_slice w t _ a n c (by rw [hE]; exact hu),Result.andThen_ok]
 rfl
theorem yld_indexS {T e : TypeId} {b q n c : Nat} {k : IntKind} {m : Int} {vs : List Value} (ho : o.op = .indexAddr T x y) (hx : argEv [x,y] vs x = .slice (some ⟨b,q,none⟩) n c) (hy : argEv [x,y] vs y = .int k m) (hu : P.underlying T = some (.slice e)) (he : hasT P e = true) (h0 : 0 <= m) (h1 : m < n) :
  Yld P o vs (.pointer (some ⟨b,q + m.toNat * P.cellsOf e,none⟩)) := fun w => by
 have hos : o.op.operands.toList = [x,y] := by simp [ho,Op.operands]
 obtain ⟨⟨i,hi⟩,_⟩ := hasT_spec he
 rw [hos]
 simp only [execOp,ho,hx,hy,Sem.run_bind,Instr.indexAt,asIntOf,Sem.run_pure,Result.andThen_ok,run_underlying hu]
 simp [h0,h1,run_sizeT hi,add_blk]
end
end Go.RX
namespace Go.RX
open Go.RowKit

section
variable {P : Program} {H : PH} {o : Oper} {x y z : Operand}
theorem PH.In.fresh {w : World} (hw : H.In w) : H w.heap.size = none := by
 cases e : H w.heap.size with
 | none => rfl
 | some ob => exact absurd (lt_of_get (hw _ _ e)) (Nat.lt_irrefl _)
theorem Step.newB {w : World} (hw : H.In w) (ob : Obj) : Step H w (H.put w.heap.size ob) (w.alloc ob) := by
 have hx := Ext.alloc w ob
 refine ⟨hx.os,hx.tape,hx.output,hx.size,fun k hk _ => hx.block' hk,PH.put_in (hw.ext hx) (by show (w.heap.push ob)[w.heap.size]? = _; simp),fun b hb => ?_⟩
 unfold PH.put at hb
 split at hb
 ·rename_i e; right; omega
 ·exact .inl hb
theorem Step.setB {w : World} (hw : H.In w) {r : Nat} {ob : Obj} (hr : H r = some ob) (ob' : Obj) : Step H w (H.put r ob') { w with heap := w.heap.setIfInBounds r ob' } := by
 have hlt := lt_of_get (hw _ _ hr)
 refine ⟨rfl,rfl,rfl,by simp,fun k hk hn => ?_,fun k o hk => ?_,fun k hk => ?_⟩
 ·show (w.heap.setIfInBounds r ob')[k]? = _
  rw [Array.getElem?_setIfInBounds_ne (fun e => by rw [e,hn] at hr; cases hr)]
 ·show (w.heap.setIfInBounds r ob')[k]? = _
  unfold PH.put at hk
  split at hk
  ·rename_i e; subst e; rw [Array.getElem?_setIfInBounds_self_of_lt hlt]; exact hk
  ·rename_i e; rw [Array.getElem?_setIfInBounds_ne (fun e' => e e'.symm)]; exact hw k o hk
 ·unfold PH.put at hk
  split at hk
  ·rename_i e; left; rw [e,hr]; simp
  ·exact .inl hk
theorem run_getM {w : World} {r : Nat} {es : Array MapEntry} {clock : Nat} (hb : w.heap[r]? = some (.map es clock)) : (getObj r).run P w = .ok (.map es clock) w := by
 simp [getObj,Sem.run,hb]
theorem run_setM {w : World} {r : Nat} {es : Array MapEntry} {clock : Nat} (ob : Obj) (hb : w.heap[r]? = some (.map es clock)) : (setObj r ob).run P w = .ok () { w with heap := w.heap.setIfInBounds r ob } := by
 simp [setObj,Sem.run,hb]
theorem run_checkIntN {t : TypeId} {k : IntKind} {n : Int} (hk : P.underlying t = some (.int k)) (b : Bool) (d : Nat) (w : World) : (Instr.checkKey b (d + 1) t (.int k n)).run P w = .ok () w := by
 unfold Instr.checkKey
 simp only [Sem.run_bind,run_underlying hk,Result.andThen_ok,Sem.run_pure]
theorem run_checkInt {t : TypeId} {k : IntKind} {n : Int} (hk : P.underlying t = some (.int k)) (b : Bool) (w : World) : (Instr.checkKey b 10000 t (.int k n)).run P w = .ok () w := run_checkIntN hk b 9999 w
end
end Go.RX

/- Operations on strings. -/
namespace Go.RX
open Go.RowKit

section
variable {P : Program} {H : PH} {o : Oper} {x y : Operand}
theorem yld_indexStr {T : TypeId} {s : ByteArray} {k : IntKind} {m : Nat} {vs : List Value} (ho : o.op = .index T x y) (hx : argEv [x,y] vs x = .string s) (hy : argEv [x,y] vs y = .int k (m : Nat)) (hu : P.underlying T = some .string) (h1 : m < s.size) :
  Yld P o vs (.int .u8 ((s.data.getD m 0).toNat : Nat)) := fun w => by
 have hos : o.op.operands.toList = [x,y] := by simp [ho,Op.operands]
 rw [hos]
 simp only [execOp,ho,hx,hy,Sem.run_bind,Instr.index,asIntOf,Sem.run_pure,Result.andThen_ok,run_underlying hu]
 rw [if_pos (by omega),Int.toNat_natCast,getElem?_pos s m h1]
 have h2 : m < s.data.size := h1
 simp only [Sem.run_pure,Result.andThen_ok]
 rw [show s.data.getD m 0 = s[m] from by rw [Array.getD_eq_getD_getElem?,Array.getElem?_eq_getElem h2]; rfl]
end
end Go.RX
namespace Go.RX
open Go.RowKit

section
variable {P : Program} {H : PH} {o : Oper} {x y : Operand} {vs : List Value} {l m : List UInt8}
end
end Go.RX

/- Slices in memory. -/
namespace Go.RX
open Go.RowKit

def Sl (H : PH) (sz : Nat) (v : Value) (n : Nat) (xs : List Value) : Prop :=
 xs.length = n * sz /\ ∃ a c,v = .slice a n c /\ n <= c /\ c <= maxLen /\ (n = 0 \/ ∃ b o cs T fz,a = some ⟨b,o,none⟩ /\ H b = some (.cells cs T fz) /\ (cs.toList.drop o).take (n * sz) = xs)
theorem Sl.mono {H H' : PH} {sz n : Nat} {v : Value} {xs : List Value} (h : Sl H sz v n xs) (hl : PH.le H H') : Sl H' sz v n xs := by
 obtain ⟨h1,a,c,h2,h3,h4,h5⟩ := h
 refine ⟨h1,a,c,h2,h3,h4,h5.imp id ?_⟩
 rintro ⟨b,o,cs,T,fz,g1,g2,g3⟩
 exact ⟨b,o,cs,T,fz,g1,hl _ _ g2,g3⟩
section
variable {P : Program} {H H0 : PH} {o : Oper} {x y : Operand} {vs : List Value}
theorem sl_len {t e : TypeId} {sz n : Nat} {v : Value} {xs : List Value} (ho : o.op = .call ⟨.builtin .len,#[x],#[t]⟩) (hx : argEv [x] vs x = v) (hu : P.underlying t = some (.slice e)) (h : Sl H sz v n xs) : Yld P o vs (.int .i64 n) := by
 obtain ⟨_,a,c,h2,_⟩ := h
 exact yld_len ho (hx.trans h2) hu
theorem sl_at {T e : TypeId} {sz n i : Nat} {k : IntKind} {v : Value} {xs : List Value} (ho : o.op = .indexAddr T x y) (hx : argEv [x,y] vs x = v) (hy : argEv [x,y] vs y = .int k (i : Nat)) (hu : P.underlying T = some (.slice e)) (he : hasT P e = true) (hsz : P.cellsOf e = sz) (hpos : 0 < sz) (h : Sl H sz v n xs) (hi : i < n) :
  ∃ b q cs T' fz,Yld P o vs (.pointer (some ⟨b,q,none⟩)) /\ H b = some (.cells cs T' fz) /\ q + sz <= cs.size /\ (cs.toList.drop q).take sz = (xs.drop (i * sz)).take sz := by
 obtain ⟨hl,a,c,h2,h3,h4,h5⟩ := h
 rcases h5 with h5 | ⟨b,q,cs,T',fz,h5,h6,h7⟩
 ·omega
 ·subst h5
  have hy' := yld_indexS (n := n) (c := c) ho (hx.trans h2) hy hu he (by omega) (by omega)
  rw [Int.toNat_natCast,hsz] at hy'
  have hb : (i + 1) * sz <= n * sz := Nat.mul_le_mul_right _ hi
  rw [Nat.add_mul,Nat.one_mul] at hb
  have hlen := congrArg List.length h7
  simp only [List.length_take,List.length_drop,Array.length_toList] at hlen
  have hnp : 0 < n * sz := Nat.mul_pos (by omega) hpos
  refine ⟨b,_,cs,T',fz,hy',h6,by omega,?_⟩
  rw [<- h7,List.drop_take,List.drop_drop,List.take_take]
  congr 1
  omega
theorem sl_load1 {T T' : TypeId} {b q : Nat} {cs : Array Value} {fz : Nat × Nat} {w : Value} (ho : o.op = .load T x) (hx : argEv [x] [.pointer (some ⟨b,q,none⟩)] x = .pointer (some ⟨b,q,none⟩)) (hH : H b = some (.cells cs T' fz)) (hT : hasT P T = true) (hag : isAggB P T = false) (hc : P.cellsOf T = 1) (hq : q + 1 <= cs.size) (hw : (cs.toList.drop q).take 1 = [w]) :
  Rds P o [.pointer (some ⟨b,q,none⟩)] H w := by
 have := rds_load (P := P) ho hx hH hT (by rw [hc]; exact hq) (fun _ => hq)
 rw [hag] at this
 have e : cs.getD q undef = w := by
  have h1 := congrArg (fun l : List Value => l[0]?) hw
  simp only [List.getElem?_take,List.getElem?_drop,Nat.add_zero] at h1
  rw [Array.getD_eq_getD_getElem?,<- Array.getElem?_toList]
  simp at h1
  simp [h1]
 simp only [Bool.false_eq_true,if_false,e] at this
 exact this
theorem sl_loadN {T T' : TypeId} {b q sz : Nat} {cs : Array Value} {fz : Nat × Nat} {ws : List Value} (ho : o.op = .load T x) (hx : argEv [x] [.pointer (some ⟨b,q,none⟩)] x = .pointer (some ⟨b,q,none⟩)) (hH : H b = some (.cells cs T' fz)) (hT : hasT P T = true) (hag : isAggB P T = true) (hc : P.cellsOf T = sz) (hq : q + sz <= cs.size) (hw : (cs.toList.drop q).take sz = ws) :
  Rds P o [.pointer (some ⟨b,q,none⟩)] H (.agg ws.toArray) := by
 have := rds_load (P := P) ho hx hH hT (by rw [hc]; exact hq) (fun h => by rw [hag] at h; cases h)
 rw [hag,hc] at this
 have e : cs.extract q (q + sz) = ws.toArray := by
  apply Array.ext'
  rw [Array.toList_extract,List.extract_eq_take_drop,Nat.add_sub_cancel_left,hw]
 simp only [if_true,e] at this
 exact this
end
end Go.RX
namespace Go.RX
open Go.RowKit

theorem cell_in {w : World} {b q : Nat} {cs : Array Value} {T : TypeId} {fz : Nat × Nat} {n : Nat} {news : List Value} (hb : w.heap[b]? = some (.cells cs T fz)) (hn : (cs.toList.drop q).take n = news) : ∀ j u,news[j]? = some u -> w.cell? ((⟨b,q,none⟩ : Addr).add j) = some u := by
 intro j u hj
 rw [<- hn,List.getElem?_take] at hj
 split at hj
 ·rw [List.getElem?_drop,Array.getElem?_toList] at hj
  rw [add_blk]
  simp [World.cell?,hb,hj]
 ·cases hj
section
variable {P : Program} {H H0 : PH} {o : Oper} {x y : Operand} {vs : List Value}
end
end Go.RX


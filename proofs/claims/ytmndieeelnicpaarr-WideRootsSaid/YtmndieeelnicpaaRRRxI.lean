/- Contracts; functions that only compute: their trees without memory. -/
import Derived.Test.YtmndieeelnicpaaRRRxH
namespace Go.RX
open Go.RowKit

/-- Operation i of region id of a function. -/
def findR (id : Nat) : Code → Option (Array Oper)
  | .region j ops _ => if j = id then some ops else none
  | .seq a b => (findR id a).orElse fun _ => findR id b
  | .cond _ a b => (findR id a).orElse fun _ => findR id b
  | .block _ a => findR id a
  | .loop a => findR id a
  | .scope a => findR id a
  | _ => none
def opr (fn : Func) (id i : Nat) : Oper := (((fn.body.bind (findR id)).bind (·[i]?))).getD default

/-- The call hands back v, in every world; what was there stays. -/
def Det (P : Program) (f : FuncId) (args : List Value) (v : Value) : Prop := ∀ w, Calls P f args.toArray w fun e w' => e = .returned v ∧ Ext w w'
/-- An operation that yields v, in every world, and changes nothing. -/
def Yld (P : Program) (o : Oper) (args : List Value) (v : Value) : Prop := ∀ w, (execOp (argEv o.op.operands.toList args) o).run P w = .ok (.value v) w
/-- A function of the model's own yields v. -/
def Own (P : Program) (f : FuncId) (args : List Value) (v : Value) : Prop := ∀ w, (callFunc f args.toArray).run P w = .ok (.value v) w
/-- An operation that runs to v, in every world. -/
def Run (P : Program) (o : Oper) (args : List Value) (v : Value) : Prop := ∀ w, Stp P o (argEv o.op.operands.toList args) w fun v' w' => v' = v ∧ Ext w w'

/-- A contract: from every world that holds H to one that holds some H' with V; nothing outside H has changed. -/
def Con (P : Program) (f : FuncId) (args : List Value) (H : PH) (V : Value → PH → Prop) : Prop :=
  ∀ w, H.In w → Calls P f args.toArray w fun e w' => ∃ v H', e = .returned v ∧ Step H w H' w' ∧ V v H'
/-- The same of one operation. -/
def Opn (P : Program) (o : Oper) (args : List Value) (H : PH) (V : Value → PH → Prop) : Prop :=
  ∀ w, H.In w → Stp P o (argEv o.op.operands.toList args) w fun v w' => ∃ H', Step H w H' w' ∧ V v H'
/-- An operation that reads. -/
def Rds (P : Program) (o : Oper) (args : List Value) (H : PH) (v : Value) : Prop := ∀ w, H.In w → (execOp (argEv o.op.operands.toList args) o).run P w = .ok (.value v) w

theorem Step.of_ext {H : PH} {w w' : World} (h : H.In w) (hx : Ext w w') : Step H w H w' := (Step.refl h).ext hx
theorem Det.con {P : Program} {f : FuncId} {args : List Value} {v : Value} (h : Det P f args v) (H : PH) : Con P f args H fun u H' => u = v ∧ H' = H :=
  fun w hw => (h w).mono fun e w' ⟨he, hx⟩ => ⟨v, H, he, Step.of_ext hw hx, rfl, rfl⟩
theorem Con.mono {P : Program} {f : FuncId} {args : List Value} {H : PH} {V V' : Value → PH → Prop} (h : Con P f args H V) (hv : ∀ v H', V v H' → V' v H') : Con P f args H V' :=
  fun w hw => (h w hw).mono fun e w' ⟨v, H', he, hs, hV⟩ => ⟨v, H', he, hs, hv v H' hV⟩
theorem Opn.mono {P : Program} {o : Oper} {args : List Value} {H : PH} {V V' : Value → PH → Prop} (h : Opn P o args H V) (hv : ∀ v H', V v H' → V' v H') : Opn P o args H V' :=
  fun w hw => (h w hw).mono fun v w' ⟨H', hs, hV⟩ => ⟨H', hs, hv v H' hV⟩
theorem Yld.rds {P : Program} {o : Oper} {args : List Value} {v : Value} (h : Yld P o args v) (H : PH) : Rds P o args H v := fun w _ => h w

/-- THE CONTRACT of a function. -/
theorem con_of_tree {P : Program} {f : FuncId} {E : List Nat} {A : List (Nat × Bool)} {J : List Jn} {C : List Cert} {t : Tree} {args : List Value} {np : Nat} {H : PH} {V : Value → PH → Prop} (hm : P.follows .mixedOrders = true) (ht : tree P E A J C f = some t) (hnp : (P.funcs[f]?).map (fun fn => fn.params.size + fn.nfree) = some np) (hargs : args.length = np)
    (h : den P V t [] args H) : Con P f args H V := fun w hw => tree_sound hm ht args hnp hargs h w hw

def pd (P : Program) (R : Value → Prop) : Tree → List (List Value → Prop) → List Value → Prop
  | .ret l, _, ρ => R (retV (l.map (D P ρ)))
  | .rq r t, nx, ρ => r.holds P ρ ∧ pd P R t nx ρ
  | .br c t e, nx, ρ => (D P ρ c = .bool true → pd P R t nx ρ) ∧ (D P ρ c = .bool false → pd P R e nx ρ)
  | .call _ f args t, nx, ρ => ∃ v, Det P f (args.map (D P ρ)) v ∧ pd P R t nx (ρ ++ [v])
  | .prim _ _ o args t, nx, ρ => ∃ v, Yld P o (args.map (D P ρ)) v ∧ pd P R t nx (ρ ++ [v])
  | .eff _ _ _ o args t, nx, ρ => ∃ v, Run P o (args.map (D P ρ)) v ∧ pd P R t nx (ρ ++ [v])
  | .ext f args t, nx, ρ => ∃ v, Own P f (args.map (D P ρ)) v ∧ pd P R t nx (ρ ++ [v])
  | .pub _ _ _, _, _ => False
  | .dead _, _, _ => False
  | .loop ini t, nx, ρ => ∃ (I : List Value → Prop) (μ : List Value → Nat), I (ini.map (D P ρ)) ∧ ∀ vals, vals.length = ini.length → I vals → pd P R t (nx ++ [fun l => I l ∧ μ l < μ vals]) (ρ ++ vals)
  | .next d l, nx, ρ => (nx.getD d fun _ => False) (l.map (D P ρ))
  | .join n t u, nx, ρ => ∃ J : List Value → Prop, pd P R t (nx ++ [J]) ρ ∧ ∀ vals, vals.length = n → J vals → pd P R u nx (ρ ++ vals)

theorem den_of_pd {P : Program} {R : Value → Prop} {H : PH} : ∀ (t : Tree) (nx : List (List Value → Prop)) (ρ : List Value), pd P R t nx ρ → den P (fun v h => R v ∧ h = H) t (nx.map fun g l h => g l ∧ h = H) ρ H := by
  intro t
  induction t with
  | ret l => intro nx ρ h; exact ⟨h, rfl⟩
  | rq r t ih => intro nx ρ h; exact ⟨h.1, ih _ _ h.2⟩
  | br c t e ih1 ih2 => intro nx ρ h; exact ⟨fun hc => ih1 _ _ (h.1 hc), fun hc => ih2 _ _ (h.2 hc)⟩
  | call pf f args t ih =>
    intro nx ρ h w hw
    obtain ⟨v, hd, hn⟩ := h
    exact (hd w).mono fun e w' ⟨he, hx⟩ => ⟨v, H, he, Step.of_ext hw hx, fun _ => PH.le.refl H, ih _ _ hn⟩
  | prim id i o args t ih =>
    intro nx ρ h
    obtain ⟨v, hd, hn⟩ := h
    exact ⟨v, fun w _ => hd w, ih _ _ hn⟩
  | eff pf id i o args t ih =>
    intro nx ρ h w hw
    obtain ⟨v, hd, hn⟩ := h
    exact (hd w).mono fun u w' ⟨he, hx⟩ => ⟨H, Step.of_ext hw hx, fun _ => PH.le.refl H, by rw [he]; exact ih _ _ hn⟩
  | ext f args t ih =>
    intro nx ρ h
    obtain ⟨v, hd, hn⟩ := h
    exact ⟨v, fun w _ => hd w, ih _ _ hn⟩
  | pub T c t ih => intro nx ρ h; exact h.elim
  | dead n => intro nx ρ h; exact h.elim
  | loop ini t ih =>
    intro nx ρ h
    obtain ⟨I, μ, h0, h1⟩ := h
    refine ⟨fun l h => I l ∧ h = H, fun l _ => μ l, ⟨h0, rfl⟩, ?_⟩
    rintro vals H' hl ⟨hI, rfl⟩
    have := ih _ _ (h1 vals hl hI)
    have e : (fun (l : List Value) (h : PH) => (I l ∧ h = H') ∧ μ l < μ vals) = fun l h => (I l ∧ μ l < μ vals) ∧ h = H' := by
      funext l h
      exact propext ⟨fun ⟨⟨a, b⟩, c⟩ => ⟨⟨a, c⟩, b⟩, fun ⟨⟨a, c⟩, b⟩ => ⟨⟨a, b⟩, c⟩⟩
    rw [e]
    simpa only [List.map_append, List.map_cons, List.map_nil] using this
  | next d l =>
    intro nx ρ h
    simp only [pd] at h
    simp only [den]
    rw [List.getD_eq_getElem?_getD, List.getElem?_map]
    rw [List.getD_eq_getElem?_getD] at h
    cases hn : nx[d]? with
    | none => simp [hn] at h
    | some g => simp only [hn, Option.getD_some] at h; simpa using h
  | join n t u ih1 ih2 =>
    intro nx ρ h
    obtain ⟨J, h1, h2⟩ := h
    refine ⟨fun l h => J l ∧ h = H, ?_, ?_⟩
    · simpa only [List.map_append, List.map_cons, List.map_nil] using ih1 _ _ h1
    · rintro vals H' hl ⟨hJ, rfl⟩
      exact ih2 _ _ (h2 vals hl hJ)

/-- THE CONTRACT of a function that only computes. -/
theorem det_of_tree {P : Program} {f : FuncId} {E : List Nat} {A : List (Nat × Bool)} {J : List Jn} {C : List Cert} {t : Tree} {args : List Value} {v : Value} {np : Nat} (hm : P.follows .mixedOrders = true) (ht : tree P E A J C f = some t) (hnp : (P.funcs[f]?).map (fun fn => fn.params.size + fn.nfree) = some np) (hargs : args.length = np)
    (h : pd P (fun u => u = v) t [] args) : Det P f args v := fun w => by
  have := tree_sound (H := fun _ => none) hm ht args hnp hargs (den_of_pd t [] args h) w (fun b o hb => by cases hb)
  refine this.mono fun e w' ⟨u, H', he, hs, hu, hH⟩ => ⟨by rw [he, hu], ?_⟩
  exact hs.toExt (fun b o hb => by cases hb) (fun b o hb => by cases hb)

/-! ### How a proof steps through a tree -/
section
variable {P : Program} {R : Value → Prop} {nx : List (List Value → Prop)} {ρ : List Value}
theorem pd_rq {r : Rq} {t : Tree} (h : r.holds P ρ) (n : pd P R t nx ρ) : pd P R (.rq r t) nx ρ := ⟨h, n⟩
theorem pd_call {pf : Bool} {f : FuncId} {args : List SV} {t : Tree} {vs : List Value} {v : Value} (hd : Det P f vs v) (ha : args.map (D P ρ) = vs) (n : pd P R t nx (ρ ++ [v])) : pd P R (.call pf f args t) nx ρ := ⟨v, by rw [ha]; exact hd, n⟩
theorem pd_prim {id i : Nat} {o : Oper} {args : List SV} {t : Tree} {vs : List Value} {v : Value} (hd : Yld P o vs v) (ha : args.map (D P ρ) = vs) (n : pd P R t nx (ρ ++ [v])) : pd P R (.prim id i o args t) nx ρ := ⟨v, by rw [ha]; exact hd, n⟩
theorem pd_eff {pf : Bool} {id i : Nat} {o : Oper} {args : List SV} {t : Tree} {vs : List Value} {v : Value} (hd : Run P o vs v) (ha : args.map (D P ρ) = vs) (n : pd P R t nx (ρ ++ [v])) : pd P R (.eff pf id i o args t) nx ρ := ⟨v, by rw [ha]; exact hd, n⟩
theorem pd_ext {f : FuncId} {args : List SV} {t : Tree} {vs : List Value} {v : Value} (hd : Own P f vs v) (ha : args.map (D P ρ) = vs) (n : pd P R t nx (ρ ++ [v])) : pd P R (.ext f args t) nx ρ := ⟨v, by rw [ha]; exact hd, n⟩
theorem pd_br {c : SV} {t e : Tree} {b : Bool} (hc : D P ρ c = .bool b) (h1 : b = true → pd P R t nx ρ) (h2 : b = false → pd P R e nx ρ) : pd P R (.br c t e) nx ρ :=
  ⟨fun h => h1 (by rw [hc] at h; cases h; rfl), fun h => h2 (by rw [hc] at h; cases h; rfl)⟩
theorem pd_true {c : SV} {t e : Tree} (hc : D P ρ c = .bool true) (h1 : pd P R t nx ρ) : pd P R (.br c t e) nx ρ := pd_br hc (fun _ => h1) (fun h => by cases h)
theorem pd_false {c : SV} {t e : Tree} (hc : D P ρ c = .bool false) (h1 : pd P R e nx ρ) : pd P R (.br c t e) nx ρ := pd_br hc (fun h => by cases h) (fun _ => h1)
theorem pd_ret {l : List SV} {v : Value} (h : retV (l.map (D P ρ)) = v) (hR : R v) : pd P R (.ret l) nx ρ := by rw [← h] at hR; exact hR
end
/-! ### and where there is memory -/
section
variable {P : Program} {G : Value → PH → Prop} {nx : List (List Value → PH → Prop)} {ρ : List Value} {H : PH}
theorem den_rq {r : Rq} {t : Tree} (h : r.holds P ρ) (n : den P G t nx ρ H) : den P G (.rq r t) nx ρ H := ⟨h, n⟩
theorem den_call {pf : Bool} {f : FuncId} {args : List SV} {t : Tree} {vs : List Value} {V : Value → PH → Prop} (hd : Con P f vs H V) (ha : args.map (D P ρ) = vs) (n : ∀ v H', V v H' → (pf = true → PH.le H H') ∧ den P G t nx (ρ ++ [v]) H') : den P G (.call pf f args t) nx ρ H := fun w hw => by
  rw [ha]; exact (hd w hw).mono fun e w' ⟨v, H', he, hs, hV⟩ => ⟨v, H', he, hs, (n v H' hV).1, (n v H' hV).2⟩
theorem den_det {pf : Bool} {f : FuncId} {args : List SV} {t : Tree} {vs : List Value} {v : Value} (hd : Det P f vs v) (ha : args.map (D P ρ) = vs) (n : den P G t nx (ρ ++ [v]) H) : den P G (.call pf f args t) nx ρ H :=
  den_call (hd.con H) ha fun u H' ⟨hu, hH⟩ => by subst hu; subst hH; exact ⟨fun _ => PH.le.refl _, n⟩
theorem den_eff {pf : Bool} {id i : Nat} {o : Oper} {args : List SV} {t : Tree} {vs : List Value} {V : Value → PH → Prop} (hd : Opn P o vs H V) (ha : args.map (D P ρ) = vs) (n : ∀ v H', V v H' → (pf = true → PH.le H H') ∧ den P G t nx (ρ ++ [v]) H') : den P G (.eff pf id i o args t) nx ρ H := fun w hw => by
  rw [ha]; exact (hd w hw).mono fun v w' ⟨H', hs, hV⟩ => ⟨H', hs, (n v H' hV).1, (n v H' hV).2⟩
theorem den_prim {id i : Nat} {o : Oper} {args : List SV} {t : Tree} {vs : List Value} {v : Value} (hd : Rds P o vs H v) (ha : args.map (D P ρ) = vs) (n : den P G t nx (ρ ++ [v]) H) : den P G (.prim id i o args t) nx ρ H := ⟨v, by rw [ha]; exact hd, n⟩
theorem den_own {f : FuncId} {args : List SV} {t : Tree} {vs : List Value} {v : Value} (hd : Own P f vs v) (ha : args.map (D P ρ) = vs) (n : den P G t nx (ρ ++ [v]) H) : den P G (.ext f args t) nx ρ H := ⟨v, by rw [ha]; exact fun w _ => hd w, n⟩
theorem den_br {c : SV} {t e : Tree} {b : Bool} (hc : D P ρ c = .bool b) (h1 : b = true → den P G t nx ρ H) (h2 : b = false → den P G e nx ρ H) : den P G (.br c t e) nx ρ H :=
  ⟨fun h => h1 (by rw [hc] at h; cases h; rfl), fun h => h2 (by rw [hc] at h; cases h; rfl)⟩
theorem den_true {c : SV} {t e : Tree} (hc : D P ρ c = .bool true) (h1 : den P G t nx ρ H) : den P G (.br c t e) nx ρ H := den_br hc (fun _ => h1) (fun h => by cases h)
theorem den_false {c : SV} {t e : Tree} (hc : D P ρ c = .bool false) (h1 : den P G e nx ρ H) : den P G (.br c t e) nx ρ H := den_br hc (fun h => by cases h) (fun _ => h1)
theorem den_ret {l : List SV} {v : Value} (h : retV (l.map (D P ρ)) = v) (hR : G v H) : den P G (.ret l) nx ρ H := by rw [← h] at hR; exact hR
end
theorem cells_agg (cs : Array Value) : (Value.agg cs).cells = cs := rfl
theorem cells_int (k : IntKind) (n : Int) : (Value.int k n).cells = #[.int k n] := rfl
theorem cells_bool (b : Bool) : (Value.bool b).cells = #[.bool b] := rfl
theorem cells_string (s : ByteArray) : (Value.string s).cells = #[.string s] := rfl
theorem cells_slice (a : Option Addr) (n c : Nat) : (Value.slice a n c).cells = #[.slice a n c] := rfl
end Go.RX

/- Digits to the base 2^32: plain. -/
import Derived.Test.YtkcjbfoejpfbbaaGreatDoorWdG
import Derived.Test.YtkcjbfoejpfbbaaGreatDoorWdT
import Derived.Test.YtkcjbfoejpfbbaaGreatDoorRxT
namespace Go.WD
open Go.RX

@[irreducible] def BP (k : Nat) : Nat := 2 ^ (32 * k)
theorem BP_zero : BP 0 = 1 := by unfold BP; rfl
theorem BP_succ (k : Nat) : BP (k + 1) = BP k * 4294967296 := by unfold BP; rw [Nat.mul_succ,Nat.pow_add]
theorem BP_pos (k : Nat) : 0 < BP k := by unfold BP; exact Nat.pow_pos (by omega)
theorem BP_le {i j : Nat} (h : i <= j) : BP i <= BP j := by unfold BP; exact Nat.pow_le_pow_right (by omega) (by omega)
theorem BP_lt_iff {i j : Nat} : BP i < BP j ↔ i < j := by
 constructor
 ·intro h; rcases Nat.lt_or_ge i j with h1 | h1
  ·exact h1
  ·have := BP_le h1; omega
 ·intro h
  have h1 := BP_le (show i + 1 <= j from h)
  have h2 := BP_pos i
  rw [BP_succ] at h1; omega
theorem BP_PW (k : Nat) : BP (2 * k) = PW k := by unfold BP PW; rw [<- Nat.mul_assoc]
theorem BP_M : BP 16 = M := by rw [M_def,<- BP_PW]

def vl : List Nat -> Nat
 | [] => 0
 | d :: l => d + 4294967296 * vl l
def Dg (l : List Nat) : Prop := ∀ d ∈ l,d < 4294967296
theorem Dg.nil : Dg [] := fun _ h => by cases h
theorem Dg.append {a b : List Nat} (ha : Dg a) (hb : Dg b) : Dg (a ++ b) := fun d hd => by
 rcases List.mem_append.1 hd with h | h
 ·exact ha d h
 ·exact hb d h
theorem Dg.one {d : Nat} (h : d < 4294967296) : Dg [d] := fun e he => by rw [List.mem_singleton] at he; omega
theorem Dg.take {l : List Nat} (h : Dg l) (k : Nat) : Dg (l.take k) := fun d hd => h d (List.mem_of_mem_take hd)
theorem Dg.set {l : List Nat} (h : Dg l) (k : Nat) {x : Nat} (hx : x < 4294967296) : Dg (l.set k x) := fun d hd => by
 rcases List.mem_or_eq_of_mem_set hd with h1 | h1
 ·exact h d h1
 ·omega
theorem Dg.zeros (n : Nat) : Dg (List.replicate n 0) := fun d hd => by rw [List.mem_replicate] at hd; omega
theorem Dg.at {l : List Nat} (h : Dg l) (k : Nat) : l.getD k 0 < 4294967296 := by
 rw [List.getD_eq_getElem?_getD]
 cases e : l[k]? with
 | none => simp
 | some d => exact h d (List.mem_of_getElem? e)
theorem vl_append : ∀ (a b : List Nat),vl (a ++ b) = vl a + BP a.length * vl b
 | [],b => by simp [vl,BP_zero]
 | d :: a,b => by
  rw [List.cons_append,vl,vl,vl_append a b,List.length_cons,BP_succ,Nat.mul_add,<- Nat.add_assoc,<- Nat.mul_assoc,Nat.mul_comm (BP a.length)]
theorem vl_one (d : Nat) : vl [d] = d := by simp [vl]
theorem vl_lt : ∀ {l : List Nat},Dg l -> vl l < BP l.length
 | [],_ => by simp [vl,BP_zero]
 | d :: l,h => by
  have h1 := vl_lt (l := l) fun e he => h e (by simp [he])
  have h2 := h d (by simp)
  rw [vl,List.length_cons,BP_succ]
  omega
theorem vl_zeros : ∀ n,vl (List.replicate n 0) = 0
 | 0 => rfl
 | n + 1 => by rw [List.replicate_succ,vl,vl_zeros n]
theorem at_some {l : List Nat} {k : Nat} (h : k < l.length) : l[k]? = some (l.getD k 0) := by
 rw [List.getD_eq_getElem?_getD,List.getElem?_eq_getElem h]; rfl
theorem take_succ' {l : List Nat} {k : Nat} (h : k < l.length) : l.take (k + 1) = l.take k ++ [l.getD k 0] := by
 rw [List.take_add_one,at_some h]; rfl
theorem drop_at {l : List Nat} {k : Nat} (h : k < l.length) : l.drop k = l.getD k 0 :: l.drop (k + 1) := by
 have := List.drop_eq_getElem_cons h
 rw [this]
 congr 1
 rw [List.getD_eq_getElem?_getD,List.getElem?_eq_getElem h]; rfl
theorem vl_take_succ {l : List Nat} {k : Nat} (h : k < l.length) : vl (l.take (k + 1)) = vl (l.take k) + BP k * l.getD k 0 := by
 rw [take_succ' h,vl_append,vl_one,List.length_take,Nat.min_eq_left (by omega)]
theorem vl_drop_at {l : List Nat} {k : Nat} (h : k < l.length) : vl (l.drop k) = l.getD k 0 + 4294967296 * vl (l.drop (k + 1)) := by
 rw [drop_at h]; rfl
theorem vl_split (l : List Nat) {k : Nat} (h : k <= l.length) : vl l = vl (l.take k) + BP k * vl (l.drop k) := by
 have := vl_append (l.take k) (l.drop k)
 rwa [List.take_append_drop,List.length_take,Nat.min_eq_left h] at this
theorem vl_set : ∀ {l : List Nat} {k : Nat} (x : Nat),k < l.length -> vl (l.set k x) + BP k * l.getD k 0 = vl l + BP k * x
 | [],k,x,h => by simp at h
 | d :: l,0,x,_ => by simp [vl,BP_zero]; omega
 | d :: l,k + 1,x,h => by
  have ih := vl_set (l := l) (k := k) x (by simpa using h)
  have e : (d :: l).getD (k + 1) 0 = l.getD k 0 := rfl
  rw [List.set_cons_succ,vl,vl,e,BP_succ,Nat.mul_comm (BP k),Nat.mul_assoc,Nat.mul_assoc]
  have h1 : 4294967296 * vl (l.set k x) + 4294967296 * (BP k * l.getD k 0) = 4294967296 * vl l + 4294967296 * (BP k * x) := by rw [<- Nat.mul_add,ih,Nat.mul_add]
  omega
theorem at_set_self {l : List Nat} {k x : Nat} (h : k < l.length) : (l.set k x).getD k 0 = x := by
 rw [List.getD_eq_getElem?_getD,List.getElem?_set,if_pos rfl,if_pos h]; rfl
theorem at_zeros (n k : Nat) : (List.replicate n 0).getD k 0 = 0 := by
 rw [List.getD_eq_getElem?_getD,List.getElem?_replicate]; split <;> rfl
theorem at_out {l : List Nat} {k : Nat} (h : l.length <= k) : l.getD k 0 = 0 := by
 rw [List.getD_eq_getElem?_getD,List.getElem?_eq_none h]; rfl

def Tm (l : List Nat) : Prop := ∀ k,vl l < BP k -> l.length <= k
theorem Tm.nil : Tm [] := fun _ _ => Nat.zero_le _
theorem vl_ge {l : List Nat} {n : Nat} (hl : l.length = n + 1) (h : l.getD n 0 ≠ 0) : BP n <= vl l := by
 have h1 := vl_take_succ (l := l) (k := n) (by omega)
 rw [List.take_of_length_le (by omega)] at h1
 have := Nat.mul_le_mul_left (BP n) (show 1 <= l.getD n 0 by omega)
 omega
theorem Tm.of {l : List Nat} {n : Nat} (hl : l.length = n + 1) (h : l.getD n 0 ≠ 0) : Tm l := fun k hk => by
 have := BP_lt_iff.1 (Nat.lt_of_le_of_lt (vl_ge hl h) hk)
 omega
theorem Tm.ge {l : List Nat} (h : Tm l) {n : Nat} (hl : l.length = n + 1) : BP n <= vl l := by
 rcases Nat.lt_or_ge (vl l) (BP n) with h1 | h1
 ·have := h n h1; omega
 ·exact h1
theorem Tm.len_le {a b : List Nat} (ha : Tm a) (hb : Dg b) (h : vl a <= vl b) : a.length <= b.length := ha _ (Nat.lt_of_le_of_lt h (vl_lt hb))
theorem Tm.lt_of_len {a b : List Nat} (ha : Dg a) (hb : Tm b) (h : a.length < b.length) : vl a < vl b := by
 obtain ⟨n,hn⟩ : ∃ n,b.length = n + 1 := ⟨b.length - 1,by omega⟩
 exact Nat.lt_of_lt_of_le (vl_lt ha) (Nat.le_trans (BP_le (by omega)) (hb.ge hn))
theorem Tm.pos {l : List Nat} (h : Tm l) : 0 < l.length ↔ 0 < vl l := by
 constructor
 ·intro hl
  obtain ⟨n,hn⟩ : ∃ n,l.length = n + 1 := ⟨l.length - 1,by omega⟩
  exact Nat.lt_of_lt_of_le (BP_pos n) (h.ge hn)
 ·intro hv
  cases l with
  | nil => simp [vl] at hv
  | cons d l => simp
theorem vl_order {a b : List Nat} {i : Nat} (ha : Dg a) (hb : Dg b) (hia : i < a.length) (hib : i < b.length) (hd : a.drop (i + 1) = b.drop (i + 1)) (h : a.getD i 0 < b.getD i 0) : vl a < vl b := by
 have e1 := vl_split a (show i + 1 <= a.length by omega)
 have e2 := vl_split b (show i + 1 <= b.length by omega)
 have f1 := vl_take_succ hia
 have f2 := vl_take_succ hib
 have g1 := vl_lt (ha.take i)
 rw [List.length_take,Nat.min_eq_left (by omega)] at g1
 have h2 := Nat.mul_le_mul_left (BP i) (show a.getD i 0 + 1 <= b.getD i 0 from h)
 rw [Nat.mul_add] at h2
 rw [hd] at e1
 omega
end Go.WD

/- MADE BY rxgen.py: the trees of the reference of chapter 01. -/
namespace Go.Proofs.YtkcjbfoejpfbbaaGreatDoor
open Go.RowKit Go.RX
theorem tr_rcut : tree Tryz.prog [] [] [⟨3,2,[15],[]⟩,⟨0,2,[],[]⟩] [] 123 = some (.pm Tryz.f123 1 1 [V0]
(.loop [V1]
(.join 1
(.ri V2
(.br (.io .gtr V2 (.ki 0))
(.pm Tryz.f123 2 6 [V0,(.io .sub V2 (.ki 1))]
(.pm Tryz.f123 2 7 [V3]
(.ri V4
(.next 1 [(.io .eql V4 (.ki 0))]))))
(.next 1 [(.k (.bool false))])))
(.rq (.bool V3)
(.br V3
(.ri V2
(.next 0 [(.io .sub V2 (.ki 1))]))
(.pm Tryz.f123 4 2 [V0,V2]
(.ret [V4]))))))) := by kernel_rfl
theorem np_rcut : npf Tryz.prog 123 = some 1 := by kernel_rfl
theorem op_rcut_1_1 : (opr Tryz.f123 1 1).op = .call ⟨.builtin .len,#[(.tmp 4)],#[32]⟩ := by kernel_rfl
theorem op_rcut_2_6 : (opr Tryz.f123 2 6).op = .indexAddr 32 (.tmp 9) (.tmp 11) := by kernel_rfl
theorem op_rcut_2_7 : (opr Tryz.f123 2 7).op = .load 3 (.tmp 12) := by kernel_rfl
theorem op_rcut_4_2 : (opr Tryz.f123 4 2).op = .slice 32 (.tmp 18) none (some (.tmp 19)) none := by kernel_rfl
theorem tr_rmade : tree Tryz.prog [] [] [] [] 121 = some (.call false 123 [V1]
(.rq (.bool V0)
(.br V0
(.pm Tryz.f121 2 3 [V2]
(.ri V3
(.rq (.cells 1 V2)
(.ret [(.cat (.io .gtr V3 (.ki 0)) 1 V2)]))))
(.rq (.cells 1 V2)
(.ret [(.cat (.k (.bool false)) 1 V2)]))))) := by kernel_rfl
theorem np_rmade : npf Tryz.prog 121 = some 2 := by kernel_rfl
theorem op_rmade_2_3 : (opr Tryz.f121 2 3).op = .call ⟨.builtin .len,#[(.tmp 9)],#[32]⟩ := by kernel_rfl
theorem tr_rhalves : tree Tryz.prog [] [] [⟨0,3,[],[]⟩] [⟨5,[0,0,2,6,14,30,0,64,192,448,960,2046,4095,8191],[0,0,1,1,0,0,0,1,1,0,0,2,4,0],[0,0,0,0,0,0,0,0,0,0,0,0,0,0],[0,1,2,3,4,5,6,7,8,9,10,11],[12,13]⟩] 120 = some (.rq (.cells 8 V0)
(.loop [(.k (.slice none 0 0)),(.ki 0)]
(.ri V2
(.br (.io .lss V2 (.ki 8))
(.rq (.num V2)
(.rq (.lt 8 V2)
(.rq (.int .u64 (.cell V0 0 1 V2))
(.ef true Tryz.f120 5 11 [(.cv .i64 (.uo .rem (.cell V0 0 1 V2) (.k (.int .u64 (4294967296))))),(.cv .i64 (.uo .quo (.cell V0 0 1 V2) (.k (.int .u64 (4294967296)))))]
(.ef false Tryz.f120 5 12 [V1,V3]
(.next 0 [V4,(.io .add V2 (.ki 1))]))))))
(.ret [V1]))))) := by kernel_rfl
theorem np_rhalves : npf Tryz.prog 120 = some 1 := by kernel_rfl
theorem op_rhalves_5_11 : (opr Tryz.f120 5 11).op = .buildSlice 32 2 #[(0,(.tmp 14)),(1,(.tmp 19))] := by kernel_rfl
theorem op_rhalves_5_12 : (opr Tryz.f120 5 12).op = .call ⟨.builtin .append,#[(.tmp 9),(.tmp 20)],#[32,32]⟩ := by kernel_rfl
theorem tr_rIn : tree Tryz.prog [] [] [] [] 61 = some (.rq (.cells 8 V0)
(.call false 120 [(.ag V0)]
(.rq (.int .u64 (.cell V0 7 0 noI))
(.br (.uo .lss (.cell V0 7 0 noI) (.k (.int .u64 (9223372036854775808))))
(.call false 121 [(.k (.bool false)),V1]
(.rq (.cells 2 V2)
(.ret [(.ag V2)])))
(.ef false Tryz.f61 4 0 [(.ki 17),(.ki 17)]
(.pm Tryz.f61 5 1 [V2,(.ki 16)]
(.ef false Tryz.f61 5 2 [V3,(.ki 1)]
(.call false 123 [V1]
(.call false 122 [V2,V5]
(.call false 121 [(.k (.bool true)),V6]
(.rq (.cells 2 V7)
(.ret [(.ag V7)])))))))))))) := by kernel_rfl
theorem np_rIn : npf Tryz.prog 61 = some 1 := by kernel_rfl
theorem op_rIn_4_0 : (opr Tryz.f61 4 0).op = .makeSlice 32 (.const (.int .i64 (17))) (.const (.int .i64 (17))) := by kernel_rfl
theorem op_rIn_5_1 : (opr Tryz.f61 5 1).op = .indexAddr 32 (.tmp 13) (.const (.int .i64 (16))) := by kernel_rfl
theorem op_rIn_5_2 : (opr Tryz.f61 5 2).op = .store 3 (.tmp 14) (.const (.int .i64 (1))) := by kernel_rfl
theorem tr_rOut : tree Tryz.prog [] [] [⟨3,4,[27],[]⟩,⟨2,32,[6],[]⟩,⟨0,13,[],[2]⟩] [⟨15,[0,1,0,4,12,28,0,0,192,448,960,0,2048,6144,16320,32764,65535,131071],[0,0,0,0,1,1,0,0,1,1,0,0,0,0,0,0,1,4],[0,0,0,0,0,0,0,0,0,0,0,0,0,0,0,0,0,0],[0,1,2,3,4,5,6,7,8,9,10,11,12,13,14,15,16],[17]⟩] 62 = some (.rq (.cells 2 V0)
(.ef false Tryz.f62 1 0 [(.ki 16),(.ki 16)]
(.pm Tryz.f62 2 1 [V1,(.ki 15)]
(.ef false Tryz.f62 2 2 [V2,(.ki 2147483648)]
(.call false 124 [(.cell V0 1 0 noI),V1]
(.join 1
(.ri V4
(.br (.io .gtr V4 (.ki 0))
(.next 0 [(.k (.bool true))])
(.br (.io .eql V4 (.ki 0))
(.rq (.bool (.cell V0 0 0 noI))
(.next 0 [(.nt (.cell V0 0 0 noI))]))
(.next 0 [(.k (.bool false))]))))
(.rq (.bool V5)
(.br V5
(.ret [(.z 53),(.ki 6)])
(.join 1
(.rq (.bool (.cell V0 0 0 noI))
(.br (.cell V0 0 0 noI)
(.ef false Tryz.f62 8 0 [(.ki 17),(.ki 17)]
(.pm Tryz.f62 9 1 [V6,(.ki 16)]
(.ef false Tryz.f62 9 2 [V7,(.ki 1)]
(.call false 122 [V6,(.cell V0 1 0 noI)]
(.next 0 [V9])))))
(.next 0 [(.cell V0 1 0 noI)])))
(.loop [(.ki 0),(.z 53)]
(.pm Tryz.f62 13 2 [V6]
(.ri V7
(.ri V9
(.br (.io .lss V7 V9)
(.rq (.lt 8 (.io .quo V7 (.ki 2)))
(.pm Tryz.f62 15 8 [V6,V7]
(.pm Tryz.f62 15 9 [V10]
(.ri V11
(.rq (.nn (.io .mul (.ki 32) (.io .rem V7 (.ki 2))))
(.rq (.int .u64 (.cell V8 0 1 (.io .quo V7 (.ki 2))))
(.next 0 [(.io .add V7 (.ki 1)),(.put V8 0 1 (.uo .add (.cell V8 0 1 (.io .quo V7 (.ki 2))) (.uo .shl (.cv .u64 V11) (.io .mul (.ki 32) (.io .rem V7 (.ki 2))))) 1 (.io .quo V7 (.ki 2)))])))))))
(.ret [(.ag V8),(.ki 0)]))))))))))))))) := by kernel_rfl
theorem np_rOut : npf Tryz.prog 62 = some 1 := by kernel_rfl
theorem op_rOut_1_0 : (opr Tryz.f62 1 0).op = .makeSlice 32 (.const (.int .i64 (16))) (.const (.int .i64 (16))) := by kernel_rfl
theorem op_rOut_2_1 : (opr Tryz.f62 2 1).op = .indexAddr 32 (.tmp 11) (.const (.int .i64 (15))) := by kernel_rfl
theorem op_rOut_2_2 : (opr Tryz.f62 2 2).op = .store 3 (.tmp 12) (.const (.int .i64 (2147483648))) := by kernel_rfl
theorem op_rOut_8_0 : (opr Tryz.f62 8 0).op = .makeSlice 32 (.const (.int .i64 (17))) (.const (.int .i64 (17))) := by kernel_rfl
theorem op_rOut_9_1 : (opr Tryz.f62 9 1).op = .indexAddr 32 (.tmp 34) (.const (.int .i64 (16))) := by kernel_rfl
theorem op_rOut_9_2 : (opr Tryz.f62 9 2).op = .store 3 (.tmp 35) (.const (.int .i64 (1))) := by kernel_rfl
theorem op_rOut_13_2 : (opr Tryz.f62 13 2).op = .call ⟨.builtin .len,#[(.tmp 40)],#[32]⟩ := by kernel_rfl
theorem op_rOut_15_8 : (opr Tryz.f62 15 8).op = .indexAddr 32 (.tmp 51) (.tmp 52) := by kernel_rfl
theorem op_rOut_15_9 : (opr Tryz.f62 15 9).op = .load 3 (.tmp 53) := by kernel_rfl
theorem tr_rLong1 : tree Tryz.prog [] [] [⟨2,9,[4],[]⟩] [] 63 = some (.ri V0
(.join 1
(.br (.io .lss V0 (.ki 0))
(.next 0 [(.op1 .neg .u64 (.cv .u64 V0))])
(.next 0 [(.cv .u64 V0)]))
(.ru V1
(.ef false Tryz.f63 5 7 [(.cv .i64 (.uo .rem V1 (.k (.int .u64 (4294967296))))),(.cv .i64 (.uo .quo V1 (.k (.int .u64 (4294967296)))))]
(.call false 121 [(.io .lss V0 (.ki 0)),V2]
(.rq (.cells 2 V3)
(.ret [(.ag V3)]))))))) := by kernel_rfl
theorem np_rLong1 : npf Tryz.prog 63 = some 1 := by kernel_rfl
theorem op_rLong1_5_7 : (opr Tryz.f63 5 7).op = .buildSlice 32 2 #[(0,(.tmp 15)),(1,(.tmp 18))] := by kernel_rfl
theorem tr_rorder : tree Tryz.prog [] [] [⟨0,4,[],[]⟩] [⟨6,[0,0,3,7,0,0,48,112,255],[0,0,1,1,0,0,1,1,0],[0,0,0,0,0,0,0,0,0],[0,1,2,3,4,5,6,7,8],[]⟩,⟨7,[0,0,3,7,0,0,48,112,255,511],[0,0,1,1,0,0,1,1,0,0],[0,0,0,0,0,0,0,0,0,0],[0,1,2,3,4,5,6,7,8,9],[]⟩] 124 = some (.pm Tryz.f124 1 1 [V0]
(.pm Tryz.f124 1 3 [V1]
(.ri V2
(.ri V3
(.br (.io .neq V2 V3)
(.pm Tryz.f124 2 1 [V0]
(.pm Tryz.f124 2 3 [V1]
(.ri V4
(.ri V5
(.ret [(.io .sub V4 V5)])))))
(.pm Tryz.f124 3 1 [V0]
(.ri V4
(.loop [(.ki 0),(.io .sub V4 (.ki 1))]
(.ri V6
(.br (.io .geq V6 (.ki 0))
(.pm Tryz.f124 6 2 [V0,V6]
(.pm Tryz.f124 6 3 [V7]
(.pm Tryz.f124 6 6 [V1,V6]
(.pm Tryz.f124 6 7 [V9]
(.ri V8
(.ri V10
(.br (.io .neq V8 V10)
(.pm Tryz.f124 7 2 [V0,V6]
(.pm Tryz.f124 7 3 [V11]
(.pm Tryz.f124 7 6 [V1,V6]
(.pm Tryz.f124 7 7 [V13]
(.ri V12
(.ri V14
(.ret [(.io .sub V12 V14)])))))))
(.next 0 [V5,(.io .sub V6 (.ki 1))]))))))))
(.ret [(.ki 0)]))))))))))) := by kernel_rfl
theorem np_rorder : npf Tryz.prog 124 = some 2 := by kernel_rfl
theorem op_rorder_1_1 : (opr Tryz.f124 1 1).op = .call ⟨.builtin .len,#[(.tmp 6)],#[32]⟩ := by kernel_rfl
theorem op_rorder_1_3 : (opr Tryz.f124 1 3).op = .call ⟨.builtin .len,#[(.tmp 8)],#[32]⟩ := by kernel_rfl
theorem op_rorder_2_1 : (opr Tryz.f124 2 1).op = .call ⟨.builtin .len,#[(.tmp 11)],#[32]⟩ := by kernel_rfl
theorem op_rorder_2_3 : (opr Tryz.f124 2 3).op = .call ⟨.builtin .len,#[(.tmp 13)],#[32]⟩ := by kernel_rfl
theorem op_rorder_3_1 : (opr Tryz.f124 3 1).op = .call ⟨.builtin .len,#[(.tmp 16)],#[32]⟩ := by kernel_rfl
theorem op_rorder_6_2 : (opr Tryz.f124 6 2).op = .indexAddr 32 (.tmp 23) (.tmp 24) := by kernel_rfl
theorem op_rorder_6_3 : (opr Tryz.f124 6 3).op = .load 3 (.tmp 25) := by kernel_rfl
theorem op_rorder_6_6 : (opr Tryz.f124 6 6).op = .indexAddr 32 (.tmp 27) (.tmp 28) := by kernel_rfl
theorem op_rorder_6_7 : (opr Tryz.f124 6 7).op = .load 3 (.tmp 29) := by kernel_rfl
theorem op_rorder_7_2 : (opr Tryz.f124 7 2).op = .indexAddr 32 (.tmp 32) (.tmp 33) := by kernel_rfl
theorem op_rorder_7_3 : (opr Tryz.f124 7 3).op = .load 3 (.tmp 34) := by kernel_rfl
theorem op_rorder_7_6 : (opr Tryz.f124 7 6).op = .indexAddr 32 (.tmp 36) (.tmp 37) := by kernel_rfl
theorem op_rorder_7_7 : (opr Tryz.f124 7 7).op = .load 3 (.tmp 38) := by kernel_rfl
theorem tr_rmore : tree Tryz.prog [] [] [⟨3,4,[21],[]⟩,⟨2,27,[6],[]⟩,⟨2,37,[6],[]⟩,⟨0,4,[],[]⟩] [] 231 = some (.loop [(.k (.slice none 0 0)),(.ki 0),(.ki 0)]
(.join 1
(.pm Tryz.f231 4 2 [V0]
(.ri V4
(.ri V5
(.br (.io .lss V4 V5)
(.next 1 [(.k (.bool true))])
(.pm Tryz.f231 4 7 [V1]
(.ri V6
(.br (.io .lss V4 V6)
(.next 1 [(.k (.bool true))])
(.ri V3
(.next 1 [(.io .gtr V3 (.ki 0))])))))))))
(.rq (.bool V5)
(.br V5
(.pm Tryz.f231 6 2 [V0]
(.ri V4
(.ri V6
(.join 1
(.br (.io .lss V4 V6)
(.pm Tryz.f231 7 3 [V0,V4]
(.pm Tryz.f231 7 4 [V7]
(.ri V3
(.ri V8
(.next 1 [(.io .add V3 V8)])))))
(.next 1 [V3]))
(.pm Tryz.f231 8 2 [V1]
(.ri V8
(.join 1
(.br (.io .lss V4 V8)
(.pm Tryz.f231 9 3 [V1,V4]
(.pm Tryz.f231 9 4 [V9]
(.ri V7
(.ri V10
(.next 1 [(.io .add V7 V10)])))))
(.next 1 [V7]))
(.ri V9
(.ef false Tryz.f231 10 3 [(.io .rem V9 (.ki 4294967296))]
(.ef false Tryz.f231 10 4 [V2,V10]
(.next 0 [V11,(.io .quo V9 (.ki 4294967296)),(.io .add V4 (.ki 1))])))))))))))
(.ret [V2]))))) := by kernel_rfl
theorem np_rmore : npf Tryz.prog 231 = some 2 := by kernel_rfl
theorem op_rmore_4_2 : (opr Tryz.f231 4 2).op = .call ⟨.builtin .len,#[(.tmp 9)],#[32]⟩ := by kernel_rfl
theorem op_rmore_4_7 : (opr Tryz.f231 4 7).op = .call ⟨.builtin .len,#[(.tmp 14)],#[32]⟩ := by kernel_rfl
theorem op_rmore_6_2 : (opr Tryz.f231 6 2).op = .call ⟨.builtin .len,#[(.tmp 25)],#[32]⟩ := by kernel_rfl
theorem op_rmore_7_3 : (opr Tryz.f231 7 3).op = .indexAddr 32 (.tmp 29) (.tmp 30) := by kernel_rfl
theorem op_rmore_7_4 : (opr Tryz.f231 7 4).op = .load 3 (.tmp 31) := by kernel_rfl
theorem op_rmore_8_2 : (opr Tryz.f231 8 2).op = .call ⟨.builtin .len,#[(.tmp 35)],#[32]⟩ := by kernel_rfl
theorem op_rmore_9_3 : (opr Tryz.f231 9 3).op = .indexAddr 32 (.tmp 39) (.tmp 40) := by kernel_rfl
theorem op_rmore_9_4 : (opr Tryz.f231 9 4).op = .load 3 (.tmp 41) := by kernel_rfl
theorem op_rmore_10_3 : (opr Tryz.f231 10 3).op = .buildSlice 32 1 #[(0,(.tmp 46))] := by kernel_rfl
theorem op_rmore_10_4 : (opr Tryz.f231 10 4).op = .call ⟨.builtin .append,#[(.tmp 44),(.tmp 47)],#[32,32]⟩ := by kernel_rfl
theorem tr_rless : tree Tryz.prog [] [] [⟨2,24,[8],[]⟩,⟨2,32,[8,6],[]⟩,⟨0,4,[],[]⟩] [] 122 = some (.loop [(.ki 0),(.k (.slice none 0 0)),(.ki 0)]
(.pm Tryz.f122 4 2 [V0]
(.ri V4
(.ri V5
(.br (.io .lss V4 V5)
(.pm Tryz.f122 6 2 [V0,V4]
(.pm Tryz.f122 6 3 [V6]
(.ri V7
(.ri V2
(.pm Tryz.f122 7 2 [V1]
(.ri V8
(.join 1
(.br (.io .lss V4 V8)
(.pm Tryz.f122 8 3 [V1,V4]
(.pm Tryz.f122 8 4 [V9]
(.ri V10
(.next 1 [(.io .sub (.io .sub V7 V2) V10)]))))
(.next 1 [(.io .sub V7 V2)]))
(.ri V9
(.join 2
(.br (.io .lss V9 (.ki 0))
(.next 1 [(.io .add V9 (.ki 4294967296)),(.ki 1)])
(.next 1 [V9,(.ki 0)]))
(.ef false Tryz.f122 13 2 [V10]
(.ef false Tryz.f122 13 3 [V3,V12]
(.next 0 [V11,V13,(.io .add V4 (.ki 1))]))))))))))))
(.call false 123 [V3]
(.ret [V6]))))))) := by kernel_rfl
theorem np_rless : npf Tryz.prog 122 = some 2 := by kernel_rfl
theorem op_rless_4_2 : (opr Tryz.f122 4 2).op = .call ⟨.builtin .len,#[(.tmp 10)],#[32]⟩ := by kernel_rfl
theorem op_rless_6_2 : (opr Tryz.f122 6 2).op = .indexAddr 32 (.tmp 15) (.tmp 16) := by kernel_rfl
theorem op_rless_6_3 : (opr Tryz.f122 6 3).op = .load 3 (.tmp 17) := by kernel_rfl
theorem op_rless_7_2 : (opr Tryz.f122 7 2).op = .call ⟨.builtin .len,#[(.tmp 22)],#[32]⟩ := by kernel_rfl
theorem op_rless_8_3 : (opr Tryz.f122 8 3).op = .indexAddr 32 (.tmp 26) (.tmp 27) := by kernel_rfl
theorem op_rless_8_4 : (opr Tryz.f122 8 4).op = .load 3 (.tmp 28) := by kernel_rfl
theorem op_rless_13_2 : (opr Tryz.f122 13 2).op = .buildSlice 32 1 #[(0,(.tmp 36))] := by kernel_rfl
theorem op_rless_13_3 : (opr Tryz.f122 13 3).op = .call ⟨.builtin .append,#[(.tmp 35),(.tmp 37)],#[32,32]⟩ := by kernel_rfl
theorem tr_rTurn : tree Tryz.prog [] [] [] [] 222 = some (.rq (.cells 2 V0)
(.rq (.bool (.cell V0 0 0 noI))
(.call false 121 [(.nt (.cell V0 0 0 noI)),(.cell V0 1 0 noI)]
(.rq (.cells 2 V1)
(.ret [(.ag V1)]))))) := by kernel_rfl
theorem np_rTurn : npf Tryz.prog 222 = some 1 := by kernel_rfl
theorem tr_rPlus : tree Tryz.prog [] [] [] [⟨2,[0,1,0,4,0,16,60,127,255],[1,1,1,1,1,1,2,2,6],[0,0,0,0,0,0,0,0,2],[0,1,2,3,4,5,6,7],[8]⟩,⟨4,[0,1,0,4,0,16,60,127,255],[1,1,1,1,1,1,2,2,6],[0,0,0,0,0,0,0,0,2],[0,1,2,3,4,5,6,7],[8]⟩,⟨5,[0,1,0,4,0,16,60,127,255],[1,1,1,1,1,1,2,2,6],[0,0,0,0,0,0,0,0,2],[0,1,2,3,4,5,6,7],[8]⟩] 190 = some (.rq (.cells 2 V0)
(.rq (.cells 2 V1)
(.rq (.bool (.cell V0 0 0 noI))
(.rq (.bool (.cell V1 0 0 noI))
(.br (.eqb false (.cell V0 0 0 noI) (.cell V1 0 0 noI))
(.call true 231 [(.cell V0 1 0 noI),(.cell V1 1 0 noI)]
(.call true 121 [(.cell V0 0 0 noI),V2]
(.rq (.cells 2 V3)
(.ret [(.ag V3)]))))
(.call false 124 [(.cell V0 1 0 noI),(.cell V1 1 0 noI)]
(.ri V2
(.br (.io .geq V2 (.ki 0))
(.call true 122 [(.cell V0 1 0 noI),(.cell V1 1 0 noI)]
(.call true 121 [(.cell V0 0 0 noI),V3]
(.rq (.cells 2 V4)
(.ret [(.ag V4)]))))
(.call true 122 [(.cell V1 1 0 noI),(.cell V0 1 0 noI)]
(.call true 121 [(.cell V1 0 0 noI),V3]
(.rq (.cells 2 V4)
(.ret [(.ag V4)])))))))))))) := by kernel_rfl
theorem np_rPlus : npf Tryz.prog 190 = some 2 := by kernel_rfl
theorem tr_rMinus : tree Tryz.prog [] [] [] [⟨1,[0,0,2,7,15],[5,5,2,2,6],[0,1,0,0,2],[0,1,2,3],[4]⟩] 182 = some (.rq (.cells 2 V0)
(.rq (.cells 2 V1)
(.call true 222 [(.ag V1)]
(.call true 190 [(.ag V0),V2]
(.rq (.cells 2 V3)
(.ret [(.ag V3)])))))) := by kernel_rfl
theorem np_rMinus : npf Tryz.prog 182 = some 2 := by kernel_rfl
theorem tr_rOrder : tree Tryz.prog [] [] [] [] 119 = some (.rq (.cells 2 V0)
(.rq (.cells 2 V1)
(.call false 182 [(.ag V0),(.ag V1)]
(.rq (.cells 2 V2)
(.rq (.bool (.cell V2 0 0 noI))
(.br (.cell V2 0 0 noI)
(.ret [(.k (.int .i64 (-1)))])
(.pm Tryz.f119 4 2 [(.cell V2 1 0 noI)]
(.ri V3
(.br (.io .gtr V3 (.ki 0))
(.ret [(.ki 1)])
(.ret [(.ki 0)])))))))))) := by kernel_rfl
theorem np_rOrder : npf Tryz.prog 119 = some 2 := by kernel_rfl
theorem op_rOrder_4_2 : (opr Tryz.f119 4 2).op = .call ⟨.builtin .len,#[(.tmp 12)],#[32]⟩ := by kernel_rfl
theorem tr_rOf : tree Tryz.prog [] [] [] [] 18 = some (.call false 63 [V0]
(.call false 62 [V1]
(.rq (.tup 0 V2)
(.rq (.tup 1 V2)
(.rq (.cells 8 (.proj V2 0))
(.ret [(.ag (.proj V2 0))])))))) := by kernel_rfl
theorem np_rOf : npf Tryz.prog 18 = some 1 := by kernel_rfl
theorem tr_rInteger : tree Tryz.prog [] [] [⟨3,1,[15],[]⟩,⟨2,34,[4],[]⟩,⟨0,5,[],[]⟩] [⟨1,[0,0,3,7,15,31,31,127,255,511],[5,2,2,0,0,5,2,2,0,0],[0,0,0,0,0,0,0,0,0,0],[0,1,2,3,4,5,6,7,8,9],[]⟩] 60 = some (.rq (.cells 2 V0)
(.join 1
(.call true 63 [(.k (.int .i64 (-9223372036854775808)))]
(.call true 119 [(.ag V0),V1]
(.ri V2
(.br (.io .lss V2 (.ki 0))
(.next 0 [(.k (.bool true))])
(.call true 63 [(.ki 9223372036854775807)]
(.call true 119 [(.ag V0),V3]
(.ri V4
(.next 0 [(.io .gtr V4 (.ki 0))]))))))))
(.rq (.bool V1)
(.br V1
(.ret [(.ki 0),(.ki 6)])
(.pm Tryz.f60 4 2 [(.cell V0 1 0 noI)]
(.ri V2
(.loop [(.k (.int .u64 (0))),(.io .sub V2 (.ki 1))]
(.ri V4
(.br (.io .geq V4 (.ki 0))
(.ru V3
(.pm Tryz.f60 7 5 [(.cell V0 1 0 noI),V4]
(.pm Tryz.f60 7 6 [V5]
(.ri V6
(.next 0 [(.uo .add (.uo .mul V3 (.k (.int .u64 (4294967296)))) (.cv .u64 V6)),(.io .sub V4 (.ki 1))])))))
(.join 1
(.rq (.bool (.cell V0 0 0 noI))
(.br (.cell V0 0 0 noI)
(.ru V3
(.next 1 [(.op1 .neg .u64 V3)]))
(.next 1 [V3])))
(.ru V5
(.ret [(.cv .i64 V5),(.ki 0)])))))))))))) := by kernel_rfl
theorem np_rInteger : npf Tryz.prog 60 = some 1 := by kernel_rfl
theorem op_rInteger_4_2 : (opr Tryz.f60 4 2).op = .call ⟨.builtin .len,#[(.tmp 17)],#[32]⟩ := by kernel_rfl
theorem op_rInteger_7_5 : (opr Tryz.f60 7 5).op = .indexAddr 32 (.tmp 27) (.tmp 28) := by kernel_rfl
theorem op_rInteger_7_6 : (opr Tryz.f60 7 6).op = .load 3 (.tmp 29) := by kernel_rfl
theorem tr_rInt : tree Tryz.prog [] [] [] [] 16 = some (.rq (.cells 8 V0)
(.call false 61 [(.ag V0)]
(.call false 60 [V1]
(.rq (.tup 0 V2)
(.rq (.tup 1 V2)
(.ret [(.proj V2 0),(.proj V2 1)])))))) := by kernel_rfl
theorem np_rInt : npf Tryz.prog 16 = some 1 := by kernel_rfl
end Go.Proofs.YtkcjbfoejpfbbaaGreatDoor

/- Slices of digits in memory. -/
namespace Go.RX
open Go.RowKit
end Go.RX
namespace Go.Proofs.YtkcjbfoejpfbbaaGreatDoor
open Go.RowKit Go.RX Go.WD

def iv (d : Nat) : Value := .int .i64 (d : Nat)
theorem range1 (f : Nat -> Value) : (Array.range (1 * 1)).map f = #[f 0] := by
 apply Array.ext'; simp
theorem range2 (f : Nat -> Value) : (Array.range (2 * 1)).map f = #[f 0,f 1] := by
 apply Array.ext'; simp [List.range_succ]
theorem fill1 (f : Nat -> Value) (d : Nat) : Instr.fill (fun j => some (j * 1,1)) ((Array.range (1 * 1)).map f) [(0,iv d)] = some #[iv d] := by
 rw [range1]
 simp [Instr.fill,iv,cells_int]
theorem fill2 (f : Nat -> Value) (d e : Nat) : Instr.fill (fun j => some (j * 1,1)) ((Array.range (2 * 1)).map f) [(0,iv d),(1,iv e)] = some #[iv d,iv e] := by
 rw [range2]
 simp [Instr.fill,iv,cells_int]
def Ds (H : PH) (v : Value) (l : List Nat) : Prop := Sl H 1 v l.length (l.map iv) /\ Dg l
def Od (H0 H : PH) (v : Value) (l : List Nat) : Prop := OwS H0 H 3 1 v l.length (l.map iv) /\ Dg l
theorem Ds.mono {H H' : PH} {v : Value} {l : List Nat} (h : Ds H v l) (hl : PH.le H H') : Ds H' v l := ⟨h.1.mono hl,h.2⟩
theorem Od.mono {H0 H H' : PH} {v : Value} {l : List Nat} (h : Od H0 H v l) (hl : PH.le H H') : Od H0 H' v l := ⟨h.1.mono hl,h.2⟩
theorem Od.ds {H0 H : PH} {v : Value} {l : List Nat} (h : Od H0 H v l) : Ds H v l := ⟨h.1.sl,h.2⟩
theorem Od.nil (H0 H : PH) : Od H0 H (.slice none 0 0) [] := ⟨OwS.nil H0 H _ 1,Dg.nil⟩
def Nu (H : PH) (v : Value) (n : Nat) : Prop := ∃ l,Ds H v l /\ Tm l /\ vl l = n
theorem Nu.mono {H H' : PH} {v : Value} {n : Nat} (h : Nu H v n) (hl : PH.le H H') : Nu H' v n := by
 obtain ⟨l,h1,h2⟩ := h; exact ⟨l,h1.mono hl,h2⟩
theorem Ds.cells {H : PH} {v : Value} {l : List Nat} (h : Ds H v l) : v.cells = #[v] := by
 obtain ⟨⟨_,a,c,h2,_⟩,_⟩ := h; rw [h2]; rfl
theorem Ds.one {H : PH} {v : Value} {l : List Nat} (h : Ds H v l) : v.cells.size = 1 /\ oneAll v.cells := by
 rw [h.cells]
 obtain ⟨⟨_,a,c,h2,_⟩,_⟩ := h
 refine ⟨rfl,fun c hc => ?_⟩
 simp at hc; rw [hc,h2]; rfl
theorem map_iv {l : List Nat} {i : Nat} (h : i < l.length) : ((l.map iv).drop (i * 1)).take 1 = [iv (l.getD i 0)] := by
 rw [Nat.mul_one,<- List.map_drop,drop_at h]; rfl
theorem cells_int' : Tryz.prog.cellsOf 3 = 1 := by kernel_rfl
theorem hasT_int : hasT Tryz.prog 3 = true := by kernel_rfl
theorem agg_int : isAggB Tryz.prog 3 = false := by kernel_rfl
theorem und_ints : Tryz.prog.underlying 32 = some (.slice 3) := by kernel_rfl
theorem info_int : ∃ i,Tryz.prog.info? 3 = some i /\ i.zero = some (.int .i64 0) /\ i.size = 1 /\ i.bytes = 8 := by
 refine ⟨(Tryz.prog.info? 3).getD default,by kernel_rfl,by kernel_rfl,by kernel_rfl,by kernel_rfl⟩
section
variable {G : Value -> PH -> Prop} {nx : List (List Value -> PH -> Prop)} {ρ : List Value} {H H0 : PH} {o o1 o2 : Oper} {x y x2 y2 : Operand} {id i id2 i2 : Nat} {args args2 : List SV} {t : Tree} {v : Value} {l : List Nat}
theorem den_len (ho : o.op = .call ⟨.builtin .len,#[x],#[32]⟩) (hx : argEv [x] [v] x = v) (h : Ds H v l) (ha : args.map (D Tryz.prog ρ) = [v]) (n : den Tryz.prog G t nx (ρ ++ [iv l.length]) H) : den Tryz.prog G (.prim id i o args t) nx ρ H :=
 den_prim ((sl_len ho hx und_ints h.1).rds H) ha n
theorem den_at {k : IntKind} {j : Nat} (ho1 : o1.op = .indexAddr 32 x y) (ho2 : o2.op = .load 3 x2) (hx : argEv [x,y] [v,.int k (j : Nat)] x = v) (hy : argEv [x,y] [v,.int k (j : Nat)] y = .int k (j : Nat)) (hx2 : ∀ p,argEv [x2] [p] x2 = p) (h : Ds H v l) (hj : j < l.length)
  (ha : args.map (D Tryz.prog ρ) = [v,.int k (j : Nat)]) (ha2 : ∀ p,args2.map (D Tryz.prog (ρ ++ [p])) = [p]) (n : ∀ p,den Tryz.prog G t nx (ρ ++ [p] ++ [iv (l.getD j 0)]) H) : den Tryz.prog G (.prim id i o1 args (.prim id2 i2 o2 args2 t)) nx ρ H := by
 obtain ⟨b,q,cs,T',fz,h1,h2,h3,h4⟩ := sl_at (P := Tryz.prog) ho1 hx hy und_ints hasT_int cells_int' Nat.zero_lt_one h.1 hj
 rw [map_iv hj] at h4
 exact den_prim (h1.rds H) ha (den_prim (sl_load1 ho2 (hx2 _) h2 hasT_int agg_int cells_int' h3 h4) (ha2 _) (n _))
theorem den_set {k : IntKind} {j d : Nat} {pf : Bool} (ho1 : o1.op = .indexAddr 32 x y) (ho2 : o2.op = .store 3 x2 y2) (hx : argEv [x,y] [v,.int k (j : Nat)] x = v) (hy : argEv [x,y] [v,.int k (j : Nat)] y = .int k (j : Nat)) (hx2 : ∀ p,argEv [x2,y2] [p,iv d] x2 = p) (hy2 : ∀ p,argEv [x2,y2] [p,iv d] y2 = iv d)
  (hle : PH.le H0 H) (h : Od H0 H v l) (hj : j < l.length) (hd : d < 4294967296) (ha : args.map (D Tryz.prog ρ) = [v,.int k (j : Nat)]) (ha2 : ∀ p,args2.map (D Tryz.prog (ρ ++ [p])) = [p,iv d]) (hpf : pf = false)
  (n : ∀ p u H',PH.le H0 H' -> Od H0 H' v (l.set j d) -> (∃ g ob,H0 g = none /\ H' = H.put g ob) -> den Tryz.prog G t nx (ρ ++ [p] ++ [u]) H') : den Tryz.prog G (.prim id i o1 args (.eff pf id2 i2 o2 args2 t)) nx ρ H := by
 obtain ⟨⟨hlen,hv⟩,hD⟩ := h
 rcases hv with ⟨_,h0⟩ | ⟨g,cap,cur,rfl,hg0,hg,hnc,hcm,hcs,htk⟩
 ·omega
 rw [Nat.mul_one] at hcs htk
 have hix := yld_indexS (P := Tryz.prog) (m := (j : Int)) (n := l.length) ho1 hx hy und_ints hasT_int (by omega) (by omega)
 rw [Int.toNat_natCast,cells_int',Nat.zero_add,Nat.mul_one] at hix
 refine den_prim (hix.rds H) ha (den_eff (opn_store ho2 (hx2 _) (hy2 _) hg hasT_int (by rw [cells_int']; omega) (by rw [cells_int']; rfl) (one_int _ _)) (ha2 _) ?_)
 rintro u H' ⟨rfl,rfl⟩
 subst hpf
 have hcl : (iv d).cells.toList = [iv d] := rfl
 rw [hcl]
 refine ⟨fun h => (nomatch h),n _ _ _ ?_ ⟨⟨by simp,.inr ⟨g,cap,_,by rw [List.length_set],hg0,PH.put_self _ _ _,by rw [List.length_set]; exact hnc,hcm,?_,?_⟩⟩,hD.set j hd⟩ ⟨g,_,hg0,rfl⟩⟩
 ·intro k ob hk
  rw [PH.put_ne _ _ (fun e => by rw [e,hg0] at hk; cases hk)]
  exact hle _ _ hk
 ·show (cur.setIfInBounds j (iv d)).size = _
  rw [Array.size_setIfInBounds,hcs,Nat.mul_one]
 ·show (cur.setIfInBounds j (iv d)).toList.take _ = _
  rw [Array.toList_setIfInBounds,Nat.mul_one,List.length_set,List.take_set,htk,List.map_set]
theorem od_new {g n : Nat} {cs : Array Value} {l : List Nat} (hg : H g = none) (hl : l.length = n) (hn : n <= maxLen) (hc : cs.toList = l.map iv) (hD : Dg l) : Od H (H.put g (.cells cs 3 (0,0))) (.slice (some ⟨g,0,none⟩) n n) l := by
 have hs : cs.size = n := by rw [<- Array.length_toList,hc,List.length_map,hl]
 refine ⟨⟨by simp,.inr ⟨g,n,cs,by rw [hl],hg,PH.put_self _ _ _,by omega,hn,by omega,?_⟩⟩,hD⟩
 rw [hc,List.take_of_length_le (by simp)]
theorem den_make {kl kc : IntKind} {pf : Bool} {m : Nat} (ho : o.op = .makeSlice 32 x y) (hx : argEv [x,y] [.int kl (m : Nat),.int kc (m : Nat)] x = .int kl (m : Nat)) (hy : argEv [x,y] [.int kl (m : Nat),.int kc (m : Nat)] y = .int kc (m : Nat)) (hm : m <= 1000000) (ha : args.map (D Tryz.prog ρ) = [.int kl (m : Nat),.int kc (m : Nat)])
  (n : ∀ v H',PH.le H H' -> Od H H' v (List.replicate m 0) -> den Tryz.prog G t nx (ρ ++ [v]) H') : den Tryz.prog G (.eff pf id i o args t) nx ρ H := by
 obtain ⟨ti,h1,h2,h3,h4⟩ := info_int
 refine den_eff (sl_make ho hx hy und_ints h1 h2 h3 (by rw [h4]; omega) (by simp only [maxLen]; omega)) ha ?_
 rintro v H' ⟨g,hg,rfl,rfl⟩
 refine ⟨fun _ => PH.le_put hg _,n _ _ (PH.le_put hg _) (od_new hg (by simp) (by simp only [maxLen]; omega) ?_ (Dg.zeros m))⟩
 rw [Nat.mul_one]
 show (madeCells #[.int .i64 0] m).toList = _
 apply List.ext_getElem?
 intro j
 rw [List.getElem?_map,List.getElem?_replicate]
 simp only [madeCells,Array.toList_map,List.getElem?_map,Array.toList_range]
 by_cases hj : j < m
 ·simp [hj,Nat.mod_one,iv]
 ·simp [hj]
theorem den_build1 {d : Nat} {pf : Bool} (ho : o.op = .buildSlice 32 1 #[(0,x)]) (hx : argEv [x] [iv d] x = iv d) (hd : d < 4294967296) (ha : args.map (D Tryz.prog ρ) = [iv d])
  (n : ∀ v H',PH.le H H' -> Od H H' v [d] -> den Tryz.prog G t nx (ρ ++ [v]) H') : den Tryz.prog G (.eff pf id i o args t) nx ρ H := by
 obtain ⟨ti,h1,h2,h3,h4⟩ := info_int
 refine den_eff (sl_build (cells := #[iv d]) ho und_ints h1 h2 (by rw [h3]; decide) (by rw [h3]; decide) (by rw [h3]; simp only [List.map_cons,List.map_nil,hx]; exact fill1 _ d)) ha ?_
 rintro v H' ⟨g,hg,rfl,rfl⟩
 exact ⟨fun _ => PH.le_put hg _,n _ _ (PH.le_put hg _) (od_new hg rfl (by simp only [maxLen]; omega) rfl (Dg.one hd))⟩
theorem den_build2 {d e : Nat} {pf : Bool} (ho : o.op = .buildSlice 32 2 #[(0,x),(1,y)]) (hx : argEv [x,y] [iv d,iv e] x = iv d) (hy : argEv [x,y] [iv d,iv e] y = iv e) (hd : d < 4294967296) (he : e < 4294967296) (ha : args.map (D Tryz.prog ρ) = [iv d,iv e])
  (n : ∀ v H',PH.le H H' -> Od H H' v [d,e] -> den Tryz.prog G t nx (ρ ++ [v]) H') : den Tryz.prog G (.eff pf id i o args t) nx ρ H := by
 obtain ⟨ti,h1,h2,h3,h4⟩ := info_int
 refine den_eff (sl_build (cells := #[iv d,iv e]) ho und_ints h1 h2 (by rw [h3]; decide) (by rw [h3]; decide) (by rw [h3]; simp only [List.map_cons,List.map_nil,hx,hy]; exact fill2 _ d e)) ha ?_
 rintro v H' ⟨g,hg,rfl,rfl⟩
 exact ⟨fun _ => PH.le_put hg _,n _ _ (PH.le_put hg _) (od_new hg rfl (by simp only [maxLen]; omega) rfl ((Dg.one hd).append (Dg.one he)))⟩
theorem den_append {l2 : List Nat} {u : Value} {pf : Bool} (ho : o.op = .call ⟨.builtin .append,#[x,y],#[32,32]⟩) (hx : argEv [x,y] [v,u] x = v) (hy : argEv [x,y] [v,u] y = u) (hle : PH.le H0 H) (h : Od H0 H v l) (h2 : Ds H u l2) (hb : l.length + l2.length <= 1000000)
  (ha : args.map (D Tryz.prog ρ) = [v,u]) (hpf : pf = false) (n : ∀ v' H',PH.le H0 H' -> Od H0 H' v' (l ++ l2) -> (H' = H \/ ∃ g ob,H0 g = none /\ H' = H.put g ob) -> den Tryz.prog G t nx (ρ ++ [v']) H') : den Tryz.prog G (.eff pf id i o args t) nx ρ H := by
 obtain ⟨ti,h1,h3,h4,h5⟩ := info_int
 subst hpf
 by_cases hm : 0 < l2.length
 ·refine den_eff (own_append ho hx hy und_ints h1 h3 h4 rfl hle h.1 h2.1 hm (fun c hc => ?_) (by simp only [maxLen]; omega) (by rw [h5]; omega)) ha ?_
  ·obtain ⟨d,_,rfl⟩ := List.mem_map.1 hc; rfl
  ·rintro v' H' ⟨h6,h7,g,ob,h8,h9⟩
   refine ⟨fun h => (nomatch h),n v' H' h6 ⟨?_,h.2.append h2.2⟩ (.inr ⟨g,ob,h9,h8⟩)⟩
   rw [List.length_append,List.map_append]; exact h7
 ·have hl2 : l2 = [] := List.eq_nil_of_length_eq_zero (by omega)
  subst hl2
  refine den_eff (own_append0 ho hx hy und_ints h1 h.1.sl h2.1) ha ?_
  rintro v' H' ⟨rfl,rfl⟩
  exact ⟨fun h => (nomatch h),n _ _ hle (by rw [List.append_nil]; exact h) (.inl rfl)⟩
theorem den_push {d : Nat} {pf pf2 : Bool} (ho1 : o1.op = .buildSlice 32 1 #[(0,x)]) (ho2 : o2.op = .call ⟨.builtin .append,#[x2,y2],#[32,32]⟩) (hx : argEv [x] [iv d] x = iv d) (hx2 : ∀ p,argEv [x2,y2] [v,p] x2 = v) (hy2 : ∀ p,argEv [x2,y2] [v,p] y2 = p) (hle : PH.le H0 H) (h : Od H0 H v l) (hd : d < 4294967296) (hb : l.length + 1 <= 1000000)
  (ha : args.map (D Tryz.prog ρ) = [iv d]) (ha2 : ∀ p,args2.map (D Tryz.prog (ρ ++ [p])) = [v,p]) (hpf : pf2 = false) (n : ∀ p v' H',PH.le H0 H' -> Od H0 H' v' (l ++ [d]) -> den Tryz.prog G t nx (ρ ++ [p] ++ [v']) H') : den Tryz.prog G (.eff pf id i o1 args (.eff pf2 id2 i2 o2 args2 t)) nx ρ H := by
 refine den_build1 ho1 hx hd ha fun u H1 hl1 h1 => ?_
 exact den_append ho2 (hx2 _) (hy2 _) (hle.trans hl1) (h.mono hl1) h1.ds hb (ha2 _) hpf fun v' H' hl2 h3 _ => n u v' H' hl2 h3
end
end Go.Proofs.YtkcjbfoejpfbbaaGreatDoor


/- Concrete runs: what RecomKnown's run leans on. -/
import Derived.Test.YtpdipcopnmiddaaGreatDoorRyU
import Derived.Test.YtpdipcopnmiddaaGreatDoorRzW
import Derived.Test.YtpdipcopnmiddaaGreatDoorGwC
import Derived.Test.YtpdipcopnmiddaaGreatDoorRzV
namespace Go.RZ
open Go.RowKit Go.RX
theorem RO.grow {P : Program} {σ : Rl} {k : Nat} {H H' : PH} (h : PH.le H H') : ∀ {o : AO},RO P σ k H o -> RO P σ k H' o
 | .cells _ _,ho => h _ _ ho
 | .grown _ _,ho => by obtain ⟨cs,r,h1,h2⟩ := ho; exact ⟨cs,r,h _ _ h1,h2⟩
 | .map _ _,ho => h _ _ ho
 | .iter _ _ _ _,ho => h _ _ ho
theorem Inv.grow {P : Program} {σ : Rl} {s : S} {wm : Nat} {H0 H H' : PH} (h : Inv P σ s wm H0 H) (hl : PH.le H H') : Inv P σ s wm H0 H' :=
 ⟨fun hk => ⟨(h.ob hk).1,(h.ob hk).2.1,(h.ob hk).2.2.grow hl⟩,fun hi hj he => h.inj hi hj he,h.le.trans hl,fun hk hw => h.fr hk hw⟩
end Go.RZ
namespace Go.Proofs.YtpdipcopnmiddaaGreatDoor
open Go.RowKit Go.RX Go.GS Go.RZ
def OrG (K0 : PH) (g : FuncId) (vs : List AV) (v : AV) : Prop := ∀ σ H,PH.le K0 H -> (Con Tryz.prog g (rzs σ vs) H fun u H' => u = rz σ v /\ PH.le H H') /\ ∀ n,lt n v
theorem belowV_one (s : Nat) : belowV s 1 = .tuple #[ii 0,chV (nxS s),ii 0] := by
 have hr : restB 1 = 0 := Nat.mod_one _
 have ha : accB 1 (drw (nxN 0 s)) = true := by unfold accB; rw [hr]; simp
 have hf := belF_at 1 0 200 s (fun j hj => absurd hj (Nat.not_lt_zero _)) ha (by omega)
 have h1 : (1 : Int).toNat = 1 := rfl
 unfold belowV
 rw [if_neg (by omega),h1,hf,Nat.mod_one]
 rfl
theorem or_bel {K0 : PH} {vs : List AV} {v : AV} (h : orBel vs = some v) : OrG K0 80 vs v := fun σ H hl => by
 unfold orBel at h
 split at h
 ·rename_i s n
  rcases cond_some h with ⟨hc,h'⟩ | ⟨_,h'⟩
  ·simp only [Bool.and_eq_true] at hc
   have hn := beqp hc.1
   have hs : s < M64 := bltp hc.2
   subst hn
   simp only [Option.some.injEq] at h'; subst h'
   refine ⟨(give_cBel (z := 1) hs (by omega)).mono fun u H' ⟨h1,h2⟩ => ⟨?_,h1⟩,fun n => by simp [lt,lts]⟩
   rw [h2,belowV_one]
   simp only [rz,rzs]
   rfl
  ·cases h'
 ·cases h
theorem or_wor {K0 : PH} (hT : Tb K0) {vs : List AV} {v : AV} (h : orWor vs = some v) : OrG K0 4 vs v := fun σ H hl => by
 unfold orWor at h
 split at h
 ·simp only [Option.some.injEq] at h; subst h
  exact ⟨(con_lwor (hT.mono hl)).mono fun u H' ⟨h1,h2⟩ => ⟨by rw [h2,rz],h1⟩,fun n => by simp [lt]⟩
 ·cases h
theorem orvY_ok {K0 : PH} (hT : Tb K0) {g : FuncId} {vs : List AV} {v : AV} (h : orvY g vs = some v) : OrG K0 g vs v := by
 unfold orvY at h
 rcases cond_some h with ⟨hg,h⟩ | ⟨_,h⟩
 ·rw [beqp hg]; exact or_bel h
 rcases cond_some h with ⟨hg,h⟩ | ⟨_,h⟩
 ·rw [beqp hg]; exact or_wor hT h
 cases h
theorem ktyY_ok : ∀ t,ktyY t = true -> KeyT Tryz.prog t := fun t h => by
 have big : 6 <= (Tryz.prog).types.size + 1 := of_decide_eq_true (by kernel_rfl)
 simp only [ktyY,Bool.or_eq_true] at h
 rcases h with h | h
 ·obtain rfl := beqp h
  exact ⟨by kernel_rfl,by kernel_rfl,by kernel_rfl,by kernel_rfl,by kernel_rfl,big⟩
 ·exact kty_ok t h
theorem supY {K0 : PH} (hT : Tb K0) : Sup Tryz.prog ktyY tabY orcY own itb K0 where
 mix := mixed
 key := ktyY_ok
 tab := tabY_ok
 orc := fun g vs s wm outs h σ H0 H hK hl hI => by
  unfold orcY at h
  split at h
  ·rename_i v hv
   simp only [Option.some.injEq] at h; subst h
   obtain ⟨h1,h2⟩ := orvY_ok hT hv σ H (hK.trans hI.le)
   exact h1.mono fun u H' ⟨hu,hH⟩ => ⟨_,List.mem_singleton.2 rfl,σ,hu,h2 _,hI.grow hH,Ex.refl _ _⟩
  ·exact (sup hT).orc g vs s wm outs h σ H0 H hK hl hI
 own := own_ok
 itb := itb_ok hT
end Go.Proofs.YtpdipcopnmiddaaGreatDoor

/- RecomKnown of chapter 32, evaluated. -/
namespace Go.Proofs.YtpdipcopnmiddaaGreatDoor
open Go.RowKit Go.RX Go.RZ
theorem known_run : chkT (ev Tryz.prog ktyY tabY purY orcY own itb 100000 tt_lRK [] [] 0 ⟨0,.nil⟩ 0) = true := by kernel_rfl
end Go.Proofs.YtpdipcopnmiddaaGreatDoor

/- RecomKnown of chapter 32 returns true. -/
namespace Go.Proofs.YtpdipcopnmiddaaGreatDoor
open Go.RowKit Go.RX Go.GS Go.RZ
theorem con_lRK {H : PH} (hT : Tb H) : Give Tryz.prog 3 [] H (.bool true) := by
 have hrun := known_run
 generalize ho : ev Tryz.prog ktyY tabY purY orcY own itb 100000 tt_lRK [] [] 0 ⟨0,.nil⟩ 0 = o at hrun
 cases o with
 | none => cases hrun
 | some outs =>
  have := con_of_ev (f := 100000) (vs := []) (s := ⟨0,.nil⟩) (wm := 0) (H0 := H) (σ := fun _ => (0,0)) (pur := purY) (supY hT) (g := 3) (np := 0) (tg := tt_lRK) (by kernel_rfl) rfl ho (by simp [lts]) (PH.le.refl _) inv_nil
  refine this.mono fun u H' ⟨h1,p,hp,σ',hu,_⟩ => ?_
  rw [allT_ok hrun p hp,rz] at hu
  exact ⟨h1,hu⟩
end Go.Proofs.YtpdipcopnmiddaaGreatDoor


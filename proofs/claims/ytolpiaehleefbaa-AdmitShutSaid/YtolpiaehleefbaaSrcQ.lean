/- Sources, the plain law: each source has a bucket of its own. No program in sight. -/
import Derived.Test.YtolpiaehleefbaaSrcP
namespace Go.Proofs.Ytolpiaehleefbaa
open Go.RowKit
set_option linter.unusedSimpArgs false
set_option linter.unusedVariables false

def upd {α : Type} (f : Nat → α) (s : Nat) (x : α) : Nat → α := fun j => if j = s then x else f j
theorem upd_same {α : Type} (f : Nat → α) (s : Nat) (x : α) : upd f s x s = x := if_pos rfl
theorem upd_ne {α : Type} (f : Nat → α) {s j : Nat} (x : α) (h : j ≠ s) : upd f s x j = f j := if_neg h
/-- m: the state of all sources; f: each one's own bucket; ats: when each one's tokens were taken; N: the tick -/
structure Jn (b r N : Int) (m : List En) (f : Nat → Int × Int) (ats : Nat → List Int) : Prop where
  hk : eCheck b r m = 0
  ha : ∀ x ∈ m, x.a ≤ N
  hf : ∀ s, s < 10 → bFine b r (f s).1 (f s).2 = true ∧ (f s).2 ≤ N
  kp : ∀ s, s < 10 → Kept b r (f s).1 (f s).2 N (ats s)
  lv : ∀ s : Nat, s < 10 → ∀ M, N ≤ M → bT b r (f s).1 (f s).2 M = eLevel b r m s M
theorem sMay_nat {s : Nat} (h : s < 10) : sMay (s : Int) = true := by simp [sMay]; omega
theorem Jn.init {b r : Int} (hg : bGood b r = true) : Jn b r 0 [] (fun _ => (b, 0)) (fun _ => []) := by
  obtain ⟨⟨hb1, hb2⟩, hr1, hr2⟩ := bGood_t hg
  have hf : bFine b r b 0 = true := bFine_mk hb1 hb2 hr1 hr2 (by omega) (Int.le_refl _) (Int.le_refl _) (by omega)
  have hk : eCheck b r [] = 0 := eCheck_of hg (by simp) (by simp) rfl
  refine ⟨hk, by simp, fun s _ => ⟨hf, Int.le_refl _⟩, fun s _ j hj => by simp at hj, fun s hs M hM => ?_⟩
  rw [eLevel_of hk (sMay_nat hs), eOf_none (by simp), full_level hg]
  have := bA_bd (a := 0) (now := M) (by omega)
  have := Int.mul_nonneg (show 0 ≤ bA 0 M - 0 by omega) hr1
  unfold bT
  dsimp only
  omega
theorem Jn.grows {b r N g : Int} {m : List En} {f : Nat → Int × Int} {ats : Nat → List Int} (h : Jn b r N m f ats) (hg : 0 ≤ g) (hX : N + g ≤ 1099511627776) : Jn b r (N + g) m f ats :=
  ⟨h.hk, fun x hx => by have := h.ha x hx; omega, fun s hs => ⟨(h.hf s hs).1, by have := (h.hf s hs).2; omega⟩, fun s hs => (h.kp s hs).grows (h.hf s hs).1 (h.hf s hs).2 hg hX, fun s hs M hM => h.lv s hs M (by omega)⟩
theorem Jn.clean {b r N : Int} {m : List En} {f : Nat → Int × Int} {ats : Nat → List Int} (h : Jn b r N m f ats) : Jn b r N (eClean b r m N) f ats :=
  ⟨eClean_ok N h.hk, eClean_at h.ha, h.hf, h.kp, fun s hs M hM => by rw [level_clean h.hk (sMay_nat hs) hM]; exact h.lv s hs M hM⟩
/-- what one ask leaves -/
theorem Jn.step {b r N : Int} {m : List En} {f : Nat → Int × Int} {ats : Nat → List Int} (h : Jn b r N m f ats) (h0 : 0 ≤ N) (h2 : N ≤ 1073741824) {s : Nat} (hs : s < 10) :
    ((eTake b r m s N).2 = 7 ∧ (eClean b r m N).length = 8 ∧ Jn b r N (eTake b r m s N).1 f ats) ∨
    ((eTake b r m s N).2 = 14 ∧ bTake b r (f s).1 (f s).2 N 1 = (((f s).1, (f s).2), false) ∧ Jn b r N (eTake b r m s N).1 f ats) ∨
    (∃ t, (eTake b r m s N).2 = 0 ∧ bTake b r (f s).1 (f s).2 N 1 = ((t, N), true) ∧ Jn b r N (eTake b r m s N).1 (upd f s (t, N)) (upd ats s (ats s ++ [N]))) := by
  have hL := h.lv s hs N (Int.le_refl _)
  obtain ⟨hf, hat⟩ := h.hf s hs
  have hbd := bT_bd (now := N) hf
  obtain ⟨⟨hb1, hb2⟩, hr1, hr2⟩ := bGood_t (eCheck_ok h.hk).1
  rcases eTake_law h.hk (sMay_nat hs) h.ha h0 (show N ≤ 1099511627776 by omega) with ⟨e, e8⟩ | ⟨e, e1⟩ | ⟨e, e1, e2, e3⟩
  · left; rw [e]; exact ⟨rfl, e8, h.clean⟩
  · right; left
    rw [e]
    refine ⟨rfl, ?_, h.clean⟩
    unfold bTake
    rw [if_pos (.inr (.inr (by omega)))]
  · right; right
    have hc := h.clean
    rw [e]
    have hT : 1 ≤ bT b r (f s).1 (f s).2 N := by omega
    have hy := bTake_yes (n := 1) (by omega) hf hT
    have hyf := bFine_taken (n := 1) (by omega) hf hT
    rw [bA_at hat (by omega)] at hy hyf
    have hk := (h.kp s hs).takes hf h0 (by omega)
    rw [hL] at hy hyf hk
    refine ⟨_, rfl, hy, ?_⟩
    generalize eLevel b r m s N = L at *
    have hpf := ePut_ok hc.hk (sMay_nat hs) e3 hyf
    refine ⟨hpf, ePut_at hc.ha, fun j hj => ?_, fun j hj => ?_, fun j hj M hM => ?_⟩
    · by_cases e : j = s
      · subst e; rw [upd_same]; exact ⟨hyf, Int.le_refl _⟩
      · rw [upd_ne _ _ e]; exact h.hf j hj
    · by_cases e : j = s
      · subst e; rw [upd_same, upd_same]; exact hk
      · rw [upd_ne _ _ e, upd_ne _ _ e]; exact h.kp j hj
    · rw [level_put hc.hk (sMay_nat hs) e3 hyf (sMay_nat hj)]
      by_cases e : j = s
      · subst e
        rw [upd_same, if_pos rfl, bLevel_f hyf]
      · rw [upd_ne _ _ e, if_neg (by omega)]
        exact hc.lv j hj M hM
end Go.Proofs.Ytolpiaehleefbaa

/- The plain laws of levels. -/
import Derived.Test.YtbajakifkidccaaLev3
namespace Go.Proofs.Ytbajakifkidccaa
open Go.RowKit
set_option linter.unusedSimpArgs false
set_option linter.unusedVariables false

theorem vAsk_stop (up : Nat → Int) (n : Int) : ∀ f l, l + f = 3 ∨ 3 ≤ l → vAsk up n f l < 3 → n < up (vAsk up n f l)
  | 0, l, h, hlt => by simp only [vAsk] at hlt; omega
  | f + 1, l, h, hlt => by
    unfold vAsk at hlt ⊢
    split at hlt
    · rename_i hc
      rw [if_pos hc]
      exact vAsk_stop up n f (l + 1) (by omega) hlt
    · rename_i hc
      rw [if_neg hc]
      omega
theorem vAsked_stops {up : Nat → Int} {n : Int} {l : Nat} (h : vAsked up n l < 3) : n < up (vAsked up n l) := vAsk_stop up n (3 - l) l (by omega) h
theorem vAsked_up {up : Nat → Int} {n : Int} {l : Nat} (hl : l ≤ 3) (h : l < vAsked up n l) : up l ≤ n := by
  by_cases hu : up l ≤ n
  · exact hu
  · rw [vAsked_stop (by omega)] at h; omega

theorem vFine_mk {l s v : Int} (h1 : 0 ≤ l ∧ l ≤ 3) (h2 : 0 ≤ s ∧ s ≤ 1099511627776) (h3 : -1 ≤ v ∧ v ≤ 1099511627776) : vFine l s v = true := by
  simp [vFine, vIn]; omega

/-- one step at the next tick: four ways -/
theorem vStep_ways {up dn : Nat → Int} {hold : Int} {l : Nat} {s v load T n : Int} (hc : vCheck up dn hold = 0) (hl : l ≤ 3) (hs : 0 ≤ s ∧ s ≤ T) (hv : v = -1 ∨ 1 ≤ v ∧ v ≤ T) (hT : T < 1000000) (hload : 0 ≤ load) (hn : n = min load 100) :
    (∃ A : Nat, vStep up dn hold l s v load (T + 1) = ((A : Int), T + 1, -1) ∧ l < A ∧ A ≤ 3 ∧ up l ≤ n ∧ (A < 3 → n < up A)) ∨
    (vStep up dn hold l s v load (T + 1) = ((l : Int), s, -1) ∧ (l = 0 ∨ dn (l - 1) ≤ n) ∧ (l < 3 → n < up l)) ∨
    (∃ v', vStep up dn hold l s v load (T + 1) = ((l : Int), s, v') ∧ 0 < l ∧ n < dn (l - 1) ∧ (l < 3 → n < up l) ∧ v' = (if v = -1 then T + 1 else v) ∧ T + 1 - v' < hold) ∨
    (∃ v', vStep up dn hold l s v load (T + 1) = ((l : Int) - 1, T + 1, -1) ∧ 0 < l ∧ n < dn (l - 1) ∧ n < up (l - 1) ∧ v' = (if v = -1 then T + 1 else v) ∧ hold ≤ T + 1 - v') := by
  have hf : vFine l s v = true := vFine_mk (by omega) (by omega) (by omega)
  have hm : vMay up dn hold l s v = true := by simp [vMay, hc, hf]
  have h1 : vHeld load 0 100 = n := by unfold vHeld; omega
  have h2 : vHeld (T + 1) (max s v) 1099511627776 = T + 1 := by unfold vHeld; omega
  have e : vStep up dn hold l s v load (T + 1) = vStep1 up dn hold l s v n (T + 1) := by
    unfold vStep; rw [hm, if_pos rfl, Int.toNat_natCast, h1, h2]
  rw [e]
  have hb := (vAsked_le up n l).2 hl
  have hge := (vAsked_le up n l).1
  by_cases c1 : l < vAsked up n l
  · left
    exact ⟨vAsked up n l, by unfold vStep1; rw [if_pos c1], c1, hb, vAsked_up hl c1, fun h => vAsked_stops h⟩
  · right
    have hA : vAsked up n l = l := by omega
    have hup : l < 3 → n < up l := fun h => by
      have := vAsked_stops (up := up) (n := n) (l := l) (by rw [hA]; exact h)
      rwa [hA] at this
    by_cases c2 : l = 0 ∨ dn (l - 1) ≤ n
    · left
      exact ⟨by unfold vStep1; rw [if_neg c1, if_pos c2], c2, hup⟩
    · right
      have hl0 : 0 < l := by omega
      have hnd : n < dn (l - 1) := by omega
      have hdu : dn (l - 1) ≤ up (l - 1) := by
        have ho := (vCheck_t hc).2
        simp only [vOrder, vOk2, Bool.and_eq_true, decide_eq_true_eq] at ho
        have h4 : l - 1 = 0 ∨ l - 1 = 1 ∨ l - 1 = 2 := by omega
        rcases h4 with h | h | h <;> rw [h]
        · exact ho.1.1.2
        · exact ho.1.2.2
        · exact ho.2.2
      by_cases c3 : T + 1 - (if v = -1 then T + 1 else v) < hold
      · left
        exact ⟨_, by unfold vStep1; rw [if_neg c1, if_neg c2, if_pos c3], hl0, hnd, hup, rfl, c3⟩
      · right
        exact ⟨_, by unfold vStep1; rw [if_neg c1, if_neg c2, if_neg c3], hl0, hnd, by omega, rfl, by omega⟩
end Go.Proofs.Ytbajakifkidccaa

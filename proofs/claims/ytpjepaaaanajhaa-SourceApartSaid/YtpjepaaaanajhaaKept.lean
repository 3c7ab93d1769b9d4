/- Buckets, the plain law (as for chapter 13): what is taken is no more than the burst and what came in. -/
import Derived.Test.YtpjepaaaanajhaaBucket4
namespace Go.Proofs.Ytpjepaaaanajhaa
open Go.RowKit
set_option linter.unusedSimpArgs false
set_option linter.unusedVariables false

theorem bIn_mk {n a b : Int} (h1 : a ≤ n) (h2 : n ≤ b) : bIn n a b = true := by simp [bIn, h1, h2]
theorem bGood_mk {b r : Int} (h1 : 1 ≤ b) (h2 : b ≤ 1000) (h3 : 0 ≤ r) (h4 : r ≤ 1000) : bGood b r = true := by simp [bGood, bIn_mk, *]
theorem bFine_mk {b r t a : Int} (h1 : 1 ≤ b) (h2 : b ≤ 1000) (h3 : 0 ≤ r) (h4 : r ≤ 1000) (h5 : 0 ≤ t) (h6 : t ≤ b) (h7 : 0 ≤ a) (h8 : a ≤ 1099511627776) : bFine b r t a = true := by
  simp [bFine, bGood_mk, bIn_mk, *]
theorem bA_at {a n : Int} (h1 : a ≤ n) (h2 : n ≤ 1099511627776) : bA a n = n := by unfold bA bHeld; omega
theorem bT_at {b r t a n : Int} (h1 : a ≤ n) (h2 : n ≤ 1099511627776) : bT b r t a n = min (t + (n - a) * r) b := by unfold bT; rw [bA_at h1 h2]
theorem bTake_yes {b r t a now n : Int} (h0 : 0 ≤ n) (hf : bFine b r t a = true) (hT : n ≤ bT b r t a now) : bTake b r t a now n = ((bT b r t a now - n, bA a now), true) := by
  unfold bTake; rw [if_neg (by simp [hf]; omega)]
theorem bFine_taken {b r t a now n : Int} (h0 : 0 ≤ n) (hf : bFine b r t a = true) (hT : n ≤ bT b r t a now) : bFine b r (bT b r t a now - n) (bA a now) = true := by
  obtain ⟨⟨hb, hr⟩, ht, ha⟩ := bFine_t hf
  have hbd := bT_bd (now := now) hf
  have hA := bA_bd (now := now) ha.2
  exact bFine_mk hb.1 hb.2 hr.1 hr.2 (by omega) (by omega) (by omega) (by omega)
/-! The plain law: of each take the takes behind it, and the tokens that are left, are no more than the burst and what came in. -/
def Kept (b r t a N : Int) (ats : List Int) : Prop :=
  ∀ (j : Nat) (h : j < ats.length), 0 ≤ ats[j] ∧ ats[j] ≤ N ∧ bT b r t a N + ((ats.length : Int) - j) ≤ b + (N - ats[j]) * r
theorem bT_grows {b r t a N g : Int} (hf : bFine b r t a = true) (h1 : a ≤ N) (hg : 0 ≤ g) (h2 : N + g ≤ 1099511627776) : bT b r t a (N + g) ≤ bT b r t a N + g * r := by
  obtain ⟨⟨hb, hr⟩, ht, ha⟩ := bFine_t hf
  rw [bT_at (by omega) h2, bT_at h1 (by omega)]
  have e : (N + g - a) * r = (N - a) * r + g * r := by rw [← Int.add_mul]; congr 1; omega
  have h0 : 0 ≤ g * r := Int.mul_nonneg hg hr.1
  omega
theorem Kept.grows {b r t a N g : Int} {ats : List Int} (h : Kept b r t a N ats) (hf : bFine b r t a = true) (h1 : a ≤ N) (hg : 0 ≤ g) (h2 : N + g ≤ 1099511627776) : Kept b r t a (N + g) ats := fun j hj => by
  obtain ⟨k1, k2, k3⟩ := h j hj
  have := bT_grows hf h1 hg h2
  have e : (N + g - ats[j]) * r = (N - ats[j]) * r + g * r := by rw [← Int.add_mul]; congr 1; omega
  exact ⟨k1, by omega, by omega⟩
theorem bT_same {b r t N : Int} (h : t ≤ b) (h2 : N ≤ 1099511627776) : bT b r t N N = t := by
  rw [bT_at (by omega) h2, Int.sub_self, Int.zero_mul]; omega
theorem Kept.takes {b r t a N : Int} {ats : List Int} (h : Kept b r t a N ats) (hf : bFine b r t a = true) (h0 : 0 ≤ N) (h2 : N ≤ 1099511627776) : Kept b r (bT b r t a N - 1) N N (ats ++ [N]) := fun j hj => by
  have hbd := bT_bd (now := N) hf
  rw [bT_same (by omega) h2]
  rcases Nat.lt_or_ge j ats.length with hlt | hge
  · obtain ⟨k1, k2, k3⟩ := h j hlt
    rw [List.getElem_append_left hlt]
    exact ⟨k1, k2, by simp; omega⟩
  · have hj' : j = ats.length := by simp at hj; omega
    subst hj'
    simp
    refine ⟨h0, ?_⟩
    omega
theorem Kept.most {b r t a N : Int} {ats : List Int} (h : Kept b r t a N ats) (hf : bFine b r t a = true) (h2 : N ≤ 1073741824) (j : Nat) (hj : j < ats.length) : (ats.length : Int) - j ≤ bMost b r (N - ats[j]) := by
  obtain ⟨k1, k2, k3⟩ := h j hj
  have hg : bGood b r = true := by have := hf; simp only [bFine, Bool.and_eq_true] at this; exact this.1.1
  have hbd := bT_bd (now := N) hf
  unfold bMost
  rw [hg, if_pos rfl, show bHeld (N - ats[j]) 0 1073741824 = N - ats[j] by unfold bHeld; omega]
  omega
/-- one take at tick N: what comes out -/
theorem take_one {b r t a N : Int} {ats : List Int} (h : Kept b r t a N ats) (hf : bFine b r t a = true) (h1 : a ≤ N) (h0 : 0 ≤ N) (h2 : N ≤ 1073741824) :
    (1 ≤ bT b r t a N ∧ bTake b r t a N 1 = ((bT b r t a N - 1, N), true) ∧ bFine b r (bT b r t a N - 1) N = true ∧ bT b r (bT b r t a N - 1) N N = bT b r t a N - 1 ∧ Kept b r (bT b r t a N - 1) N N (ats ++ [N])) ∨
    (bT b r t a N = 0 ∧ bTake b r t a N 1 = ((t, a), false)) := by
  have hbd := bT_bd (now := N) hf
  by_cases hl : 1 ≤ bT b r t a N
  · left
    have e := bTake_yes (n := 1) (by omega) hf hl
    have e2 := bFine_taken (n := 1) (by omega) hf hl
    rw [bA_at h1 (by omega)] at e e2
    exact ⟨hl, e, e2, bT_same (by omega) (by omega), h.takes hf h0 (by omega)⟩
  · right
    refine ⟨by omega, ?_⟩
    unfold bTake
    rw [if_pos (.inr (.inr (by omega)))]

end Go.Proofs.Ytpjepaaaanajhaa

/- A plain law of pool: the last free place. -/
import Derived.Test.YtnmpighdkdffbaaPoolP
namespace Go.Proofs.Ytnmpighdkdffbaa
theorem last_of' {l : List Cl} {f : List Int} (h : Ok l f) (hf : f ≠ []) : ∃ f0 k, f = f0 ++ [((k : Nat) : Int)] := by
  obtain ⟨f0, p, rfl⟩ : ∃ f0 p, f = f0 ++ [p] := ⟨f.dropLast, f.getLast hf, (List.dropLast_concat_getLast hf).symm⟩
  obtain ⟨a, b, _⟩ := h.good p (by simp)
  exact ⟨f0, p.toNat, by rw [Int.toNat_of_nonneg a]⟩
end Go.Proofs.Ytnmpighdkdffbaa

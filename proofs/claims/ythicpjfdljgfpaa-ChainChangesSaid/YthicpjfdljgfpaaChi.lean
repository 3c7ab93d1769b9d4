/- Package chain: Check's closure. -/
import Derived.Test.YthicpjfdljgfpaaChh
namespace Go.Proofs.Ythicpjfdljgfpaa
open Go.RowKit Go.Sort
set_option linter.unusedSimpArgs false
set_option linter.unusedVariables false

def cLoose (x : Nd) : Bool := x.l == -1 && (x.n != -1 || x.p != -1)
theorem loose_enters : ∀ args w, (callFunc 48 args).run Try.prog w = .ok (.enter 48 args) w := enters_of Try.func48 (by kernel_rfl) rfl
set_option maxRecDepth 100000 in
set_option maxHeartbeats 4000000 in
theorem chain_loose_any (x : Nd) (w : World) : Calls Try.prog 48 (#[ndV x] ++ #[]) w fun e w' => e = .returned (.bool (cLoose x)) ∧ Below w.heap.size w w' := by
  show Calls Try.prog 48 #[ndV x] w _
  obtain ⟨l, n, p⟩ := x
  by_cases h1 : l = -1
  · subst h1
    by_cases h2 : n = -1
    · subst h2
      by_cases h3 : p = -1
      · subst h3
        go_enter Try.func48, Try.ntmps48
        go_wp2
        go_ret
        exact ⟨ret_bool (by rfl), by (repeat (first | with_reducible exact Below.refl _ _ | with_reducible assumption | with_reducible refine Below.drew ?_ | with_reducible refine Below.drewN ?_ _ | with_reducible refine Below.alloc1 ?_ _ | with_reducible refine Below.setCell1 ?_ (by first | omega | (simp; done) | (simp; omega)) _ | with_reducible refine Below.step ?_ (by with_reducible assumption)))⟩
      · have b3 : (p != -1) = true := by simpa using h3
        go_enter Try.func48, Try.ntmps48
        go_wp2
        go_ret
        exact ⟨ret_bool (by simp [cLoose, b3]), by (repeat (first | with_reducible exact Below.refl _ _ | with_reducible assumption | with_reducible refine Below.drew ?_ | with_reducible refine Below.drewN ?_ _ | with_reducible refine Below.alloc1 ?_ _ | with_reducible refine Below.setCell1 ?_ (by first | omega | (simp; done) | (simp; omega)) _ | with_reducible refine Below.step ?_ (by with_reducible assumption)))⟩
    · have b2 : (n != -1) = true := by simpa using h2
      go_enter Try.func48, Try.ntmps48
      go_wp2
      go_ret
      exact ⟨ret_bool (by simp [cLoose, b2]), by (repeat (first | with_reducible exact Below.refl _ _ | with_reducible assumption | with_reducible refine Below.drew ?_ | with_reducible refine Below.drewN ?_ _ | with_reducible refine Below.alloc1 ?_ _ | with_reducible refine Below.setCell1 ?_ (by first | omega | (simp; done) | (simp; omega)) _ | with_reducible refine Below.step ?_ (by with_reducible assumption)))⟩
  · have b1 : (l == -1) = false := by simpa using h1
    go_enter Try.func48, Try.ntmps48
    go_wp2
    go_ret
    exact ⟨ret_bool (by simp [cLoose, b1]), by (repeat (first | with_reducible exact Below.refl _ _ | with_reducible assumption | with_reducible refine Below.drew ?_ | with_reducible refine Below.drewN ?_ _ | with_reducible refine Below.alloc1 ?_ _ | with_reducible refine Below.setCell1 ?_ (by first | omega | (simp; done) | (simp; omega)) _ | with_reducible refine Below.step ?_ (by with_reducible assumption)))⟩
theorem loose_form {st : Ch} (h : cLinks st = true) : st.ns.any cLoose = !cForm st := by
  simp only [cLinks, Bool.and_eq_true, List.all_eq_true] at h
  unfold cForm
  rw [List.not_all_eq_any_not]
  have e : ∀ x ∈ st.ns, cLoose x = !(!(decide (x.l < 0) && (decide (0 ≤ x.n) || decide (0 ≤ x.p)))) := fun x hx => by
    obtain ⟨⟨h1, h2⟩, h3⟩ := h.1.1 x hx
    have h1 := (cIn_t h1).1
    have h2 := (cIn_t h2).1
    have h3 := (cIn_t h3).1
    obtain ⟨l, n, p⟩ := x
    dsimp only at h1 h2 h3
    have e1 : (l == -1) = decide (l < 0) := by rw [Bool.eq_iff_iff]; simp; omega
    have e2 : (n != -1) = decide (0 ≤ n) := by rw [Bool.eq_iff_iff]; simp; omega
    have e3 : (p != -1) = decide (0 ≤ p) := by rw [Bool.eq_iff_iff]; simp; omega
    simp only [cLoose, e1, e2, e3, Bool.not_not]
  rw [Bool.eq_iff_iff, List.any_eq_true, List.any_eq_true]
  exact ⟨fun ⟨x, hx, hq⟩ => ⟨x, hx, by rw [← e x hx]; exact hq⟩, fun ⟨x, hx, hq⟩ => ⟨x, hx, by rw [e x hx]; exact hq⟩⟩
end Go.Proofs.Ythicpjfdljgfpaa

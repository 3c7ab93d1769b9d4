/- Package addr: letter, parts, host, name. -/
import Derived.Test.YtfgfkiifekeeaaaAdP
namespace Go.Proofs.Ytfgfkiifekeeaaa
open Go.RowKit Go.Shelf
set_option linter.unusedSimpArgs false
set_option linter.unusedVariables false

theorem addr_letter_any (b : UInt8) (w : World) : Calls Try.prog 85 #[.int .u8 (b.toNat : Int)] w fun e w' => e = .returned (.bool (aLet b)) ∧ w = w' := by
  have hlt := b.toNat_lt
  unfold aLet
  generalize b.toNat = x at *
  by_cases h1 : 97 ≤ x <;> by_cases h2 : x ≤ 122 <;> by_cases h3 : 48 ≤ x <;> by_cases h4 : x ≤ 57 <;>
    first | omega | (
      first | (have j1 : (97 : Int) ≤ (x : Int) := by omega) | (have j1 : (x : Int) < 97 := by omega)
      first | (have j2 : (x : Int) ≤ 122 := by omega) | (have j2 : (122 : Int) < (x : Int) := by omega)
      first | (have j3 : (48 : Int) ≤ (x : Int) := by omega) | (have j3 : (x : Int) < 48 := by omega)
      first | (have j4 : (x : Int) ≤ 57 := by omega) | (have j4 : (57 : Int) < (x : Int) := by omega)
      go_enter Try.func85, Try.ntmps85; go_wp2; go_ret; exact ⟨ret_bool (by first | (rw [eq_comm, decide_eq_true_eq]; omega) | (rw [eq_comm, decide_eq_false_iff_not]; omega) | (simp <;> omega) | (simp [h1, h2, h3, h4] <;> omega)), rfl⟩)
set_option maxRecDepth 100000 in
theorem addr_parts_any (n h r : ByteArray) (w : World) : Calls Try.prog 73 #[aV n h r] w fun e w' => e = .returned (aV n h r) ∧ Below w.heap.size w w' := by
  unfold aV
  go_enter Try.func73, Try.ntmps73
  go_wp2
  generalize hV : World.alloc (World.alloc w _) _ = w1
  have hb : Below w.heap.size w w1 := by subst hV; (repeat (first | with_reducible exact Below.refl _ _ | with_reducible assumption | with_reducible refine Below.drew ?_ | with_reducible refine Below.drewN ?_ _ | with_reducible refine Below.alloc1 ?_ _ | with_reducible refine Below.setCell1 ?_ (by first | omega | (simp; done) | (simp; omega)) _ | with_reducible refine Below.step ?_ (by with_reducible assumption)))
  have k : Bk w1 (w.heap.size + 1) 116 (aC n h r) := by subst hV; exact Bk.new' _ 116 _ _ (by simp)
  clear hV
  exact bodyPost_ret (v := .agg (aC n h r).toArray) (results_cell_row rfl _ _ _ _ _ (0, 0) _ rfl k Try.underlying116 rfl (by kernel_rfl)) rfl ⟨rfl, hb⟩
end Go.Proofs.Ytfgfkiifekeeaaa

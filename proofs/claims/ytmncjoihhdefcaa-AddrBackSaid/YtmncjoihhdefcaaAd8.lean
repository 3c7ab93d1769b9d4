/- Package addr: Same. -/
import Derived.Test.YtmncjoihhdefcaaAd7
namespace Go.Proofs.Ytmncjoihhdefcaa
open Go.RowKit Go.Shelf
set_option linter.unusedSimpArgs false
set_option linter.unusedVariables false

set_option maxRecDepth 100000 in
set_option maxHeartbeats 4000000 in
theorem addr_Same_any (n h r n2 h2 r2 : ByteArray) (w : World) : Calls Try.prog 24 #[aV n h r, aV n2 h2 r2] w fun e w' =>
    e = .returned (.bool (decide (n.data.toList = n2.data.toList ∧ h.data.toList = h2.data.toList ∧ r.data.toList = r2.data.toList))) ∧ Below w.heap.size w w' := by
  have e0 := str_beq n n2
  have e1 := str_beq h h2
  have e2 := str_beq r r2
  obtain ⟨R, hR⟩ : ∃ R, R = decide (n.data.toList = n2.data.toList ∧ h.data.toList = h2.data.toList ∧ r.data.toList = r2.data.toList) := ⟨_, rfl⟩
  rw [← hR]
  replace hR := hide hR
  unfold aV at *
  go_enter Try.func24, Try.ntmps24
  go_wp2_with fail
  all_goals
    clear e0 e1 e2
    replace hR := hR.out
    go_ret
    refine ⟨?_, by (repeat (first | with_reducible exact Below.refl _ _ | with_reducible assumption | with_reducible refine Below.drew ?_ | with_reducible refine Below.drewN ?_ _ | with_reducible refine Below.alloc1 ?_ _ | with_reducible refine Below.setCell1 ?_ (by first | omega | (simp; done) | (simp; omega)) _ | with_reducible refine Below.step ?_ (by with_reducible assumption)))⟩
    refine ret_bool ?_
    simp only [Array.toList_inj] at hR
    simp_all
end Go.Proofs.Ytmncjoihhdefcaa

/- Law 15: WheelNobody, walked. -/
import Derived.Test.YtbljiohdfjmhfaaAwake15
namespace Go.Proofs.Ytbljiohdfjmhfaa
open Go.RowKit
set_option linter.unusedSimpArgs false
set_option linter.unusedVariables false

set_option maxHeartbeats 4000000 in
set_option maxRecDepth 100000 in
theorem WheelNobody_walk (id t : Int) (w : World) : Calls Try.prog 4 #[.int .i64 id, .int .i64 t] w fun e w' => e = .returned (.bool true) ∧ Below w.heap.size w w' := by
  go_enter Try.func4, Try.ntmps4
  go_wp2_with (first
    | (go_at_call 19; refine (wn_Next _).2.mono ?_; rintro e w' ⟨rfl, rfl⟩)
    | (go_at_call 21; refine (wn_When _ _).mono ?_; rintro e w' ⟨rfl, rfl⟩)
    | (go_at_call 17; refine (wn_Set _ _ _).mono ?_; rintro e w' ⟨rfl, rfl⟩)
    | (go_at_call 10; refine (wn_Stop _ _).mono ?_; rintro e w' ⟨rfl, rfl⟩)
    | (go_at_call 14; refine (wn_Go _ _).mono ?_; rintro e w' ⟨rfl, rfl⟩)
    | (go_at_call 24; refine (wn_Len _).mono ?_; rintro e w' ⟨rfl, rfl⟩)
    | (go_at_call 25; refine (wn_Now _).mono ?_; rintro e w' ⟨rfl, rfl⟩)
    | (go_at_call 23; refine (wn_Next _).1.mono ?_; rintro e w' ⟨rfl, rfl⟩)
    | (go_at_call 27; refine (wn_Load _).mono ?_; rintro e w' ⟨rfl, rfl⟩)
    | (go_at_call 7; refine (awake_any _).mono ?_; rintro e w' ⟨rfl, hb⟩))
  go_ret
  exact ⟨rfl, hb⟩
end Go.Proofs.Ytbljiohdfjmhfaa

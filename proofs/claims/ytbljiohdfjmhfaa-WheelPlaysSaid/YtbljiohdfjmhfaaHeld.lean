/- Law 15: held. -/
import Derived.Test.YtbljiohdfjmhfaaWh9
namespace Go.Proofs.Ytbljiohdfjmhfaa
open Go.RowKit
theorem held_any (a b : Int) (ha : 0 ≤ a ∧ a ≤ 1099511627776) (hb : -9223372036854775808 ≤ b ∧ b ≤ 9223372036854775807) (w : World) :
    Calls Try.prog 12 #[.int .i64 a, .int .i64 b] w fun e w' => e = .returned (.int .i64 (a + max (-2199023255552) (min 2199023255552 b))) ∧ w = w' := by
  go_enter Try.func12, Try.ntmps12
  go_wp2
  go_ret
  exact ⟨rfl, rfl⟩
end Go.Proofs.Ytbljiohdfjmhfaa

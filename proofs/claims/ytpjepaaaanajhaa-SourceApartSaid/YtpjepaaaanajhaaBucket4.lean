/- bucket.Run: a closure takes a token of a bucket at each tick. -/
import Derived.Test.YtpjepaaaanajhaaBucket3
import Derived.Deep.RegionHeld3
namespace Go.Proofs.Ytpjepaaaanajhaa
open Go.RowKit
set_option linter.unusedSimpArgs false
set_option linter.unusedVariables false

theorem bucket_Take_tup (b r t a now n : Int) (hn : -9223372036854775808 ≤ n) (w : World) :
    Calls Try.prog 25 #[.agg #[.int .i64 b, .int .i64 r], .agg #[.int .i64 t, .int .i64 a], .int .i64 now, .int .i64 n] w fun e w' =>
      e = .returned (.tuple #[.agg #[.int .i64 (bTake b r t a now n).1.1, .int .i64 (bTake b r t a now n).1.2], .bool (bTake b r t a now n).2]) ∧ Below w.heap.size w w' := bucket_Take_any b r t a now n hn w
end Go.Proofs.Ytpjepaaaanajhaa

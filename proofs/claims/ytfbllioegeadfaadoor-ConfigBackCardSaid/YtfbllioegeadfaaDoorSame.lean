/- Contracts of the small comparisons of the references (callboyref01: SameInts, SameTexts). -/
import Derived.Test.YtfbllioegeadfaaDoorRows
import Derived.Test.YtfbllioegeadfaaDoorMem
namespace Go.Proofs.YtfbllioegeadfaaDoor
open Go.RowKit
set_option linter.unusedSimpArgs false
set_option linter.unusedVariables false

abbrev ints (l : List Int) : List Value := l.map (Value.int .i64)
theorem ints_get (l : List Int) (k : Nat) (h : k < l.length) : (ints l)[k]'(by simpa using h) = .int .i64 l[k] := by simp

theorem take_eq_succ {α : Type} [Inhabited α] (l m : List α) (k : Nat) (h1 : k < l.length) (h2 : k < m.length) (h : l.take k = m.take k) (he : l[k] = m[k]) : l.take (k + 1) = m.take (k + 1) := by
  rw [List.take_succ_eq_append_getElem h1, List.take_succ_eq_append_getElem h2, h, he]

end Go.Proofs.YtfbllioegeadfaaDoor

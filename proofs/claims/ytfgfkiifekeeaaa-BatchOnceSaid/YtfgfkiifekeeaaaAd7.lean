/- Package addr: Less, Same. -/
import Derived.Test.YtfgfkiifekeeaaaAd6
import Derived.Deep.RegionHeld3
import Derived.Deep.DeepCutAuto
namespace Go.Proofs.Ytfgfkiifekeeaaa
open Go.RowKit Go.Shelf
set_option linter.unusedSimpArgs false
set_option linter.unusedVariables false

theorem bytesLess_self (l : List UInt8) : Op.bytesLess l l = false := by
  induction l with
  | nil => rfl
  | cons a l ih => unfold Op.bytesLess; simp [ih]
theorem bk_set3 {w : World} {g : Nat} {t : TypeId} (a b c : Value) (h : Bk w g t [.string ⟨#[]⟩, .string ⟨#[]⟩, .string ⟨#[]⟩]) : Bk (((w.setCell ⟨g, 0, none⟩ a).setCell ⟨g, 1, none⟩ b).setCell ⟨g, 2, none⟩ c) g t [a, b, c] :=
  ((h.set_ 0 a).set_ 1 b).set_ 2 c
end Go.Proofs.Ytfgfkiifekeeaaa

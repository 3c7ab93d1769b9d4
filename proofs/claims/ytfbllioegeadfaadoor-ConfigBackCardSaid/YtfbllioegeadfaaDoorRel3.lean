/- Words for regions (Rel): new blocks. No program in sight. -/
import Derived.Test.YtfbllioegeadfaaDoorRel2
namespace Go.Proofs.YtfbllioegeadfaaDoor
open Go.RowKit Go.Sort
set_option linter.unusedSimpArgs false
set_option linter.unusedVariables false

/-- a pointer to a block of the region's own, known whole -/
def NewBk (base : Nat) (t : TypeId) (cs : List Value) : MSp := ⟨fun v => ∃ g, v = .pointer (some ⟨g, 0, none⟩) ∧ base ≤ g, fun v w => ∃ g, v = .pointer (some ⟨g, 0, none⟩) ∧ Bk w g t cs⟩
theorem sts_newBk (base : Nat) (t : TypeId) (cs : List Value) : ∀ v, Stays ((NewBk base t cs).S v) := fun v w w' ⟨g, e, h⟩ hb => ⟨g, e, h.step hb⟩
theorem newBk_of {base g : Nat} {t : TypeId} {cs : List Value} {w : World} (h : (NewBk base t cs).S (.pointer (some ⟨g, 0, none⟩)) w) : Bk w g t cs := by
  obtain ⟨g', e, h⟩ := h
  injection e with e
  injection e with e
  injection e with e
  subst e
  exact h
theorem newBk_new {base : Nat} {t : TypeId} {cs : List Value} {w w' : World} {g : Nat} (hg : g = w.heap.size) (hw : w' = w.alloc (.cells cs.toArray t)) (hb : base ≤ w.heap.size) : (NewBk base t cs).p (.pointer (some ⟨g, 0, none⟩)) ∧ (NewBk base t cs).S (.pointer (some ⟨g, 0, none⟩)) w' ∧ Below w.heap.size w w' := by
  subst hg hw
  exact ⟨⟨_, rfl, hb⟩, ⟨_, rfl, Bk.new w t cs⟩, (Below.refl _ _).alloc1 _⟩
end Go.Proofs.YtfbllioegeadfaaDoor

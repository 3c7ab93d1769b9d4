/- Words for regions (Rel): rows. No program in sight. -/
import Derived.Test.YtfbllioegeadfaaDoorRel
import Derived.Test.YtfbllioegeadfaaDoorMem
namespace Go.Proofs.YtfbllioegeadfaaDoor
open Go.RowKit Go.Sort
set_option linter.unusedSimpArgs false
set_option linter.unusedVariables false

/-- a slice of n cells that hold xs -/
def RowAt (n : Nat) (xs : List Value) : MSp := ⟨fun v => ∃ A c, v = .slice A n c, fun v w => ∃ A c, v = .slice A n c ∧ Rd w w.heap.size A xs⟩
theorem sts_row (n : Nat) (xs : List Value) : ∀ v, Stays ((RowAt n xs).S v) := fun v w w' ⟨A, c, e, h⟩ hb => ⟨A, c, e, h.step hb⟩
theorem row_of {n : Nat} {xs : List Value} {A : Option Addr} {c : Nat} {w : World} (h : (RowAt n xs).S (.slice A n c) w) : Rd w w.heap.size A xs := by
  obtain ⟨A', c', e, h⟩ := h
  injection e with e1 e2 e3
  subst e1
  exact h
theorem row_new {n : Nat} {xs : List Value} {t : TypeId} {w w' : World} {A : Option Addr} {c : Nat} (hA : A = some ⟨w.heap.size, 0, none⟩) (hw : w' = w.alloc (.cells xs.toArray t)) : (RowAt n xs).p (.slice A n c) ∧ (RowAt n xs).S (.slice A n c) w' ∧ Below w.heap.size w w' := by
  subst hA hw
  exact ⟨⟨_, _, rfl⟩, ⟨_, _, rfl, (Bk.new w t xs).rd⟩, (Below.refl _ _).alloc1 _⟩
theorem _root_.Go.Calls.mrow {P : Program} {f : FuncId} {args : Array Value} {w : World} {n : Nat} {xs : List Value} (h : Calls P f args w fun e w' => ∃ A c, e = .returned (.slice A n c) ∧ Rd w' w'.heap.size A xs ∧ Below w.heap.size w w') : Calls P f args w (mPost (RowAt n xs) w) :=
  h.mono fun _ _ ⟨A, c, he, hr, hb⟩ => ⟨_, he, ⟨_, _, rfl⟩, ⟨_, _, rfl, hr⟩, hb⟩
end Go.Proofs.YtfbllioegeadfaaDoor

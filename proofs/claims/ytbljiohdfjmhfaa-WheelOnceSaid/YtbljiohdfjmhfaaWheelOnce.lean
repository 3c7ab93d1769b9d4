/- 'callboylaw15.WheelOnce' returns true at every input, and each argument reads behind the call as it read before. Conditions: none. -/
import Derived.Test.YtbljiohdfjmhfaaLaw15c
import Derived.Test.YtbljiohdfjmhfaaFrame
import Derived.Test.YtbljiohdfjmhfaaOpen
namespace Go.Proofs.Ytbljiohdfjmhfaa
open Go.ChangeShapes Go.WideShapes Go.ChangeAt Go.RowKit
set_option linter.unusedSimpArgs false
set_option linter.unusedVariables false

set_option maxRecDepth 100000 in
theorem WheelOnce_lifted (os : Os) (started : os.Started) (H : Type) (enc : TypeId × Value → H) :
    ReturnsInHanded {} Try.checked os 5 .any (Rows.wheelOnceSpec.pre6 enc Try.prog Try.f5 Rows.wheelOnceRow.domain false) (Rows.wheelOnceSpec.post enc Try.prog Try.f5 false true false false) := by
  refine returnsInHanded_of_change (C := Try.checked) ownKnobTry started (by kernel_rfl) Try.func5
    (ChangeSpec.witness6 (enc := enc) (C := Try.checked) false ⟨#[], #[.int .u8 0, .slice none 0 0], []⟩ 8 (by kernel_rfl) (by kernel_rfl) (by kernel_rfl) (by kernel_rfl)) ?_
  intro W base args ds gs before hval0 hW hcnd _
  have hval : ∀ (j : Nat) t v, Try.f5.params[j]? = some t → args[j]? = some v → Value.okWide Try.prog W .any base t v := hval0
  refine law_post laidOutTry (by kernel_rfl) rfl (by kernel_rfl) Try.underlying4 (fun ds hds => by
    have hds' : ds.length = 2 := hds.trans (by kernel_rfl)
    match ds, hds' with
    | [d0, d1], _ => rfl) hW ?_
  intro p hA0
  have hA : DataW.TrodAll enc Try.prog W 0 (fun _ => true) true Try.f5.params.toList args.toList ds p := hA0
  rw [Try.params5] at hA hval
  obtain ⟨v0, vs0, d0, ds0, p0, q0, hargs, rfl, rfl, h0, r0⟩ := trodAll_cons hA
  obtain ⟨v1, vs1, d1, ds1, p1, q1, rfl, rfl, rfl, h1, r1⟩ := trodAll_cons r0
  obtain ⟨rfl, rfl, rfl⟩ := trodAll_nil r1
  obtain rfl : args = #[v0, v1] := by cases args; simp_all
  obtain ⟨a0, rfl, g0⟩ := Opens.one (Opens.u8 Try.underlying5) (noAgg_int Try.underlying5 (hval 0 5 v0 rfl rfl)) h0
  obtain ⟨a1, rfl, g1⟩ := Opens.one (Opens.slice Try.underlying57 (k := 4) (by kernel_rfl) (by omega) (fun _ _ => rfl) ((Opens.struct Try.underlying60 (by kernel_rfl) (OpensL.cons (Opens.u8 Try.underlying5) (OpensL.cons (Opens.u8 Try.underlying5) (OpensL.cons (Opens.u8 Try.underlying5) (OpensL.cons (Opens.bool Try.underlying4) OpensL.nil))))).map (f' := plC) (g' := fun x : Pln => (0 ≤ x.id ∧ x.id ≤ 255) ∧ (0 ≤ x.inn ∧ x.inn ≤ 255) ∧ 0 ≤ x.gap ∧ x.gap ≤ 255) (fun p => (⟨p.1, p.2.1, p.2.2.1, p.2.2.2.1⟩ : Pln)) (fun _ => rfl) (fun _ h => ⟨h.1, h.2.1, h.2.2.1⟩))) (noAgg_slice Try.underlying57 (hval 1 57 v1 rfl rfl)) h1
  clear hA0 hval0 hW hcnd
  exact WheelOnce_walk a0 a1.A a1.c a1.l g0 (Nat.le_trans g1.2.2.1 g1.2.2.2) g1.2.1 W g1.1

theorem WheelOnce_over : Rows.wheelOnceRow.holds Try.pinned (OpenSpec.ofChange Rows.wheelOnceSpec) :=
  OpenClaim.holds_of_wide 5 Try.f5 rfl rfl rfl rfl rfl rfl rfl ⟨rfl, rfl, rfl, rfl, rfl⟩ rfl rfl rfl rfl rfl (by kernel_rfl) Try.func5 (by kernel_rfl)
    (of_decide_eq_true (by kernel_rfl)) (by unfold Func.isWrapper; first | (rw [if_pos (by decide +kernel)]; kernel_rfl) | (rw [if_neg (by decide +kernel)]; exact ⟨rfl, rfl⟩))
    (fun os started H enc _ => WheelOnce_lifted os started H enc)

theorem WheelOnce_proved : Rows.WheelOnceSaid := WheelOnce_over
end Go.Proofs.Ytbljiohdfjmhfaa

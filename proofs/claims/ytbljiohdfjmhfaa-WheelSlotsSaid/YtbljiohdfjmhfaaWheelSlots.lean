/- 'callboylaw15.WheelSlots' returns true at every input, and each argument reads behind the call as it read before. Conditions: none. -/
import Derived.Test.YtbljiohdfjmhfaaLaw15b
import Derived.Test.YtbljiohdfjmhfaaFrame
import Derived.Test.YtbljiohdfjmhfaaOpen
namespace Go.Proofs.Ytbljiohdfjmhfaa
open Go.ChangeShapes Go.WideShapes Go.ChangeAt Go.RowKit
set_option linter.unusedSimpArgs false
set_option linter.unusedVariables false

set_option maxRecDepth 100000 in
theorem WheelSlots_lifted (os : Os) (started : os.Started) (H : Type) (enc : TypeId × Value → H) :
    ReturnsInHanded {} Try.checked os 6 .any (Rows.wheelSlotsSpec.pre6 enc Try.prog Try.f6 Rows.wheelSlotsRow.domain false) (Rows.wheelSlotsSpec.post enc Try.prog Try.f6 false true false false) := by
  refine returnsInHanded_of_change (C := Try.checked) ownKnobTry started (by kernel_rfl) Try.func6
    (ChangeSpec.witness6 (enc := enc) (C := Try.checked) false ⟨#[], #[.int .u8 0, .int .u8 0, .slice none 0 0], []⟩ 8 (by kernel_rfl) (by kernel_rfl) (by kernel_rfl) (by kernel_rfl)) ?_
  intro W base args ds gs before hval0 hW hcnd _
  have hval : ∀ (j : Nat) t v, Try.f6.params[j]? = some t → args[j]? = some v → Value.okWide Try.prog W .any base t v := hval0
  refine law_post laidOutTry (by kernel_rfl) rfl (by kernel_rfl) Try.underlying4 (fun ds hds => by
    have hds' : ds.length = 3 := hds.trans (by kernel_rfl)
    match ds, hds' with
    | [d0, d1, d2], _ => rfl) hW ?_
  intro p hA0
  have hA : DataW.TrodAll enc Try.prog W 0 (fun _ => true) true Try.f6.params.toList args.toList ds p := hA0
  rw [Try.params6] at hA hval
  obtain ⟨v0, vs0, d0, ds0, p0, q0, hargs, rfl, rfl, h0, r0⟩ := trodAll_cons hA
  obtain ⟨v1, vs1, d1, ds1, p1, q1, rfl, rfl, rfl, h1, r1⟩ := trodAll_cons r0
  obtain ⟨v2, vs2, d2, ds2, p2, q2, rfl, rfl, rfl, h2, r2⟩ := trodAll_cons r1
  obtain ⟨rfl, rfl, rfl⟩ := trodAll_nil r2
  obtain rfl : args = #[v0, v1, v2] := by cases args; simp_all
  obtain ⟨a0, rfl, g0⟩ := Opens.one (Opens.u8 Try.underlying5) (noAgg_int Try.underlying5 (hval 0 5 v0 rfl rfl)) h0
  obtain ⟨a1, rfl, g1⟩ := Opens.one (Opens.u8 Try.underlying5) (noAgg_int Try.underlying5 (hval 1 5 v1 rfl rfl)) h1
  obtain ⟨a2, rfl, g2⟩ := Opens.one (Opens.slice Try.underlying57 (k := 4) (by kernel_rfl) (by omega) (fun _ _ => rfl) ((Opens.struct Try.underlying60 (by kernel_rfl) (OpensL.cons (Opens.u8 Try.underlying5) (OpensL.cons (Opens.u8 Try.underlying5) (OpensL.cons (Opens.u8 Try.underlying5) (OpensL.cons (Opens.bool Try.underlying4) OpensL.nil))))).map (f' := plC) (g' := fun x : Pln => (0 ≤ x.id ∧ x.id ≤ 255) ∧ (0 ≤ x.inn ∧ x.inn ≤ 255) ∧ 0 ≤ x.gap ∧ x.gap ≤ 255) (fun p => (⟨p.1, p.2.1, p.2.2.1, p.2.2.2.1⟩ : Pln)) (fun _ => rfl) (fun _ h => ⟨h.1, h.2.1, h.2.2.1⟩))) (noAgg_slice Try.underlying57 (hval 2 57 v2 rfl rfl)) h2
  clear hA0 hval0 hW hcnd
  exact WheelSlots_walk a0 a1 a2.A a2.c a2.l g0 g1 (Nat.le_trans g2.2.2.1 g2.2.2.2) g2.2.1 W g2.1

theorem WheelSlots_over : Rows.wheelSlotsRow.holds Try.pinned (OpenSpec.ofChange Rows.wheelSlotsSpec) :=
  OpenClaim.holds_of_wide 6 Try.f6 rfl rfl rfl rfl rfl rfl rfl ⟨rfl, rfl, rfl, rfl, rfl⟩ rfl rfl rfl rfl rfl (by kernel_rfl) Try.func6 (by kernel_rfl)
    (of_decide_eq_true (by kernel_rfl)) (by unfold Func.isWrapper; first | (rw [if_pos (by decide +kernel)]; kernel_rfl) | (rw [if_neg (by decide +kernel)]; exact ⟨rfl, rfl⟩))
    (fun os started H enc _ => WheelSlots_lifted os started H enc)

theorem WheelSlots_proved : Rows.WheelSlotsSaid := WheelSlots_over
end Go.Proofs.Ytbljiohdfjmhfaa

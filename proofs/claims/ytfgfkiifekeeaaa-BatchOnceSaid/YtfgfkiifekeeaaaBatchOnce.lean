/- 'callboylaw30.BatchOnce' returns true at every input, and each argument reads behind the call as it read before. Conditions: none. -/
import Derived.Test.YtfgfkiifekeeaaaLaw30c
import Derived.Test.YtfgfkiifekeeaaaFrame
import Derived.Test.YtfgfkiifekeeaaaOpen
import Derived.HandedShaped
namespace Go.Proofs.Ytfgfkiifekeeaaa
open Go.ChangeShapes Go.WideShapes Go.ChangeAt Go.RowKit
set_option linter.unusedSimpArgs false
set_option linter.unusedVariables false

set_option maxRecDepth 100000 in
theorem BatchOnce_lifted (os : Os) (started : os.Started) (H : Type) (enc : TypeId × Value → H) :
    ReturnsInHanded {} Try.checked os 5 .any (Rows.batchOnceSpec.pre6 enc Try.prog Try.f5 Rows.batchOnceRow.domain false) (Rows.batchOnceSpec.post enc Try.prog Try.f5 false true false false) := by
  refine returnsInHanded_of_change_shaped (C := Try.checked) ownKnobTry started (by kernel_rfl) Try.func5
    (ChangeSpec.witness6 (enc := enc) (C := Try.checked) false ⟨#[], #[.slice none 0 0], []⟩ 8 (by kernel_rfl) (by kernel_rfl) (by kernel_rfl) (by kernel_rfl)) ?_
  intro W base args ds gs before hval0 hW hcnd _ hsh _
  have hm : MW W := Try.laysM144.s1_3 W hsh
  have hval : ∀ (j : Nat) t v, Try.f5.params[j]? = some t → args[j]? = some v → Value.okWide Try.prog W .any base t v := hval0
  refine law_post laidOutTry (by kernel_rfl) rfl (by kernel_rfl) Try.underlying4 (fun ds hds => by
    have hds' : ds.length = 1 := hds.trans (by kernel_rfl)
    match ds, hds' with
    | [d0], _ => rfl) hW ?_
  intro p hA0
  have hA : DataW.TrodAll enc Try.prog W 0 (fun _ => true) true Try.f5.params.toList args.toList ds p := hA0
  rw [Try.params5] at hA hval
  obtain ⟨v0, vs0, d0, ds0, p0, q0, hargs, rfl, rfl, h0, r0⟩ := trodAll_cons hA
  obtain ⟨rfl, rfl, rfl⟩ := trodAll_nil r0
  obtain rfl : args = #[v0] := by cases args; simp_all
  obtain ⟨a0, rfl, g0⟩ := Opens.one (Opens.slice Try.underlying59 (k := 4) (by kernel_rfl) (by omega) (fun _ _ => rfl) ((Opens.struct Try.underlying63 (by kernel_rfl) (OpensL.cons (Opens.u8 Try.underlying5) (OpensL.cons (Opens.u8 Try.underlying5) (OpensL.cons (Opens.u8 Try.underlying5) (OpensL.cons (Opens.bool Try.underlying4) OpensL.nil))))).map (f' := ddC) (g' := DdB) (fun p => (⟨p.1, p.2.1, p.2.2.1, p.2.2.2.1⟩ : Dd)) (fun _ => rfl) (fun _ h => ⟨h.1, h.2.1, h.2.2.1⟩))) (noAgg_slice Try.underlying59 (hval 0 59 v0 rfl rfl)) h0
  clear hA0 hval0 hW hcnd
  exact BatchOnce_walk a0.A a0.c a0.l W (Nat.le_trans g0.2.2.1 g0.2.2.2) g0.2.1 g0.1 hm

theorem BatchOnce_over : Rows.batchOnceRow.holds Try.pinned (OpenSpec.ofChange Rows.batchOnceSpec) :=
  OpenClaim.holds_of_wide 5 Try.f5 rfl rfl rfl rfl rfl rfl rfl ⟨rfl, rfl, rfl, rfl, rfl⟩ rfl rfl rfl rfl rfl (by kernel_rfl) Try.func5 (by kernel_rfl)
    (of_decide_eq_true (by kernel_rfl)) (by unfold Func.isWrapper; first | (rw [if_pos (by decide +kernel)]; kernel_rfl) | (rw [if_neg (by decide +kernel)]; exact ⟨rfl, rfl⟩))
    (fun os started H enc _ => BatchOnce_lifted os started H enc)

theorem BatchOnce_proved : Rows.BatchOnceSaid := BatchOnce_over
end Go.Proofs.Ytfgfkiifekeeaaa

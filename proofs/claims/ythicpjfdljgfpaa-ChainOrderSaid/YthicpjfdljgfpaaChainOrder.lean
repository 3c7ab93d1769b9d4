/- 'callboylaw04.ChainOrder' returns true at every input, and each argument reads behind the call as it read before. Conditions: none. -/
import Derived.Test.YthicpjfdljgfpaaLo
import Derived.Test.YthicpjfdljgfpaaFrame
import Derived.Test.YthicpjfdljgfpaaOpen
namespace Go.Proofs.Ythicpjfdljgfpaa
open Go.ChangeShapes Go.WideShapes Go.ChangeAt Go.RowKit
set_option linter.unusedSimpArgs false
set_option linter.unusedVariables false

set_option maxRecDepth 100000 in
theorem ChainOrder_lifted (os : Os) (started : os.Started) (H : Type) (enc : TypeId × Value → H) :
    ReturnsInHanded {} Try.checked os 6 .any (Rows.chainOrderSpec.pre6 enc Try.prog Try.f6 Rows.chainOrderRow.domain false) (Rows.chainOrderSpec.post enc Try.prog Try.f6 false true false false) := by
  refine returnsInHanded_of_change (C := Try.checked) ownKnobTry started (by kernel_rfl) Try.func6
    (ChangeSpec.witness6 (enc := enc) (C := Try.checked) false ⟨#[], #[.slice none 0 0], []⟩ 8 (by kernel_rfl) (by kernel_rfl) (by kernel_rfl) (by kernel_rfl)) ?_
  intro W base args ds gs before hval0 hW hcnd _
  have hval : ∀ (j : Nat) t v, Try.f6.params[j]? = some t → args[j]? = some v → Value.okWide Try.prog W .any base t v := hval0
  refine law_post laidOutTry (by kernel_rfl) rfl (by kernel_rfl) Try.underlying4 (fun ds hds => by
    have hds' : ds.length = 1 := hds.trans (by kernel_rfl)
    match ds, hds' with
    | [d0], _ => rfl) hW ?_
  intro p hA0
  have hA : DataW.TrodAll enc Try.prog W 0 (fun _ => true) true Try.f6.params.toList args.toList ds p := hA0
  rw [Try.params6] at hA hval
  obtain ⟨v0, vs0, d0, ds0, p0, q0, hargs, rfl, rfl, h0, r0⟩ := trodAll_cons hA
  obtain ⟨rfl, rfl, rfl⟩ := trodAll_nil r0
  obtain rfl : args = #[v0] := by cases args; simp_all
  obtain ⟨a0, rfl, g0⟩ := Opens.one (Opens.slice Try.underlying60 (k := 1) (by kernel_rfl) (by omega) (fun _ _ => rfl) (Opens.u8 Try.underlying5)) (noAgg_slice Try.underlying60 (hval 0 60 v0 rfl rfl)) h0
  clear hA0 hval0 hW hcnd
  exact ChainOrder_walk a0.A a0.c a0.l W (Nat.le_trans g0.2.2.1 g0.2.2.2) g0.2.1 g0.1.of1

theorem ChainOrder_over : Rows.chainOrderRow.holds Try.pinned (OpenSpec.ofChange Rows.chainOrderSpec) :=
  OpenClaim.holds_of_wide 6 Try.f6 rfl rfl rfl rfl rfl rfl rfl ⟨rfl, rfl, rfl, rfl, rfl⟩ rfl rfl rfl rfl rfl (by kernel_rfl) Try.func6 (by kernel_rfl)
    (of_decide_eq_true (by kernel_rfl)) (by unfold Func.isWrapper; first | (rw [if_pos (by decide +kernel)]; kernel_rfl) | (rw [if_neg (by decide +kernel)]; exact ⟨rfl, rfl⟩))
    (fun os started H enc _ => ChainOrder_lifted os started H enc)

theorem ChainOrder_proved : Rows.ChainOrderSaid := ChainOrder_over
end Go.Proofs.Ythicpjfdljgfpaa

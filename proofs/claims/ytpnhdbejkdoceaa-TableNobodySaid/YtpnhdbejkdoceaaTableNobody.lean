/- 'callboylaw07.TableNobody' returns true at every input, and each argument reads behind the call as it read before. Conditions: none. -/
import Derived.Test.YtpnhdbejkdoceaaLaw07a
import Derived.Test.YtpnhdbejkdoceaaFrame
import Derived.Test.YtpnhdbejkdoceaaOpen
namespace Go.Proofs.Ytpnhdbejkdoceaa
open Go.ChangeShapes Go.WideShapes Go.ChangeAt Go.RowKit
set_option linter.unusedSimpArgs false
set_option linter.unusedVariables false

set_option maxRecDepth 100000 in
theorem TableNobody_lifted (os : Os) (started : os.Started) (H : Type) (enc : TypeId × Value → H) :
    ReturnsInHanded {} Try.checked os 3 .any (Rows.tableNobodySpec.pre6 enc Try.prog Try.f3 Rows.tableNobodyRow.domain false) (Rows.tableNobodySpec.post enc Try.prog Try.f3 false true false false) := by
  refine returnsInHanded_of_change (C := Try.checked) ownKnobTry started (by kernel_rfl) Try.func3
    (ChangeSpec.witness6 (enc := enc) (C := Try.checked) false ⟨#[], #[.agg #[.int .u8 0, .string ByteArray.empty, .int .i64 0]], []⟩ 8 (by kernel_rfl) (by kernel_rfl) (by kernel_rfl) (by kernel_rfl)) ?_
  intro W base args ds gs before hval0 hW hcnd _
  have hval : ∀ (j : Nat) t v, Try.f3.params[j]? = some t → args[j]? = some v → Value.okWide Try.prog W .any base t v := hval0
  refine law_post laidOutTry (by kernel_rfl) rfl (by kernel_rfl) Try.underlying4 (fun ds hds => by
    have hds' : ds.length = 1 := hds.trans (by kernel_rfl)
    match ds, hds' with
    | [d0], _ => rfl) hW ?_
  intro p hA0
  have hA : DataW.TrodAll enc Try.prog W 0 (fun _ => true) true Try.f3.params.toList args.toList ds p := hA0
  rw [Try.params3] at hA hval
  obtain ⟨v0, vs0, d0, ds0, p0, q0, hargs, rfl, rfl, h0, r0⟩ := trodAll_cons hA
  obtain ⟨rfl, rfl, rfl⟩ := trodAll_nil r0
  obtain rfl : args = #[v0] := by cases args; simp_all
  obtain ⟨a0, rfl, g0⟩ := Opens.many (Opens.struct Try.underlying23 (by kernel_rfl) (OpensL.cons (Opens.u8 Try.underlying5) (OpensL.cons (Opens.string Try.underlying9) (OpensL.cons (Opens.i64 Try.underlying3) OpensL.nil)))) (agg_struct Try.underlying23 (hval 0 23 v0 rfl rfl)) h0
  clear hA0 hval0 hW hcnd
  exact TableNobody_walk a0.1 a0.2.1 a0.2.2.1 g0.1 g0.2.1 W

theorem TableNobody_over : Rows.tableNobodyRow.holds Try.pinned (OpenSpec.ofChange Rows.tableNobodySpec) :=
  OpenClaim.holds_of_wide 3 Try.f3 rfl rfl rfl rfl rfl rfl rfl ⟨rfl, rfl, rfl, rfl, rfl⟩ rfl rfl rfl rfl rfl (by kernel_rfl) Try.func3 (by kernel_rfl)
    (of_decide_eq_true (by kernel_rfl)) (by unfold Func.isWrapper; first | (rw [if_pos (by decide +kernel)]; kernel_rfl) | (rw [if_neg (by decide +kernel)]; exact ⟨rfl, rfl⟩))
    (fun os started H enc _ => TableNobody_lifted os started H enc)

theorem TableNobody_proved : Rows.TableNobodySaid := TableNobody_over
end Go.Proofs.Ytpnhdbejkdoceaa

/- 'callboylaw09.AddrBack' returns true at every input, and each argument reads behind the call as it read before. Conditions: none. -/
import Derived.Test.YtmncjoihhdefcaaLaw09c
import Derived.Test.YtmncjoihhdefcaaFrame
import Derived.Test.YtmncjoihhdefcaaOpen
import Derived.HandedShaped
namespace Go.Proofs.Ytmncjoihhdefcaa
open Go.ChangeShapes Go.WideShapes Go.ChangeAt Go.RowKit
set_option linter.unusedSimpArgs false
set_option linter.unusedVariables false

set_option maxRecDepth 100000 in
theorem AddrBack_lifted (os : Os) (started : os.Started) (H : Type) (enc : TypeId × Value → H) :
    ReturnsInHanded {} Try.checked os 5 .any (Rows.addrBackSpec.pre6 enc Try.prog Try.f5 Rows.addrBackRow.domain false) (Rows.addrBackSpec.post enc Try.prog Try.f5 false true false false) := by
  refine returnsInHanded_of_change_shaped (C := Try.checked) ownKnobTry started (by kernel_rfl) Try.func5
    (ChangeSpec.witness6 (enc := enc) (C := Try.checked) false ⟨#[], #[.agg #[.string ByteArray.empty, .string ByteArray.empty, .string ByteArray.empty], .string ByteArray.empty], []⟩ 8 (by kernel_rfl) (by kernel_rfl) (by kernel_rfl) (by kernel_rfl)) ?_
  intro W base args ds gs before hval0 hW hcnd _ hsh _
  have hm : MW W := Try.laysM144.s1_3 W hsh
  have hval : ∀ (j : Nat) t v, Try.f5.params[j]? = some t → args[j]? = some v → Value.okWide Try.prog W .any base t v := hval0
  refine law_post laidOutTry (by kernel_rfl) rfl (by kernel_rfl) Try.underlying4 (fun ds hds => by
    have hds' : ds.length = 2 := hds.trans (by kernel_rfl)
    match ds, hds' with
    | [d0, d1], _ => rfl) hW ?_
  intro p hA0
  have hA : DataW.TrodAll enc Try.prog W 0 (fun _ => true) true Try.f5.params.toList args.toList ds p := hA0
  rw [Try.params5] at hA hval
  obtain ⟨v0, vs0, d0, ds0, p0, q0, hargs, rfl, rfl, h0, r0⟩ := trodAll_cons hA
  obtain ⟨v1, vs1, d1, ds1, p1, q1, rfl, rfl, rfl, h1, r1⟩ := trodAll_cons r0
  obtain ⟨rfl, rfl, rfl⟩ := trodAll_nil r1
  obtain rfl : args = #[v0, v1] := by cases args; simp_all
  obtain ⟨a0, rfl, g0⟩ := Opens.many (Opens.struct Try.underlying28 (by kernel_rfl) (OpensL.cons (Opens.string Try.underlying9) (OpensL.cons (Opens.string Try.underlying9) (OpensL.cons (Opens.string Try.underlying9) OpensL.nil)))) (agg_struct Try.underlying28 (hval 0 28 v0 rfl rfl)) h0
  obtain ⟨a1, rfl, g1⟩ := Opens.one (Opens.string Try.underlying9) (noAgg_string Try.underlying9 (hval 1 9 v1 rfl rfl)) h1
  clear hA0 hval0 hW hcnd
  exact AddrBack_walk a0.1 a0.2.1 a0.2.2.1 a1 W hm

theorem AddrBack_over : Rows.addrBackRow.holds Try.pinned (OpenSpec.ofChange Rows.addrBackSpec) :=
  OpenClaim.holds_of_wide 5 Try.f5 rfl rfl rfl rfl rfl rfl rfl ⟨rfl, rfl, rfl, rfl, rfl⟩ rfl rfl rfl rfl rfl (by kernel_rfl) Try.func5 (by kernel_rfl)
    (of_decide_eq_true (by kernel_rfl)) (by unfold Func.isWrapper; first | (rw [if_pos (by decide +kernel)]; kernel_rfl) | (rw [if_neg (by decide +kernel)]; exact ⟨rfl, rfl⟩))
    (fun os started H enc _ => AddrBack_lifted os started H enc)

theorem AddrBack_proved : Rows.AddrBackSaid := AddrBack_over
end Go.Proofs.Ytmncjoihhdefcaa

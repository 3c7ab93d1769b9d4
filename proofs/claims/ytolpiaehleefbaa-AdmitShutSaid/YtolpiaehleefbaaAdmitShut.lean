/- 'callboylaw18.AdmitShut' returns true at every input, and each argument reads behind the call as it read before. Conditions: none. -/
import Derived.Test.YtolpiaehleefbaaLaw18d
import Derived.Test.YtolpiaehleefbaaFrame
import Derived.Test.YtolpiaehleefbaaOpen
namespace Go.Proofs.Ytolpiaehleefbaa
open Go.ChangeShapes Go.WideShapes Go.ChangeAt Go.RowKit
set_option linter.unusedSimpArgs false
set_option linter.unusedVariables false

set_option maxRecDepth 100000 in
theorem AdmitShut_lifted (os : Os) (started : os.Started) (H : Type) (enc : TypeId × Value → H) :
    ReturnsInHanded {} Try.checked os 5 .any (Rows.admitShutSpec.pre6 enc Try.prog Try.f5 Rows.admitShutRow.domain false) (Rows.admitShutSpec.post enc Try.prog Try.f5 false true false false) := by
  refine returnsInHanded_of_change (C := Try.checked) ownKnobTry started (by kernel_rfl) Try.func5
    (ChangeSpec.witness6 (enc := enc) (C := Try.checked) false ⟨#[], #[.slice none 0 0, .int .u16 0, .int .u16 0], []⟩ 8 (by kernel_rfl) (by kernel_rfl) (by kernel_rfl) (by kernel_rfl)) ?_
  intro W base args ds gs before hval0 hW hcnd _
  have hval : ∀ (j : Nat) t v, Try.f5.params[j]? = some t → args[j]? = some v → Value.okWide Try.prog W .any base t v := hval0
  refine law_post laidOutTry (by kernel_rfl) rfl (by kernel_rfl) Try.underlying4 (fun ds hds => by
    have hds' : ds.length = 3 := hds.trans (by kernel_rfl)
    match ds, hds' with
    | [d0, d1, d2], _ => rfl) hW ?_
  intro p hA0
  have hA : DataW.TrodAll enc Try.prog W 0 (fun _ => true) true Try.f5.params.toList args.toList ds p := hA0
  rw [Try.params5] at hA hval
  obtain ⟨v0, vs0, d0, ds0, p0, q0, hargs, rfl, rfl, h0, r0⟩ := trodAll_cons hA
  obtain ⟨v1, vs1, d1, ds1, p1, q1, rfl, rfl, rfl, h1, r1⟩ := trodAll_cons r0
  obtain ⟨v2, vs2, d2, ds2, p2, q2, rfl, rfl, rfl, h2, r2⟩ := trodAll_cons r1
  obtain ⟨rfl, rfl, rfl⟩ := trodAll_nil r2
  obtain rfl : args = #[v0, v1, v2] := by cases args; simp_all
  obtain ⟨a0, rfl, g0⟩ := Opens.one (Opens.slice Try.underlying80 (k := 4) (by kernel_rfl) (by omega) (fun _ _ => rfl) ((Opens.struct Try.underlying89 (by kernel_rfl) (OpensL.cons (Opens.u8 Try.underlying5) (OpensL.cons (Opens.u8 Try.underlying5) (OpensL.cons (Opens.u8 Try.underlying5) (OpensL.cons (Opens.u16 Try.underlying87) OpensL.nil))))).map (f' := stpC) (g' := fun x => (0 ≤ x.1 ∧ x.1 ≤ 255) ∧ (0 ≤ x.2.1 ∧ x.2.1 ≤ 255) ∧ (0 ≤ x.2.2.1 ∧ x.2.2.1 ≤ 255) ∧ 0 ≤ x.2.2.2 ∧ x.2.2.2 ≤ 65535) (fun p => (p.1, p.2.1, p.2.2.1, p.2.2.2.1)) (fun _ => rfl) (fun _ h => ⟨h.1, h.2.1, h.2.2.1, h.2.2.2.1⟩))) (noAgg_slice Try.underlying80 (hval 0 80 v0 rfl rfl)) h0
  obtain ⟨a1, rfl, g1⟩ := Opens.one (Opens.u16 Try.underlying87) (noAgg_int Try.underlying87 (hval 1 87 v1 rfl rfl)) h1
  obtain ⟨a2, rfl, g2⟩ := Opens.one (Opens.u16 Try.underlying87) (noAgg_int Try.underlying87 (hval 2 87 v2 rfl rfl)) h2
  clear hA0 hval0 hW hcnd
  exact AdmitShut_walk a0.A a0.c a0.l a1 a2 W (Nat.le_trans g0.2.2.1 g0.2.2.2) g0.2.1 g0.1 g1 g2

theorem AdmitShut_over : Rows.admitShutRow.holds Try.pinned (OpenSpec.ofChange Rows.admitShutSpec) :=
  OpenClaim.holds_of_wide 5 Try.f5 rfl rfl rfl rfl rfl rfl rfl ⟨rfl, rfl, rfl, rfl, rfl⟩ rfl rfl rfl rfl rfl (by kernel_rfl) Try.func5 (by kernel_rfl)
    (of_decide_eq_true (by kernel_rfl)) (by unfold Func.isWrapper; first | (rw [if_pos (by decide +kernel)]; kernel_rfl) | (rw [if_neg (by decide +kernel)]; exact ⟨rfl, rfl⟩))
    (fun os started H enc _ => AdmitShut_lifted os started H enc)

theorem AdmitShut_proved : Rows.AdmitShutSaid := AdmitShut_over
end Go.Proofs.Ytolpiaehleefbaa

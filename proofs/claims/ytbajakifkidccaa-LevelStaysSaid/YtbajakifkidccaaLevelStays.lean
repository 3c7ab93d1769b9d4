/- 'callboylaw16.LevelStays' returns true at every input, and each argument reads behind the call as it read before. Conditions: none. -/
import Derived.Test.YtbajakifkidccaaLaw16c
import Derived.Test.YtbajakifkidccaaFrame
import Derived.Test.YtbajakifkidccaaOpen
namespace Go.Proofs.Ytbajakifkidccaa
open Go.ChangeShapes Go.WideShapes Go.ChangeAt Go.RowKit
set_option linter.unusedSimpArgs false
set_option linter.unusedVariables false

set_option maxRecDepth 100000 in
theorem LevelStays_lifted (os : Os) (started : os.Started) (H : Type) (enc : TypeId × Value → H) :
    ReturnsInHanded {} Try.checked os 5 .any (Rows.levelStaysSpec.pre6 enc Try.prog Try.f5 Rows.levelStaysRow.domain false) (Rows.levelStaysSpec.post enc Try.prog Try.f5 false true false false) := by
  refine returnsInHanded_of_change (C := Try.checked) ownKnobTry started (by kernel_rfl) Try.func5
    (ChangeSpec.witness6 (enc := enc) (C := Try.checked) false ⟨#[], #[.agg #[.int .i64 0, .int .i64 0, .int .i64 0, .int .i64 0, .int .i64 0, .int .i64 0, .int .i64 0], .slice none 0 0], []⟩ 8 (by kernel_rfl) (by kernel_rfl) (by kernel_rfl) (by kernel_rfl)) ?_
  intro W base args ds gs before hval0 hW hcnd _
  have hval : ∀ (j : Nat) t v, Try.f5.params[j]? = some t → args[j]? = some v → Value.okWide Try.prog W .any base t v := hval0
  refine law_post laidOutTry (by kernel_rfl) rfl (by kernel_rfl) Try.underlying4 (fun ds hds => by
    have hds' : ds.length = 2 := hds.trans (by kernel_rfl)
    match ds, hds' with
    | [d0, d1], _ => rfl) hW ?_
  intro p hA0
  have hA : DataW.TrodAll enc Try.prog W 0 (fun _ => true) true Try.f5.params.toList args.toList ds p := hA0
  rw [Try.params5] at hA hval
  obtain ⟨v0, vs0, d0, ds0, p0, q0, hargs, rfl, rfl, h0, r0⟩ := trodAll_cons hA
  obtain ⟨v1, vs1, d1, ds1, p1, q1, rfl, rfl, rfl, h1, r1⟩ := trodAll_cons r0
  obtain ⟨rfl, rfl, rfl⟩ := trodAll_nil r1
  obtain rfl : args = #[v0, v1] := by cases args; simp_all
  obtain ⟨a0, rfl, g0⟩ := Opens.many ((Opens.struct Try.underlying24 (by kernel_rfl) (OpensL.cons (Opens.array Try.underlying22 (by kernel_rfl) (OpensL.cons (Opens.i64 Try.underlying3) (OpensL.cons (Opens.i64 Try.underlying3) (OpensL.cons (Opens.i64 Try.underlying3) OpensL.nil)))) (OpensL.cons (Opens.array Try.underlying22 (by kernel_rfl) (OpensL.cons (Opens.i64 Try.underlying3) (OpensL.cons (Opens.i64 Try.underlying3) (OpensL.cons (Opens.i64 Try.underlying3) OpensL.nil)))) (OpensL.cons (Opens.i64 Try.underlying3) OpensL.nil))))) (agg_struct Try.underlying24 (hval 0 24 v0 rfl rfl)) h0
  obtain ⟨a1, rfl, g1⟩ := Opens.one (Opens.slice Try.underlying50 (k := 1) (by kernel_rfl) (by omega) (fun _ _ => rfl) (Opens.u8 Try.underlying5)) (noAgg_slice Try.underlying50 (hval 1 50 v1 rfl rfl)) h1
  clear hA0 hval0 hW hcnd
  exact LevelStays_walk (u3 a0.1.1 a0.1.2.1 a0.1.2.2.1) (u3 a0.2.1.1 a0.2.1.2.1 a0.2.1.2.2.1) a0.2.2.1 a1.A a1.c a1.l (Nat.le_trans g1.2.2.1 g1.2.2.2) g1.2.1 W g1.1.of1

theorem LevelStays_over : Rows.levelStaysRow.holds Try.pinned (OpenSpec.ofChange Rows.levelStaysSpec) :=
  OpenClaim.holds_of_wide 5 Try.f5 rfl rfl rfl rfl rfl rfl rfl ⟨rfl, rfl, rfl, rfl, rfl⟩ rfl rfl rfl rfl rfl (by kernel_rfl) Try.func5 (by kernel_rfl)
    (of_decide_eq_true (by kernel_rfl)) (by unfold Func.isWrapper; first | (rw [if_pos (by decide +kernel)]; kernel_rfl) | (rw [if_neg (by decide +kernel)]; exact ⟨rfl, rfl⟩))
    (fun os started H enc _ => LevelStays_lifted os started H enc)

theorem LevelStays_proved : Rows.LevelStaysSaid := LevelStays_over
end Go.Proofs.Ytbajakifkidccaa

/- 'callboylaw30.BatchTells' returns true at every input, and each argument reads behind the call as it read before. Conditions: none. -/
import Derived.Test.YtfgfkiifekeeaaaLaw30b
import Derived.Test.YtfgfkiifekeeaaaFrame
import Derived.Test.YtfgfkiifekeeaaaOpen
import Derived.HandedShaped
namespace Go.Proofs.Ytfgfkiifekeeaaa
open Go.ChangeShapes Go.WideShapes Go.ChangeAt Go.RowKit
set_option linter.unusedSimpArgs false
set_option linter.unusedVariables false

set_option maxRecDepth 100000 in
theorem BatchTells_lifted (os : Os) (started : os.Started) (H : Type) (enc : TypeId × Value → H) :
    ReturnsInHanded {} Try.checked os 4 .any (Rows.batchTellsSpec.pre6 enc Try.prog Try.f4 Rows.batchTellsRow.domain false) (Rows.batchTellsSpec.post enc Try.prog Try.f4 false true false false) := by
  refine returnsInHanded_of_change_shaped (C := Try.checked) ownKnobTry started (by kernel_rfl) Try.func4
    (ChangeSpec.witness6 (enc := enc) (C := Try.checked) false ⟨#[], #[.agg #[.slice none 0 0, .int .i64 0, .int .i64 0], .agg #[.slice none 0 0, .int .i64 0, .int .i64 0], .int .i64 0], []⟩ 8 (by kernel_rfl) (by kernel_rfl) (by kernel_rfl) (by kernel_rfl)) ?_
  intro W base args ds gs before hval0 hW hcnd _ hsh _
  have hm : MW W := Try.laysM144.s1_3 W hsh
  have hval : ∀ (j : Nat) t v, Try.f4.params[j]? = some t → args[j]? = some v → Value.okWide Try.prog W .any base t v := hval0
  refine law_post laidOutTry (by kernel_rfl) rfl (by kernel_rfl) Try.underlying4 (fun ds hds => by
    have hds' : ds.length = 3 := hds.trans (by kernel_rfl)
    match ds, hds' with
    | [d0, d1, d2], _ => rfl) hW ?_
  intro p hA0
  have hA : DataW.TrodAll enc Try.prog W 0 (fun _ => true) true Try.f4.params.toList args.toList ds p := hA0
  rw [Try.params4] at hA hval
  obtain ⟨v0, vs0, d0, ds0, p0, q0, hargs, rfl, rfl, h0, r0⟩ := trodAll_cons hA
  obtain ⟨v1, vs1, d1, ds1, p1, q1, rfl, rfl, rfl, h1, r1⟩ := trodAll_cons r0
  obtain ⟨v2, vs2, d2, ds2, p2, q2, rfl, rfl, rfl, h2, r2⟩ := trodAll_cons r1
  obtain ⟨rfl, rfl, rfl⟩ := trodAll_nil r2
  obtain rfl : args = #[v0, v1, v2] := by cases args; simp_all
  obtain ⟨a0, rfl, g0⟩ := Opens.many (Opens.struct Try.underlying24 (by kernel_rfl) (OpensL.cons (Opens.slice Try.underlying22 (k := 2) (by kernel_rfl) (by omega) (fun _ _ => rfl) ((Opens.struct Try.underlying26 (by kernel_rfl) (OpensL.cons (Opens.string Try.underlying9) (OpensL.cons (Opens.string Try.underlying9) OpensL.nil))).map (f' := pbC) (g' := fun _ => True) (fun p => (⟨p.1, p.2.1⟩ : Pb)) (fun _ => rfl) (fun _ _ => trivial))) (OpensL.cons (Opens.i64 Try.underlying3) (OpensL.cons (Opens.i64 Try.underlying3) OpensL.nil)))) (agg_struct Try.underlying24 (hval 0 24 v0 rfl rfl)) h0
  obtain ⟨a1, rfl, g1⟩ := Opens.many (Opens.struct Try.underlying24 (by kernel_rfl) (OpensL.cons (Opens.slice Try.underlying22 (k := 2) (by kernel_rfl) (by omega) (fun _ _ => rfl) ((Opens.struct Try.underlying26 (by kernel_rfl) (OpensL.cons (Opens.string Try.underlying9) (OpensL.cons (Opens.string Try.underlying9) OpensL.nil))).map (f' := pbC) (g' := fun _ => True) (fun p => (⟨p.1, p.2.1⟩ : Pb)) (fun _ => rfl) (fun _ _ => trivial))) (OpensL.cons (Opens.i64 Try.underlying3) (OpensL.cons (Opens.i64 Try.underlying3) OpensL.nil)))) (agg_struct Try.underlying24 (hval 1 24 v1 rfl rfl)) h1
  obtain ⟨a2, rfl, g2⟩ := Opens.one (Opens.i64 Try.underlying3) (noAgg_int Try.underlying3 (hval 2 3 v2 rfl rfl)) h2
  clear hA0 hval0 hW hcnd
  exact BatchTells_walk a0.1.A a1.1.A a0.1.c a1.1.c a0.1.l a1.1.l a0.2.1 a0.2.2.1 a1.2.1 a1.2.2.1 a2 W (Nat.le_trans g0.1.2.2.1 g0.1.2.2.2) g0.1.2.2.1 (Nat.le_trans g1.1.2.2.1 g1.1.2.2.2) g1.1.2.2.1 g2.2 g0.1.1 g1.1.1 hm

theorem BatchTells_over : Rows.batchTellsRow.holds Try.pinned (OpenSpec.ofChange Rows.batchTellsSpec) :=
  OpenClaim.holds_of_wide 4 Try.f4 rfl rfl rfl rfl rfl rfl rfl ⟨rfl, rfl, rfl, rfl, rfl⟩ rfl rfl rfl rfl rfl (by kernel_rfl) Try.func4 (by kernel_rfl)
    (of_decide_eq_true (by kernel_rfl)) (by unfold Func.isWrapper; first | (rw [if_pos (by decide +kernel)]; kernel_rfl) | (rw [if_neg (by decide +kernel)]; exact ⟨rfl, rfl⟩))
    (fun os started H enc _ => BatchTells_lifted os started H enc)

theorem BatchTells_proved : Rows.BatchTellsSaid := BatchTells_over
end Go.Proofs.Ytfgfkiifekeeaaa

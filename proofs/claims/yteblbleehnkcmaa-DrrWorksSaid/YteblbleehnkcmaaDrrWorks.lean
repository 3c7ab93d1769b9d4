/- 'callboylaw28.DrrWorks' returns true at every input, and each argument reads behind the call as it read before. Conditions: none. -/
import Derived.Test.YteblbleehnkcmaaLaw28c
import Derived.Test.YteblbleehnkcmaaFrame
import Derived.Test.YteblbleehnkcmaaOpen
namespace Go.Proofs.Yteblbleehnkcmaa
open Go.ChangeShapes Go.WideShapes Go.ChangeAt Go.RowKit
set_option linter.unusedSimpArgs false
set_option linter.unusedVariables false

set_option maxRecDepth 100000 in
theorem DrrWorks_lifted (os : Os) (started : os.Started) (H : Type) (enc : TypeId × Value → H) :
    ReturnsInHanded {} Try.checked os 6 .any (Rows.drrWorksSpec.pre6 enc Try.prog Try.f6 Rows.drrWorksRow.domain false) (Rows.drrWorksSpec.post enc Try.prog Try.f6 false true false false) := by
  refine returnsInHanded_of_change (C := Try.checked) ownKnobTry started (by kernel_rfl) Try.func6
    (ChangeSpec.witness6 (enc := enc) (C := Try.checked) false ⟨#[], #[.agg #[.slice none 0 0, .int .i64 0, .bool false], .int .u16 0, .slice none 0 0], []⟩ 8 (by kernel_rfl) (by kernel_rfl) (by kernel_rfl) (by kernel_rfl)) ?_
  intro W base args ds gs before hval0 hW hcnd _
  have hval : ∀ (j : Nat) t v, Try.f6.params[j]? = some t → args[j]? = some v → Value.okWide Try.prog W .any base t v := hval0
  refine law_post laidOutTry (by kernel_rfl) rfl (by kernel_rfl) Try.underlying4 (fun ds hds => by
    have hds' : ds.length = 3 := hds.trans (by kernel_rfl)
    match ds, hds' with
    | [d0, d1, d2], _ => rfl) hW ?_
  intro p hA0
  have hA : DataW.TrodAll enc Try.prog W 0 (fun _ => true) true Try.f6.params.toList args.toList ds p := hA0
  rw [Try.params6] at hA hval
  obtain ⟨v0, vs0, d0, ds0, p0, q0, hargs, rfl, rfl, h0, r0⟩ := trodAll_cons hA
  obtain ⟨v1, vs1, d1, ds1, p1, q1, rfl, rfl, rfl, h1, r1⟩ := trodAll_cons r0
  obtain ⟨v2, vs2, d2, ds2, p2, q2, rfl, rfl, rfl, h2, r2⟩ := trodAll_cons r1
  obtain ⟨rfl, rfl, rfl⟩ := trodAll_nil r2
  obtain rfl : args = #[v0, v1, v2] := by cases args; simp_all
  obtain ⟨a0, rfl, g0⟩ := Opens.many (Opens.struct Try.underlying24 (by kernel_rfl) (OpensL.cons (Opens.slice Try.underlying22 (k := 3) (by kernel_rfl) (by omega) (fun _ _ => rfl) ((Opens.struct Try.underlying73 (by kernel_rfl) (OpensL.cons (Opens.i64 Try.underlying3) (OpensL.cons (Opens.i64 Try.underlying3) (OpensL.cons (Opens.i64 Try.underlying3) OpensL.nil)))).map (f' := flC) (g' := fun _ => True) (fun p => (⟨p.1, p.2.1, p.2.2.1⟩ : Fl)) (fun _ => rfl) (fun _ _ => trivial))) (OpensL.cons (Opens.i64 Try.underlying3) (OpensL.cons (Opens.bool Try.underlying4) OpensL.nil)))) (agg_struct Try.underlying24 (hval 0 24 v0 rfl rfl)) h0
  obtain ⟨a1, rfl, g1⟩ := Opens.one (Opens.u16 Try.underlying65) (noAgg_int Try.underlying65 (hval 1 65 v1 rfl rfl)) h1
  obtain ⟨a2, rfl, g2⟩ := Opens.one (Opens.slice Try.underlying26 (k := 2) (by kernel_rfl) (by omega) (fun _ _ => rfl) ((Opens.struct Try.underlying72 (by kernel_rfl) (OpensL.cons (Opens.i64 Try.underlying3) (OpensL.cons (Opens.slice Try.underlying35 (k := 1) (by kernel_rfl) (by omega) (fun _ _ => rfl) (Opens.i64 Try.underlying3)) OpensL.nil))).map (f' := ldC) (g' := fun x : Ld => Rd W W.heap.size x.A (ints x.xs) ∧ x.xs.length ≤ x.c ∧ x.c ≤ maxLen) (fun p => (⟨p.1, p.2.1.A, p.2.1.c, p.2.1.l⟩ : Ld)) (fun _ => rfl) (fun _ h => ⟨h.2.1.1.of1, h.2.1.2.2.1, h.2.1.2.2.2⟩))) (noAgg_slice Try.underlying26 (hval 2 26 v2 rfl rfl)) h2
  clear hA0 hval0 hW hcnd
  exact DrrWorks_walk a0.1.A a2.A a0.1.c a2.c a0.1.l a0.2.1 a0.2.2.1 a1 a2.l W (Nat.le_trans g0.1.2.2.1 g0.1.2.2.2) (Nat.le_trans g2.2.2.1 g2.2.2.2) (fun x hx => Nat.le_trans (g2.2.1 x hx).2.1 (g2.2.1 x hx).2.2) g1 g0.1.1 ⟨g2.1, fun x hx => (g2.2.1 x hx).1, fun x hx => (g2.2.1 x hx).2.1⟩

theorem DrrWorks_over : Rows.drrWorksRow.holds Try.pinned (OpenSpec.ofChange Rows.drrWorksSpec) :=
  OpenClaim.holds_of_wide 6 Try.f6 rfl rfl rfl rfl rfl rfl rfl ⟨rfl, rfl, rfl, rfl, rfl⟩ rfl rfl rfl rfl rfl (by kernel_rfl) Try.func6 (by kernel_rfl)
    (of_decide_eq_true (by kernel_rfl)) (by unfold Func.isWrapper; first | (rw [if_pos (by decide +kernel)]; kernel_rfl) | (rw [if_neg (by decide +kernel)]; exact ⟨rfl, rfl⟩))
    (fun os started H enc _ => DrrWorks_lifted os started H enc)

theorem DrrWorks_proved : Rows.DrrWorksSaid := DrrWorks_over
end Go.Proofs.Yteblbleehnkcmaa

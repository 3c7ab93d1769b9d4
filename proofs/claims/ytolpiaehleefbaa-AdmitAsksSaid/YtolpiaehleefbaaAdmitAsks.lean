/- 'callboylaw18.AdmitAsks' returns true at every input, and each argument reads behind the call as it read before. Conditions: none. -/
import Derived.Test.YtolpiaehleefbaaLaw18a
import Derived.Test.YtolpiaehleefbaaFrame
import Derived.Test.YtolpiaehleefbaaOpen
namespace Go.Proofs.Ytolpiaehleefbaa
open Go.ChangeShapes Go.WideShapes Go.ChangeAt Go.RowKit
set_option linter.unusedSimpArgs false
set_option linter.unusedVariables false

set_option maxRecDepth 100000 in
theorem AdmitAsks_lifted (os : Os) (started : os.Started) (H : Type) (enc : TypeId × Value → H) :
    ReturnsInHanded {} Try.checked os 3 .any (Rows.admitAsksSpec.pre6 enc Try.prog Try.f3 Rows.admitAsksRow.domain false) (Rows.admitAsksSpec.post enc Try.prog Try.f3 false true false false) := by
  refine returnsInHanded_of_change (C := Try.checked) ownKnobTry started (by kernel_rfl) Try.func3
    (ChangeSpec.witness6 (enc := enc) (C := Try.checked) false ⟨#[], #[.agg #[.int .i64 0, .int .i64 0, .int .i64 0, .int .i64 0, .int .i64 0, .int .i64 0, .int .i64 0, .int .i64 0, .int .i64 0, .int .i64 0, .int .i64 0, .int .i64 0, .int .i64 0, .int .i64 0, .int .i64 0, .int .i64 0, .int .i64 0, .int .i64 0, .int .i64 0], .agg #[.int .i64 0, .int .i64 0, .slice none 0 0, .int .i64 0, .int .i64 0, .int .i64 0, .int .i64 0, .int .i64 0], .agg #[.int .i64 0, .int .i64 0, .int .i64 0, .int .i64 0]], []⟩ 8 (by kernel_rfl) (by kernel_rfl) (by kernel_rfl) (by kernel_rfl)) ?_
  intro W base args ds gs before hval0 hW hcnd _
  have hval : ∀ (j : Nat) t v, Try.f3.params[j]? = some t → args[j]? = some v → Value.okWide Try.prog W .any base t v := hval0
  refine law_post laidOutTry (by kernel_rfl) rfl (by kernel_rfl) Try.underlying4 (fun ds hds => by
    have hds' : ds.length = 3 := hds.trans (by kernel_rfl)
    match ds, hds' with
    | [d0, d1, d2], _ => rfl) hW ?_
  intro p hA0
  have hA : DataW.TrodAll enc Try.prog W 0 (fun _ => true) true Try.f3.params.toList args.toList ds p := hA0
  rw [Try.params3] at hA hval
  obtain ⟨v0, vs0, d0, ds0, p0, q0, hargs, rfl, rfl, h0, r0⟩ := trodAll_cons hA
  obtain ⟨v1, vs1, d1, ds1, p1, q1, rfl, rfl, rfl, h1, r1⟩ := trodAll_cons r0
  obtain ⟨v2, vs2, d2, ds2, p2, q2, rfl, rfl, rfl, h2, r2⟩ := trodAll_cons r1
  obtain ⟨rfl, rfl, rfl⟩ := trodAll_nil r2
  obtain rfl : args = #[v0, v1, v2] := by cases args; simp_all
  obtain ⟨a0, rfl, g0⟩ := Opens.many ((Opens.struct Try.underlying31 (by kernel_rfl) (OpensL.cons (Opens.struct Try.underlying23 (by kernel_rfl) (OpensL.cons (Opens.i64 Try.underlying3) (OpensL.cons (Opens.i64 Try.underlying3) OpensL.nil))) (OpensL.cons (Opens.struct Try.underlying23 (by kernel_rfl) (OpensL.cons (Opens.i64 Try.underlying3) (OpensL.cons (Opens.i64 Try.underlying3) OpensL.nil))) (OpensL.cons (Opens.struct Try.underlying26 (by kernel_rfl) (OpensL.cons (Opens.array Try.underlying24 (by kernel_rfl) (OpensL.cons (Opens.i64 Try.underlying3) (OpensL.cons (Opens.i64 Try.underlying3) (OpensL.cons (Opens.i64 Try.underlying3) OpensL.nil)))) (OpensL.cons (Opens.array Try.underlying24 (by kernel_rfl) (OpensL.cons (Opens.i64 Try.underlying3) (OpensL.cons (Opens.i64 Try.underlying3) (OpensL.cons (Opens.i64 Try.underlying3) OpensL.nil)))) (OpensL.cons (Opens.i64 Try.underlying3) OpensL.nil)))) (OpensL.cons (Opens.struct Try.underlying29 (by kernel_rfl) (OpensL.cons (Opens.array Try.underlying27 (by kernel_rfl) (OpensL.cons (Opens.i64 Try.underlying3) (OpensL.cons (Opens.i64 Try.underlying3) (OpensL.cons (Opens.i64 Try.underlying3) (OpensL.cons (Opens.i64 Try.underlying3) OpensL.nil))))) (OpensL.cons (Opens.array Try.underlying27 (by kernel_rfl) (OpensL.cons (Opens.i64 Try.underlying3) (OpensL.cons (Opens.i64 Try.underlying3) (OpensL.cons (Opens.i64 Try.underlying3) (OpensL.cons (Opens.i64 Try.underlying3) OpensL.nil))))) OpensL.nil))) OpensL.nil)))))) (agg_struct Try.underlying31 (hval 0 31 v0 rfl rfl)) h0
  obtain ⟨a1, rfl, g1⟩ := Opens.many ((Opens.struct Try.underlying38 (by kernel_rfl) (OpensL.cons (Opens.struct Try.underlying33 (by kernel_rfl) (OpensL.cons (Opens.i64 Try.underlying3) (OpensL.cons (Opens.i64 Try.underlying3) OpensL.nil))) (OpensL.cons (Opens.slice Try.underlying34 (k := 3) (by kernel_rfl) (by omega) (fun _ _ => rfl) ((Opens.struct Try.underlying144 (by kernel_rfl) (OpensL.cons (Opens.i64 Try.underlying3) (OpensL.cons (Opens.struct Try.underlying33 (by kernel_rfl) (OpensL.cons (Opens.i64 Try.underlying3) (OpensL.cons (Opens.i64 Try.underlying3) OpensL.nil))) OpensL.nil))).map (f' := enC) (g' := fun _ => True) (fun p => (⟨p.1, p.2.1.1, p.2.1.2.1⟩ : En)) (fun _ => rfl) (fun _ _ => trivial))) (OpensL.cons (Opens.struct Try.underlying36 (by kernel_rfl) (OpensL.cons (Opens.i64 Try.underlying3) (OpensL.cons (Opens.i64 Try.underlying3) (OpensL.cons (Opens.i64 Try.underlying3) OpensL.nil)))) (OpensL.cons (Opens.i64 Try.underlying3) (OpensL.cons (Opens.i64 Try.underlying3) OpensL.nil))))))) (agg_struct Try.underlying38 (hval 1 38 v1 rfl rfl)) h1
  obtain ⟨a2, rfl, g2⟩ := Opens.many ((Opens.array Try.underlying27 (by kernel_rfl) (OpensL.cons (Opens.i64 Try.underlying3) (OpensL.cons (Opens.i64 Try.underlying3) (OpensL.cons (Opens.i64 Try.underlying3) (OpensL.cons (Opens.i64 Try.underlying3) OpensL.nil)))))) (agg_array Try.underlying27 (hval 2 27 v2 rfl rfl)) h2
  clear hA0 hval0 hW hcnd
  exact AdmitAsks_walk ⟨a0.1.1, a0.1.2.1, a0.2.1.1, a0.2.1.2.1, (u3 a0.2.2.1.1.1 a0.2.2.1.1.2.1 a0.2.2.1.1.2.2.1), (u3 a0.2.2.1.2.1.1 a0.2.2.1.2.1.2.1 a0.2.2.1.2.1.2.2.1), a0.2.2.1.2.2.1, (fun k : Nat => match k with | 0 => a0.2.2.2.1.1.1 | 1 => a0.2.2.2.1.1.2.1 | 2 => a0.2.2.2.1.1.2.2.1 | _ => a0.2.2.2.1.1.2.2.2.1), (fun k : Nat => match k with | 0 => a0.2.2.2.1.2.1.1 | 1 => a0.2.2.2.1.2.1.2.1 | 2 => a0.2.2.2.1.2.1.2.2.1 | _ => a0.2.2.2.1.2.1.2.2.2.1)⟩ ⟨a1.1.1, a1.1.2.1, a1.2.1.l, a1.2.2.1.1, a1.2.2.1.2.1, a1.2.2.1.2.2.1, a1.2.2.2.1, a1.2.2.2.2.1⟩ a1.2.1.A a1.2.1.c a2.1 a2.2.1 a2.2.2.1 a2.2.2.2.1 W (Nat.le_trans g1.2.1.2.2.1 g1.2.1.2.2.2) g1.2.1.2.2.1 g1.2.1.1

theorem AdmitAsks_over : Rows.admitAsksRow.holds Try.pinned (OpenSpec.ofChange Rows.admitAsksSpec) :=
  OpenClaim.holds_of_wide 3 Try.f3 rfl rfl rfl rfl rfl rfl rfl ⟨rfl, rfl, rfl, rfl, rfl⟩ rfl rfl rfl rfl rfl (by kernel_rfl) Try.func3 (by kernel_rfl)
    (of_decide_eq_true (by kernel_rfl)) (by unfold Func.isWrapper; first | (rw [if_pos (by decide +kernel)]; kernel_rfl) | (rw [if_neg (by decide +kernel)]; exact ⟨rfl, rfl⟩))
    (fun os started H enc _ => AdmitAsks_lifted os started H enc)

theorem AdmitAsks_proved : Rows.AdmitAsksSaid := AdmitAsks_over
end Go.Proofs.Ytolpiaehleefbaa

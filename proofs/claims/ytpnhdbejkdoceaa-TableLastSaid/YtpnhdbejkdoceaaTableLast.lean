/- 'callboylaw07.TableLast' returns true at every input, and each argument reads behind the call as it read before. Conditions: none. -/
import Derived.Test.YtpnhdbejkdoceaaLaw07b
import Derived.Test.YtpnhdbejkdoceaaFrame
import Derived.Test.YtpnhdbejkdoceaaOpen
namespace Go.Proofs.Ytpnhdbejkdoceaa
open Go.ChangeShapes Go.WideShapes Go.ChangeAt Go.RowKit
set_option linter.unusedSimpArgs false
set_option linter.unusedVariables false

set_option maxRecDepth 100000 in
theorem TableLast_lifted (os : Os) (started : os.Started) (H : Type) (enc : TypeId × Value → H) :
    ReturnsInHanded {} Try.checked os 5 .any (Rows.tableLastSpec.pre6 enc Try.prog Try.f5 Rows.tableLastRow.domain false) (Rows.tableLastSpec.post enc Try.prog Try.f5 false true false false) := by
  refine returnsInHanded_of_change (C := Try.checked) ownKnobTry started (by kernel_rfl) Try.func5
    (ChangeSpec.witness6 (enc := enc) (C := Try.checked) false ⟨#[], #[.string ByteArray.empty, .agg #[.int .i64 0, .int .i64 0], .slice none 0 0], []⟩ 8 (by kernel_rfl) (by kernel_rfl) (by kernel_rfl) (by kernel_rfl)) ?_
  intro W base args ds gs before hval0 hW hcnd _
  have hval : ∀ (j : Nat) t v, Try.f5.params[j]? = some t → args[j]? = some v → Value.okWide Try.prog W .any base t v := hval0
  refine law_post laidOutTry (by kernel_rfl) rfl (by kernel_rfl) Try.underlying4 (fun ds hds => by
    have hds' : ds.length = 3 := hds.trans (by kernel_rfl)
    match ds, hds' with
    | [d0, d1, d2], _ => rfl) hW ?_
  intro p hA0
  have hA : DataW.TrodAll enc Try.prog W 0 (fun _ => true) true Try.f5.params.toList args.toList ds p := hA0
  rw [Try.params5] at hA hval
  obtain ⟨v0, vs0, d0, ds0, p0, q0, hargs, rfl, rfl, h0, r0⟩ := trodAll_cons hA
  obtain ⟨v1, vs1, d1, ds1, p1, q1, rfl, rfl, rfl, h1, r1⟩ := trodAll_cons r0
  obtain ⟨v2, vs2, d2, ds2, p2, q2, rfl, rfl, rfl, h2, r2⟩ := trodAll_cons r1
  obtain ⟨rfl, rfl, rfl⟩ := trodAll_nil r2
  obtain rfl : args = #[v0, v1, v2] := by cases args; simp_all
  obtain ⟨a0, rfl, g0⟩ := Opens.one (Opens.string Try.underlying9) (noAgg_string Try.underlying9 (hval 0 9 v0 rfl rfl)) h0
  obtain ⟨a1, rfl, g1⟩ := Opens.many ((Opens.array Try.underlying44 (by kernel_rfl) (OpensL.cons (Opens.i64 Try.underlying3) (OpensL.cons (Opens.i64 Try.underlying3) OpensL.nil)))) (agg_array Try.underlying44 (hval 1 44 v1 rfl rfl)) h1
  obtain ⟨a2, rfl, g2⟩ := Opens.one (Opens.slice Try.underlying37 (k := 3) (by kernel_rfl) (by omega) (fun _ _ => rfl) ((Opens.struct Try.underlying23 (by kernel_rfl) (OpensL.cons (Opens.u8 Try.underlying5) (OpensL.cons (Opens.string Try.underlying9) (OpensL.cons (Opens.i64 Try.underlying3) OpensL.nil)))).map (f' := atC) (g' := fun x : AcT => (0 ≤ x.kind ∧ x.kind ≤ 255) ∧ x.key.size ≤ maxLen ∧ -9223372036854775808 ≤ x.n ∧ x.n ≤ 9223372036854775807) (fun p => (⟨p.1, p.2.1, p.2.2.1⟩ : AcT)) (fun _ => rfl) (fun _ h => ⟨h.1, h.2.1, h.2.2.1⟩))) (noAgg_slice Try.underlying37 (hval 2 37 v2 rfl rfl)) h2
  clear hA0 hval0 hW hcnd
  exact TableLast_walk a0 a1.1 a1.2.1 a2.A a2.c a2.l g0 (Nat.le_trans g2.2.2.1 g2.2.2.2) g2.2.1 W g2.1

theorem TableLast_over : Rows.tableLastRow.holds Try.pinned (OpenSpec.ofChange Rows.tableLastSpec) :=
  OpenClaim.holds_of_wide 5 Try.f5 rfl rfl rfl rfl rfl rfl rfl ⟨rfl, rfl, rfl, rfl, rfl⟩ rfl rfl rfl rfl rfl (by kernel_rfl) Try.func5 (by kernel_rfl)
    (of_decide_eq_true (by kernel_rfl)) (by unfold Func.isWrapper; first | (rw [if_pos (by decide +kernel)]; kernel_rfl) | (rw [if_neg (by decide +kernel)]; exact ⟨rfl, rfl⟩))
    (fun os started H enc _ => TableLast_lifted os started H enc)

theorem TableLast_proved : Rows.TableLastSaid := TableLast_over
end Go.Proofs.Ytpnhdbejkdoceaa

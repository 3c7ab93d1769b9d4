/- 'callboylaw07.TableSlots' returns true at every input, and each argument reads behind the call as it read before. Conditions: none. -/
import Derived.Test.YtpnhdbejkdoceaaLaw07c
import Derived.Test.YtpnhdbejkdoceaaFrame
import Derived.Test.YtpnhdbejkdoceaaOpen
namespace Go.Proofs.Ytpnhdbejkdoceaa
open Go.ChangeShapes Go.WideShapes Go.ChangeAt Go.RowKit
set_option linter.unusedSimpArgs false
set_option linter.unusedVariables false

set_option maxRecDepth 100000 in
theorem TableSlots_lifted (os : Os) (started : os.Started) (H : Type) (enc : TypeId × Value → H) :
    ReturnsInHanded {} Try.checked os 4 .any (Rows.tableSlotsSpec.pre6 enc Try.prog Try.f4 Rows.tableSlotsRow.domain false) (Rows.tableSlotsSpec.post enc Try.prog Try.f4 false true false false) := by
  refine returnsInHanded_of_change (C := Try.checked) ownKnobTry started (by kernel_rfl) Try.func4
    (ChangeSpec.witness6 (enc := enc) (C := Try.checked) false ⟨#[], #[.int .u8 0, .slice none 0 0], []⟩ 8 (by kernel_rfl) (by kernel_rfl) (by kernel_rfl) (by kernel_rfl)) ?_
  intro W base args ds gs before hval0 hW hcnd _
  have hval : ∀ (j : Nat) t v, Try.f4.params[j]? = some t → args[j]? = some v → Value.okWide Try.prog W .any base t v := hval0
  refine law_post laidOutTry (by kernel_rfl) rfl (by kernel_rfl) Try.underlying4 (fun ds hds => by
    have hds' : ds.length = 2 := hds.trans (by kernel_rfl)
    match ds, hds' with
    | [d0, d1], _ => rfl) hW ?_
  intro p hA0
  have hA : DataW.TrodAll enc Try.prog W 0 (fun _ => true) true Try.f4.params.toList args.toList ds p := hA0
  rw [Try.params4] at hA hval
  obtain ⟨v0, vs0, d0, ds0, p0, q0, hargs, rfl, rfl, h0, r0⟩ := trodAll_cons hA
  obtain ⟨v1, vs1, d1, ds1, p1, q1, rfl, rfl, rfl, h1, r1⟩ := trodAll_cons r0
  obtain ⟨rfl, rfl, rfl⟩ := trodAll_nil r1
  obtain rfl : args = #[v0, v1] := by cases args; simp_all
  obtain ⟨a0, rfl, g0⟩ := Opens.one (Opens.u8 Try.underlying5) (noAgg_int Try.underlying5 (hval 0 5 v0 rfl rfl)) h0
  obtain ⟨a1, rfl, g1⟩ := Opens.one (Opens.slice Try.underlying37 (k := 3) (by kernel_rfl) (by omega) (fun _ _ => rfl) ((Opens.struct Try.underlying23 (by kernel_rfl) (OpensL.cons (Opens.u8 Try.underlying5) (OpensL.cons (Opens.string Try.underlying9) (OpensL.cons (Opens.i64 Try.underlying3) OpensL.nil)))).map (f' := atC) (g' := fun x : AcT => (0 ≤ x.kind ∧ x.kind ≤ 255) ∧ x.key.size ≤ maxLen ∧ -9223372036854775808 ≤ x.n ∧ x.n ≤ 9223372036854775807) (fun p => (⟨p.1, p.2.1, p.2.2.1⟩ : AcT)) (fun _ => rfl) (fun _ h => ⟨h.1, h.2.1, h.2.2.1⟩))) (noAgg_slice Try.underlying37 (hval 1 37 v1 rfl rfl)) h1
  clear hA0 hval0 hW hcnd
  exact TableSlots_walk a0 a1.A a1.c a1.l g0 (Nat.le_trans g1.2.2.1 g1.2.2.2) g1.2.1 W g1.1

theorem TableSlots_over : Rows.tableSlotsRow.holds Try.pinned (OpenSpec.ofChange Rows.tableSlotsSpec) :=
  OpenClaim.holds_of_wide 4 Try.f4 rfl rfl rfl rfl rfl rfl rfl ⟨rfl, rfl, rfl, rfl, rfl⟩ rfl rfl rfl rfl rfl (by kernel_rfl) Try.func4 (by kernel_rfl)
    (of_decide_eq_true (by kernel_rfl)) (by unfold Func.isWrapper; first | (rw [if_pos (by decide +kernel)]; kernel_rfl) | (rw [if_neg (by decide +kernel)]; exact ⟨rfl, rfl⟩))
    (fun os started H enc _ => TableSlots_lifted os started H enc)

theorem TableSlots_proved : Rows.TableSlotsSaid := TableSlots_over
end Go.Proofs.Ytpnhdbejkdoceaa

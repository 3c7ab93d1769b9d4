/- 'callboylaw32.ConfigBack' returns true at every input, and each argument reads behind the call as it read before; the tables of Go's library that the row lists read as the program's text lays them. -/
import Derived.Test.YtfbllioegeadfaaDoorLaw32b
import Derived.Test.YtfbllioegeadfaaDoorLd32
import Derived.Test.YtfbllioegeadfaaDoorFrame
import Derived.Test.YtfbllioegeadfaaDoorOpen
import Derived.Test.YtfbllioegeadfaaDoorCards
import Derived.Test.YtfbllioegeadfaaDoorTie
import Derived.SevenTiedAt
namespace Go.Proofs.YtfbllioegeadfaaDoor
open Go.ChangeShapes Go.WideShapes Go.ChangeAt Go.RowKit
set_option linter.unusedSimpArgs false
set_option linter.unusedVariables false

set_option maxRecDepth 100000 in
theorem ConfigBack_wit (os : Os) {H : Type} (enc : TypeId × Value → H) :
    (OpenSpec.ofChange Rows.configBackSpec).preRow enc Tryd.prog Tryd.f4 Rows.configBackRow.domain false Rows.configBackRow.laid ((laidWorld os).forCall (fun _ _ => 0) ⟨#[], #[.agg #[.int .i64 0, .int .i64 0, .int .i64 0, .int .i64 0, .int .i64 0, .int .i64 0, .int .i64 0, .int .i64 0, .int .i64 0, .int .i64 0, .int .i64 0, .int .i64 0, .int .i64 0, .int .i64 0, .int .i64 0, .int .i64 0, .int .i64 0, .int .i64 0, .int .i64 0, .int .i64 0, .int .i64 0, .int .i64 0, .int .i64 0, .int .i64 0], .string ⟨#[]⟩], []⟩).memory #[.agg #[.int .i64 0, .int .i64 0, .int .i64 0, .int .i64 0, .int .i64 0, .int .i64 0, .int .i64 0, .int .i64 0, .int .i64 0, .int .i64 0, .int .i64 0, .int .i64 0, .int .i64 0, .int .i64 0, .int .i64 0, .int .i64 0, .int .i64 0, .int .i64 0, .int .i64 0, .int .i64 0, .int .i64 0, .int .i64 0, .int .i64 0, .int .i64 0], .string ⟨#[]⟩] := by
  have hw : (DataW.whole enc Tryd.prog ((laidWorld os).forCall (fun _ _ => 0) ⟨#[], #[.agg #[.int .i64 0, .int .i64 0, .int .i64 0, .int .i64 0, .int .i64 0, .int .i64 0, .int .i64 0, .int .i64 0, .int .i64 0, .int .i64 0, .int .i64 0, .int .i64 0, .int .i64 0, .int .i64 0, .int .i64 0, .int .i64 0, .int .i64 0, .int .i64 0, .int .i64 0, .int .i64 0, .int .i64 0, .int .i64 0, .int .i64 0, .int .i64 0], .string ⟨#[]⟩], []⟩).memory Tryd.f4.params.toList (OpenSpec.ofChange Rows.configBackSpec).vars false #[Value.agg #[Value.int .i64 0, Value.int .i64 0, Value.int .i64 0, Value.int .i64 0, Value.int .i64 0, Value.int .i64 0, Value.int .i64 0, Value.int .i64 0, Value.int .i64 0, Value.int .i64 0, Value.int .i64 0, Value.int .i64 0, Value.int .i64 0, Value.int .i64 0, Value.int .i64 0, Value.int .i64 0, Value.int .i64 0, Value.int .i64 0, Value.int .i64 0, Value.int .i64 0, Value.int .i64 0, Value.int .i64 0, Value.int .i64 0, Value.int .i64 0], Value.string ⟨#[]⟩].toList 8).map (fun x => (x.1, x.2.1)) =
      some ([.agg [.agg [.agg [.lit (.int .i64 0), .lit (.int .i64 0)], .agg [.lit (.int .i64 0), .lit (.int .i64 0)], .agg [.agg [.lit (.int .i64 0), .lit (.int .i64 0), .lit (.int .i64 0)], .agg [.lit (.int .i64 0), .lit (.int .i64 0), .lit (.int .i64 0)], .lit (.int .i64 0)], .agg [.agg [.lit (.int .i64 0), .lit (.int .i64 0), .lit (.int .i64 0), .lit (.int .i64 0)], .agg [.lit (.int .i64 0), .lit (.int .i64 0), .lit (.int .i64 0), .lit (.int .i64 0)]]], .lit (.int .i64 0), .lit (.int .i64 0), .lit (.int .i64 0), .lit (.int .i64 0), .lit (.int .i64 0)], .lit (.string [])], []) := by kernel_rfl
  obtain ⟨⟨x1, x2, x3⟩, hx, hx1⟩ := Option.map_eq_some_iff.1 hw
  simp only [Prod.mk.injEq] at hx1
  obtain ⟨rfl, rfl⟩ := hx1
  exact OpenSpec.preRow_of_cond 8 hx (by kernel_rfl) (fun k hk => by cases hk) (by kernel_rfl) (laid_met os _)
set_option maxRecDepth 100000 in
theorem ConfigBack_lifted (os : Os) (started : os.Started) (H : Type) (enc : TypeId × Value → H) (F : Stop.Interp) :
    ReturnsInHanded {} Tryd.checked os 4 .any ((OpenSpec.ofChange Rows.configBackSpec).preRow enc Tryd.prog Tryd.f4 Rows.configBackRow.domain false Rows.configBackRow.laid) (((OpenSpec.ofChange Rows.configBackSpec).at F).post enc Tryd.prog Tryd.f4 false true false false) := by
  refine returnsInHanded_of_row (C := Tryd.checked) (s := OpenSpec.ofChange Rows.configBackSpec) ownKnobTryd started (by kernel_rfl) Tryd.func4
    (witness_row_atRef (enc := enc) (C := Tryd.checked) false (laidWorld os) #[.agg #[.int .i64 0, .int .i64 0, .int .i64 0, .int .i64 0, .int .i64 0, .int .i64 0, .int .i64 0, .int .i64 0, .int .i64 0, .int .i64 0, .int .i64 0, .int .i64 0, .int .i64 0, .int .i64 0, .int .i64 0, .int .i64 0, .int .i64 0, .int .i64 0, .int .i64 0, .int .i64 0, .int .i64 0, .int .i64 0, .int .i64 0, .int .i64 0], .string ⟨#[]⟩] rfl (by kernel_rfl) (by kernel_rfl) (by kernel_rfl) (ConfigBack_wit os enc)) ?_
  intro W base args ds gs before hval0 hW hcnd _ _ hL hsh _
  have hm : GW W := gw_of hsh (show laidMet Tryd.prog Rows.configBackRow.laid W from hL) (by simp [Rows.configBackRow])
  have hval : ∀ (j : Nat) t v, Tryd.f4.params[j]? = some t → args[j]? = some v → Value.okWide Tryd.prog W .any base t v := hval0
  refine law_post (s := Rows.configBackSpec) laidOutTryd (by kernel_rfl) rfl (by kernel_rfl) Tryd.underlying4 (fun ds hds => by
    have hds' : ds.length = 2 := hds.trans (by kernel_rfl)
    match ds, hds' with
    | [d0, d1], _ => rfl) hW ?_
  intro p hA0
  have hA : DataW.TrodAll enc Tryd.prog W 0 (fun _ => true) true Tryd.f4.params.toList args.toList ds p := hA0
  rw [Tryd.params4] at hA hval
  obtain ⟨v0, vs0, d0, ds0, p0, q0, hargs, rfl, rfl, h0, r0⟩ := trodAll_cons hA
  obtain ⟨v1, vs1, d1, ds1, p1, q1, rfl, rfl, rfl, h1, r1⟩ := trodAll_cons r0
  obtain ⟨rfl, rfl, rfl⟩ := trodAll_nil r1
  obtain rfl : args = #[v0, v1] := by cases args; simp_all
  obtain ⟨a0, rfl, g0⟩ := Opens.many ((Opens.struct Tryd.underlying44 (by kernel_rfl) (OpensL.cons (Opens.struct Tryd.underlying42 (by kernel_rfl) (OpensL.cons (Opens.struct Tryd.underlying38 (by kernel_rfl) (OpensL.cons (Opens.i64 Tryd.underlying3) (OpensL.cons (Opens.i64 Tryd.underlying3) OpensL.nil))) (OpensL.cons (Opens.struct Tryd.underlying38 (by kernel_rfl) (OpensL.cons (Opens.i64 Tryd.underlying3) (OpensL.cons (Opens.i64 Tryd.underlying3) OpensL.nil))) (OpensL.cons (Opens.struct Tryd.underlying39 (by kernel_rfl) (OpensL.cons (Opens.array Tryd.underlying25 (by kernel_rfl) (OpensL.cons (Opens.i64 Tryd.underlying3) (OpensL.cons (Opens.i64 Tryd.underlying3) (OpensL.cons (Opens.i64 Tryd.underlying3) OpensL.nil)))) (OpensL.cons (Opens.array Tryd.underlying25 (by kernel_rfl) (OpensL.cons (Opens.i64 Tryd.underlying3) (OpensL.cons (Opens.i64 Tryd.underlying3) (OpensL.cons (Opens.i64 Tryd.underlying3) OpensL.nil)))) (OpensL.cons (Opens.i64 Tryd.underlying3) OpensL.nil)))) (OpensL.cons (Opens.struct Tryd.underlying40 (by kernel_rfl) (OpensL.cons (Opens.array Tryd.underlying28 (by kernel_rfl) (OpensL.cons (Opens.i64 Tryd.underlying3) (OpensL.cons (Opens.i64 Tryd.underlying3) (OpensL.cons (Opens.i64 Tryd.underlying3) (OpensL.cons (Opens.i64 Tryd.underlying3) OpensL.nil))))) (OpensL.cons (Opens.array Tryd.underlying28 (by kernel_rfl) (OpensL.cons (Opens.i64 Tryd.underlying3) (OpensL.cons (Opens.i64 Tryd.underlying3) (OpensL.cons (Opens.i64 Tryd.underlying3) (OpensL.cons (Opens.i64 Tryd.underlying3) OpensL.nil))))) OpensL.nil))) OpensL.nil))))) (OpensL.cons (Opens.i64 Tryd.underlying3) (OpensL.cons (Opens.i64 Tryd.underlying3) (OpensL.cons (Opens.i64 Tryd.underlying3) (OpensL.cons (Opens.i64 Tryd.underlying3) (OpensL.cons (Opens.i64 Tryd.underlying3) OpensL.nil)))))))) (agg_struct Tryd.underlying44 (hval 0 44 v0 rfl rfl)) h0
  obtain ⟨a1, rfl, g1⟩ := Opens.one (Opens.string Tryd.underlying9) (noAgg_string Tryd.underlying9 (hval 1 9 v1 rfl rfl)) h1
  clear hA0 hval0 hW hcnd
  exact ConfigBack_walk ⟨⟨a0.1.1.1, a0.1.1.2.1, a0.1.2.1.1, a0.1.2.1.2.1, (u3 a0.1.2.2.1.1.1 a0.1.2.2.1.1.2.1 a0.1.2.2.1.1.2.2.1), (u3 a0.1.2.2.1.2.1.1 a0.1.2.2.1.2.1.2.1 a0.1.2.2.1.2.1.2.2.1), a0.1.2.2.1.2.2.1, (fun k : Nat => match k with | 0 => a0.1.2.2.2.1.1.1 | 1 => a0.1.2.2.2.1.1.2.1 | 2 => a0.1.2.2.2.1.1.2.2.1 | _ => a0.1.2.2.2.1.1.2.2.2.1), (fun k : Nat => match k with | 0 => a0.1.2.2.2.1.2.1.1 | 1 => a0.1.2.2.2.1.2.1.2.1 | 2 => a0.1.2.2.2.1.2.1.2.2.1 | _ => a0.1.2.2.2.1.2.1.2.2.2.1)⟩, a0.2.1, a0.2.2.1, a0.2.2.2.1, a0.2.2.2.2.1, a0.2.2.2.2.2.1⟩ a1 W hm
set_option maxRecDepth 100000 in
theorem ConfigBack_row : Rows.ConfigBackSaid :=
  OpenClaim.holds_of_cond 4 Tryd.f4 rfl rfl rfl rfl rfl rfl rfl ⟨rfl, rfl, rfl, rfl, rfl⟩ rfl rfl rfl rfl rfl (by kernel_rfl) Tryd.func4 (by kernel_rfl)
    (of_decide_eq_true (by kernel_rfl)) (by unfold Func.isWrapper; first | (rw [if_pos (by decide +kernel)]; kernel_rfl) | (rw [if_neg (by decide +kernel)]; exact ⟨rfl, rfl⟩))
    (fun os started H enc _ F0 => by rw [OpenClaim.pre_eq_preRow]; exact ConfigBack_lifted os started H enc F0)
set_option maxRecDepth 100000 in
theorem ConfigBack_proved : Rows.ConfigBackCardSaid :=
  Claim7.holds_tied_plain_at .later [] [.data, .data, .data, .data, .pinned] true (true, "c72c503d6dbdd2d5bead7d7ee282f1d0e0c745deb46c1d769e1fe3b386a5fab9") false
    ConfigBack_row (fun _ h => by cases h) (by kernel_rfl) (fun _ h => by cases h) configBack_row_tie rfl ⟨rfl, rfl⟩ (by kernel_rfl) rfl
    (fun f fn hf hfn => by
      obtain rfl : f = 4 := Option.some.inj ((show Tryd.prog.funcNamed "callboy/callboylaw32.ConfigBack" = some 4 by kernel_rfl).symm.trans hf) |>.symm
      obtain rfl : fn = Tryd.f4 := (Option.some.inj (Tryd.func4.symm.trans hfn)).symm
      exact ⟨by kernel_rfl, fun j t ht => by
        rw [Tryd.params4] at ht
        have h3 : t = 44 ∨ t = 9 := by
          rcases j with _ | _ | j
          · exact .inl (by simpa using ht.symm)
          · exact .inr (by simpa using ht.symm)
          · simp at ht
        rcases h3 with rfl | rfl
        · exact (show Tryd.prog.wantsStandIn 44 = false by kernel_rfl)
        · exact (show Tryd.prog.wantsStandIn 9 = false by kernel_rfl)⟩)
    (by kernel_rfl)
end Go.Proofs.YtfbllioegeadfaaDoor

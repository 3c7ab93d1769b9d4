/- 'callboylaw32.ConfigReads' returns true at every input, and each argument reads behind the call as it read before; the tables of Go's library that the row lists read as the program's text lays them. -/
import Derived.Test.YtfbllioegeadfaaDoorLaw32a
import Derived.Test.YtfbllioegeadfaaDoorLd32
import Derived.Test.YtfbllioegeadfaaDoorFrame
import Derived.Test.YtfbllioegeadfaaDoorOpen
import Derived.Test.YtfbllioegeadfaaDoorCards
import Derived.Test.YtfbllioegeadfaaDoorTie
import Derived.SevenTiedAt
namespace Go.Proofs.YtfbllioegeadfaaDoor
open Go.ChangeShapes Go.WideShapes Go.ChangeAt Go.RowKit
set_option linter.unusedSimpArgs false
set_option linter.unusedVariables false

set_option maxRecDepth 100000 in
theorem ConfigReads_wit (os : Os) {H : Type} (enc : TypeId × Value → H) :
    (OpenSpec.ofChange Rows.configReadsSpec).preRow enc Tryd.prog Tryd.f3 Rows.configReadsRow.domain false Rows.configReadsRow.laid ((laidWorld os).forCall (fun _ _ => 0) ⟨#[], #[.string ⟨#[]⟩], []⟩).memory #[.string ⟨#[]⟩] := by
  have hw : (DataW.whole enc Tryd.prog ((laidWorld os).forCall (fun _ _ => 0) ⟨#[], #[.string ⟨#[]⟩], []⟩).memory Tryd.f3.params.toList (OpenSpec.ofChange Rows.configReadsSpec).vars false #[Value.string ⟨#[]⟩].toList 8).map (fun x => (x.1, x.2.1)) =
      some ([.lit (.string [])], []) := by kernel_rfl
  obtain ⟨⟨x1, x2, x3⟩, hx, hx1⟩ := Option.map_eq_some_iff.1 hw
  simp only [Prod.mk.injEq] at hx1
  obtain ⟨rfl, rfl⟩ := hx1
  exact OpenSpec.preRow_of_cond 8 hx (by kernel_rfl) (fun k hk => by cases hk) (by kernel_rfl) (laid_met os _)
set_option maxRecDepth 100000 in
theorem ConfigReads_lifted (os : Os) (started : os.Started) (H : Type) (enc : TypeId × Value → H) (F : Stop.Interp) :
    ReturnsInHanded {} Tryd.checked os 3 .any ((OpenSpec.ofChange Rows.configReadsSpec).preRow enc Tryd.prog Tryd.f3 Rows.configReadsRow.domain false Rows.configReadsRow.laid) (((OpenSpec.ofChange Rows.configReadsSpec).at F).post enc Tryd.prog Tryd.f3 false true false false) := by
  refine returnsInHanded_of_row (C := Tryd.checked) (s := OpenSpec.ofChange Rows.configReadsSpec) ownKnobTryd started (by kernel_rfl) Tryd.func3
    (witness_row_atRef (enc := enc) (C := Tryd.checked) false (laidWorld os) #[.string ⟨#[]⟩] rfl (by kernel_rfl) (by kernel_rfl) (by kernel_rfl) (ConfigReads_wit os enc)) ?_
  intro W base args ds gs before hval0 hW hcnd _ _ hL hsh _
  have hm : GW W := gw_of hsh (show laidMet Tryd.prog Rows.configReadsRow.laid W from hL) (by simp [Rows.configReadsRow])
  have hval : ∀ (j : Nat) t v, Tryd.f3.params[j]? = some t → args[j]? = some v → Value.okWide Tryd.prog W .any base t v := hval0
  refine law_post (s := Rows.configReadsSpec) laidOutTryd (by kernel_rfl) rfl (by kernel_rfl) Tryd.underlying4 (fun ds hds => by
    have hds' : ds.length = 1 := hds.trans (by kernel_rfl)
    match ds, hds' with
    | [d0], _ => rfl) hW ?_
  intro p hA0
  have hA : DataW.TrodAll enc Tryd.prog W 0 (fun _ => true) true Tryd.f3.params.toList args.toList ds p := hA0
  rw [Tryd.params3] at hA hval
  obtain ⟨v0, vs0, d0, ds0, p0, q0, hargs, rfl, rfl, h0, r0⟩ := trodAll_cons hA
  obtain ⟨rfl, rfl, rfl⟩ := trodAll_nil r0
  obtain rfl : args = #[v0] := by cases args; simp_all
  obtain ⟨a0, rfl, g0⟩ := Opens.one (Opens.string Tryd.underlying9) (noAgg_string Tryd.underlying9 (hval 0 9 v0 rfl rfl)) h0
  clear hA0 hval0 hW hcnd
  exact ConfigReads_walk a0 W hm
set_option maxRecDepth 100000 in
theorem ConfigReads_row : Rows.ConfigReadsSaid :=
  OpenClaim.holds_of_cond 3 Tryd.f3 rfl rfl rfl rfl rfl rfl rfl ⟨rfl, rfl, rfl, rfl, rfl⟩ rfl rfl rfl rfl rfl (by kernel_rfl) Tryd.func3 (by kernel_rfl)
    (of_decide_eq_true (by kernel_rfl)) (by unfold Func.isWrapper; first | (rw [if_pos (by decide +kernel)]; kernel_rfl) | (rw [if_neg (by decide +kernel)]; exact ⟨rfl, rfl⟩))
    (fun os started H enc _ F0 => by rw [OpenClaim.pre_eq_preRow]; exact ConfigReads_lifted os started H enc F0)
set_option maxRecDepth 100000 in
theorem ConfigReads_proved : Rows.ConfigReadsCardSaid :=
  Claim7.holds_tied_plain_at .later [] [.data, .data, .data, .data, .pinned] true (true, "c72c503d6dbdd2d5bead7d7ee282f1d0e0c745deb46c1d769e1fe3b386a5fab9") false
    ConfigReads_row (fun _ h => by cases h) (by kernel_rfl) (fun _ h => by cases h) configReads_row_tie rfl ⟨rfl, rfl⟩ (by kernel_rfl) rfl
    (fun f fn hf hfn => by
      obtain rfl : f = 3 := Option.some.inj ((show Tryd.prog.funcNamed "callboy/callboylaw32.ConfigReads" = some 3 by kernel_rfl).symm.trans hf) |>.symm
      obtain rfl : fn = Tryd.f3 := (Option.some.inj (Tryd.func3.symm.trans hfn)).symm
      exact ⟨by kernel_rfl, fun j t ht => by
        rw [Tryd.params3] at ht
        have h3 : t = 9 := by
          rcases j with _ | j
          · simpa using ht.symm
          · simp at ht
        subst h3
        exact (show Tryd.prog.wantsStandIn 9 = false by kernel_rfl)⟩)
    (by kernel_rfl)
end Go.Proofs.YtfbllioegeadfaaDoor

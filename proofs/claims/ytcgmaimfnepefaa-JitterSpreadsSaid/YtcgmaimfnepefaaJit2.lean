/- jitter.Hint (needs Hash). -/
import Derived.Test.YtcgmaimfnepefaaJit
import Derived.Test.YtcgmaimfnepefaaHash
namespace Go.Proofs.Ytcgmaimfnepefaa
open Go.RowKit
set_option linter.unusedSimpArgs false
set_option linter.unusedVariables false
def jHint (lo hi : Nat → Int) (level draw : Int) : Int := if jMay lo hi level then lo level.toNat + hBelow draw (hi level.toNat - lo level.toNat + 1) else 0
theorem hBelow_pos {n m : Int} (h : 1 ≤ m) : hBelow n m = n % m := by unfold hBelow; rw [if_neg (by omega)]
theorem hBelow_bd {n m : Int} (h : 1 ≤ m) : 0 ≤ hBelow n m ∧ hBelow n m < m := by
  rw [hBelow_pos h]; exact ⟨Int.emod_nonneg _ (by omega), Int.emod_lt_of_pos _ (by omega)⟩
theorem jitter_Hint_any (lo hi : Nat → Int) (level draw : Int) (h0 : 0 ≤ draw) (h1 : draw ≤ 18446744073709551615) (w : World) :
    Calls Try.prog 10 #[confV lo hi, .int .i64 level, .int .u64 draw] w fun e w' => e = .returned (.int .i64 (jHint lo hi level draw)) ∧ Below w.heap.size w w' := by
  cases hm : jMay lo hi level
  · go_enter Try.func10, Try.ntmps10
    go_wp2_with fail
    refine (jitter_ends_no hm _).mono ?_; rintro e w2 ⟨rfl, hb2⟩
    go_wp2_with fail
    go_ret
    exact ⟨ret_int (by simp [jHint, hm]), by (repeat (first | with_reducible exact Below.refl _ _ | with_reducible assumption | with_reducible refine Below.drew ?_ | with_reducible refine Below.drewN ?_ _ | with_reducible refine Below.alloc1 ?_ _ | with_reducible refine Below.setCell1 ?_ (by first | omega | (simp; done) | (simp; omega)) _ | with_reducible refine Below.step ?_ (by with_reducible assumption)))⟩
  · obtain ⟨k, rfl, hk, hc⟩ := jMay_k hm
    have hr := jCheck_t hc hk
    have hb := hBelow_bd (n := draw) (show 1 ≤ hi k - lo k + 1 by omega)
    go_enter Try.func10, Try.ntmps10
    go_wp2_with fail
    refine (jitter_ends_yes hc hk rfl _).mono ?_; rintro e w2 ⟨rfl, hb2⟩
    go_wp2_with (go_at_call 20; refine (hash_Below_any _ _ h0 h1 (by omega) _).mono ?_; rintro e w' ⟨rfl, rfl⟩)
    go_ret
    exact ⟨ret_int (by simp only [jHint, hm, if_true, Int.toNat_natCast]), by (repeat (first | with_reducible exact Below.refl _ _ | with_reducible assumption | with_reducible refine Below.drew ?_ | with_reducible refine Below.drewN ?_ _ | with_reducible refine Below.alloc1 ?_ _ | with_reducible refine Below.setCell1 ?_ (by first | omega | (simp; done) | (simp; omega)) _ | with_reducible refine Below.step ?_ (by with_reducible assumption)))⟩
end Go.Proofs.Ytcgmaimfnepefaa

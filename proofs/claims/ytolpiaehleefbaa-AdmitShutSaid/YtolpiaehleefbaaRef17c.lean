/- callboyref17: Hint, Usual. -/
import Derived.Test.YtolpiaehleefbaaRef17
import Derived.Test.YtolpiaehleefbaaA3
namespace Go.Proofs.Ytolpiaehleefbaa
open Go.RowKit
set_option linter.unusedSimpArgs false
set_option linter.unusedVariables false

set_option maxHeartbeats 4000000 in
theorem r17_Hint_any (lo hi : Nat → Int) (level draw : Int) (h0 : 0 ≤ draw) (h1 : draw ≤ 18446744073709551615) (w : World) :
    Calls Try.prog 36 #[confV lo hi, .int .i64 level, .int .u64 draw] w fun e w' => e = .returned (.int .i64 (jHint lo hi level draw)) ∧ Below w.heap.size w w' := by
  cases hm : jMay lo hi level
  · have HM := hide hm
    have HR := hide (show jHint lo hi level draw = 0 from by simp [jHint, hm])
    clear hm
    go_enter Try.func36, Try.ntmps36
    go_wp2_with fail
    refine (r17_may_is HM.out _).mono ?_; rintro e w2 ⟨rfl, hb2⟩
    go_wp2_with fail
    go_ret
    exact ⟨ret_int HR.out.symm, by (repeat (first | with_reducible exact Below.refl _ _ | with_reducible assumption | with_reducible refine Below.drew ?_ | with_reducible refine Below.drewN ?_ _ | with_reducible refine Below.alloc1 ?_ _ | with_reducible refine Below.setCell1 ?_ (by first | omega | (simp; done) | (simp; omega)) _ | with_reducible refine Below.step ?_ (by with_reducible assumption)))⟩
  · obtain ⟨k, rfl, hk, hc⟩ := jMay_k hm
    have hr := jCheck_t hc hk
    have hb := hBelow_bd (n := draw) (show 1 ≤ hi k - lo k + 1 by omega)
    have HM := hide hm
    have HR := hide (show jHint lo hi k draw = lo k + hBelow draw (hi k - lo k + 1) from by simp only [jHint, hm, if_true, Int.toNat_natCast])
    have hB := fun W => rBelow_any draw (hi k - lo k + 1) h0 h1 (by omega) W
    have hW := fun W => r17_Width_yes hc hk W
    obtain ⟨m, hmd⟩ : ∃ m, hi k - lo k + 1 = m := ⟨_, rfl⟩
    rw [hmd] at hb hB HR hW
    generalize hBelow draw m = q at *
    have hs := IntWalk.i64_in (lo k + q) (by omega)
    have HW := hide hW
    clear hW hm hc hmd
    go_enter Try.func36, Try.ntmps36
    go_wp2_with fail
    generalize hV : World.alloc w _ = w1
    have hb1 : Below w.heap.size w w1 := by subst hV; (repeat (first | with_reducible exact Below.refl _ _ | with_reducible assumption | with_reducible refine Below.drew ?_ | with_reducible refine Below.drewN ?_ _ | with_reducible refine Below.alloc1 ?_ _ | with_reducible refine Below.setCell1 ?_ (by first | omega | (simp; done) | (simp; omega)) _ | with_reducible refine Below.step ?_ (by with_reducible assumption)))
    have k0 : Bk w1 w.heap.size 29 (confC lo hi) := by subst hV; (repeat (first | with_reducible exact Bk.new' _ _ _ _ (by simp; done) | with_reducible assumption | with_reducible refine Bk.alloc ?_ _ | with_reducible refine Bk.drew ?_ | with_reducible refine Bk.drewN ?_ _ | with_reducible refine Bk.step ?_ (by with_reducible assumption) | with_reducible refine Bk.far ?_ (by first | omega | (simp; done) | (simp; omega)) _))
    clear hV
    refine (r17_may_is HM.out _).mono ?_; rintro e w2 ⟨rfl, hb2⟩
    replace k0 := k0.step hb2
    replace hb1 : Below w.heap.size w w2 := hb1.step hb2
    clear hb2
    have k0_0 := k0.cell 0; have k0_f0 := k0.frozen 0; have k0_1 := k0.cell 1; have k0_f1 := k0.frozen 1; have k0_2 := k0.cell 2; have k0_f2 := k0.frozen 2; have k0_3 := k0.cell 3; have k0_f3 := k0.frozen 3; have k0_4 := k0.cell 4; have k0_f4 := k0.frozen 4; have k0_5 := k0.cell 5; have k0_f5 := k0.frozen 5; have k0_6 := k0.cell 6; have k0_f6 := k0.frozen 6; have k0_7 := k0.cell 7; have k0_f7 := k0.frozen 7; simp only [List.set_cons_zero, List.set_cons_succ, List.getElem?_cons_zero, List.getElem?_cons_succ] at k0_0 k0_1 k0_2 k0_3 k0_4 k0_5 k0_6 k0_7; have lt_k0 := k0.lt
    have c1 := lo_cell k0 hk
    have hki : (k : Int) < 4 := by omega
    go_wp2_with fail
    (refine wp_region_qb (by kernel_rfl) (by kernel_rfl) (fun kq => ?_); (try dsimp only [List.append]); (repeat (go_big_quiet_step ((first | (go_at_call 83; exact (HW.out _).qb) | (go_at_call 82; first | exact (hB _).qs | exact (hB _).qb))))); refine wpQuiet_nil ?_; intro wq hwq; have hbq := below_of_class hwq; clear hwq kq)
    go_wp2
    go_ret
    exact ⟨ret_int HR.out.symm, by (repeat (first | with_reducible exact Below.refl _ _ | with_reducible assumption | with_reducible refine Below.drew ?_ | with_reducible refine Below.drewN ?_ _ | with_reducible refine Below.alloc1 ?_ _ | with_reducible refine Below.setCell1 ?_ (by first | omega | (simp; done) | (simp; omega)) _ | with_reducible refine Below.step ?_ (by with_reducible assumption)))⟩
set_option maxRecDepth 100000 in
theorem r17_Usual_any (w : World) :
    Calls Try.prog 29 #[] w fun e w' => e = .returned (confV uLo uHi) ∧ Below w.heap.size w w' := by
  go_enter Try.func29, Try.ntmps29
  go_wp2
  exact bodyPost_ret (v := confV uLo uHi) (by simp only [confV, uLo, uHi]; simp only [results, Try.results29]; go_simp) rfl ⟨rfl, by (repeat (first | with_reducible exact Below.refl _ _ | with_reducible assumption | with_reducible refine Below.drew ?_ | with_reducible refine Below.drewN ?_ _ | with_reducible refine Below.alloc1 ?_ _ | with_reducible refine Below.setCell1 ?_ (by first | omega | (simp; done) | (simp; omega)) _ | with_reducible refine Below.step ?_ (by with_reducible assumption)))⟩
end Go.Proofs.Ytolpiaehleefbaa

/- Contracts of the reference of chapter 13: the same plain functions. -/
import Derived.Test.YtolpiaehleefbaaA1
namespace Go.Proofs.Ytolpiaehleefbaa
open Go.RowKit
set_option linter.unusedSimpArgs false
set_option linter.unusedVariables false

theorem r13_in_any (n a b : Int) (w : World) :
    Calls Try.prog 96 #[.int .i64 n, .int .i64 a, .int .i64 b] w fun e w' => e = .returned (.bool (bIn n a b)) ∧ w = w' := by
  by_cases h1 : a ≤ n <;> by_cases h2 : n ≤ b
  all_goals
    go_enter Try.func96, Try.ntmps96
    go_wp2
    go_ret
    exact ⟨ret_bool (by simp [bIn, *]), rfl⟩

theorem r13_held_any (n a b : Int) (hab : a ≤ b) (w : World) :
    Calls Try.prog 84 #[.int .i64 n, .int .i64 a, .int .i64 b] w fun e w' => e = .returned (.int .i64 (bHeld n a b)) ∧ w = w' := by
  go_enter Try.func84, Try.ntmps84
  go_wp2
  all_goals go_ret
  all_goals exact ⟨ret_int (by unfold bHeld; omega), rfl⟩

theorem r13_Check_any (b r : Int) (w : World) :
    Calls Try.prog 62 #[.agg #[.int .i64 b, .int .i64 r]] w fun e w' => e = .returned (.int .i64 (bCheck b r)) ∧ Below w.heap.size w w' := by
  cases h1 : bIn b 1 1000 <;> cases h2 : bIn r 0 1000
  all_goals
    go_enter Try.func62, Try.ntmps62
    go_wp2_with (go_at_call 96; refine (r13_in_any _ _ _ _).mono ?_; rintro e w' ⟨rfl, rfl⟩)
    go_ret
    exact ⟨ret_int (by simp [bCheck, bGood, h1, h2]), (Below.refl _ _).alloc (Nat.le_refl _) _⟩

theorem r13_Fine_any (b r t a : Int) (w : World) :
    Calls Try.prog 56 #[.agg #[.int .i64 b, .int .i64 r], .agg #[.int .i64 t, .int .i64 a]] w fun e w' => e = .returned (.bool (bFine b r t a)) ∧ Below w.heap.size w w' := by
  cases h1 : bGood b r <;> cases h2 : bIn t 0 b <;> cases h3 : bIn a 0 1099511627776
  all_goals
    have hc : Hid (bFine b r t a = (bGood b r && bIn t 0 b && bIn a 0 1099511627776)) := rfl
    have h4 : bCheck b r = if bGood b r then 0 else 8 := rfl
    rw [h1] at h4
    simp only [if_true, if_false, Bool.false_eq_true] at h4
    go_enter Try.func56, Try.ntmps56
    go_wp2_with fail
    refine (r13_Check_any _ _ _).mono ?_; rintro e w1 ⟨rfl, hb⟩
    obtain ⟨hc1, hf1⟩ := bcell hb
    go_wp2_with (go_at_call 96; refine (r13_in_any _ _ _ _).mono ?_; rintro e w' ⟨rfl, rfl⟩)
    go_ret
    exact ⟨ret_bool (by rw [hc.out, h1, h2, h3]; rfl), by (repeat (first | with_reducible exact Below.refl _ _ | with_reducible assumption | with_reducible refine Below.drew ?_ | with_reducible refine Below.drewN ?_ _ | with_reducible refine Below.alloc1 ?_ _ | with_reducible refine Below.setCell1 ?_ (by first | omega | (simp; done) | (simp; omega)) _ | with_reducible refine Below.step ?_ (by with_reducible assumption)))⟩
theorem r13_Fine_is {b r t a : Int} {v : Bool} (h : bFine b r t a = v) (w : World) :
    Calls Try.prog 56 #[.agg #[.int .i64 b, .int .i64 r], .agg #[.int .i64 t, .int .i64 a]] w fun e w' => e = .returned (.bool v) ∧ Below w.heap.size w w' := by
  subst h; exact r13_Fine_any b r t a w

theorem r13_Full_any (b r now : Int) (w : World) :
    Calls Try.prog 41 #[.agg #[.int .i64 b, .int .i64 r], .int .i64 now] w fun e w' => e = .returned (stV (b, bHeld now 0 1099511627776)) ∧ Below w.heap.size w w' := by
  go_enter Try.func41, Try.ntmps41
  go_wp2_with fail
  go_region_held3 (fun w' => w'.cell? ⟨w.heap.size, 0, none⟩ = some (.int .i64 b)) (go_keep) ((go_at_call 84; refine (r13_held_any _ _ _ (by omega) _).mono ?_; rintro e w' ⟨rfl, rfl⟩))
  go_wp2
  exact bodyPost_ret (v := stV (b, bHeld now 0 1099511627776)) (by simp [stV, results, Try.results41, go_sem]) rfl ⟨rfl, by (repeat (first | with_reducible exact Below.refl _ _ | with_reducible assumption | with_reducible refine Below.drew ?_ | with_reducible refine Below.drewN ?_ _ | with_reducible refine Below.alloc1 ?_ _ | with_reducible refine Below.setCell1 ?_ (by first | omega | (simp; done) | (simp; omega)) _ | with_reducible refine Below.step ?_ (by with_reducible assumption)))⟩

set_option maxHeartbeats 1000000 in
theorem r13_Level_any (b r t a now : Int) (w : World) :
    Calls Try.prog 50 #[.agg #[.int .i64 b, .int .i64 r], .agg #[.int .i64 t, .int .i64 a], .int .i64 now] w fun e w' => e = .returned (.int .i64 (bLevel b r t a now)) ∧ Below w.heap.size w w' := by
  have hL : Hid (bLevel b r t a now = if bFine b r t a then bT b r t a now else 0) := rfl
  cases hf : bFine b r t a
  · go_enter Try.func50, Try.ntmps50
    go_wp2_with fail
    refine (r13_Fine_any _ _ _ _ _).mono ?_; rintro e w1 ⟨rfl, hb⟩
    go_wp2_with fail
    go_ret
    exact ⟨ret_int (by rw [hL.out, hf]; rfl), by (repeat (first | with_reducible exact Below.refl _ _ | with_reducible assumption | with_reducible refine Below.drew ?_ | with_reducible refine Below.drewN ?_ _ | with_reducible refine Below.alloc1 ?_ _ | with_reducible refine Below.setCell1 ?_ (by first | omega | (simp; done) | (simp; omega)) _ | with_reducible refine Below.step ?_ (by with_reducible assumption)))⟩
  · obtain ⟨⟨hb, hr⟩, ht, ha⟩ := bFine_t hf
    have hA := bA_bd (now := now) ha.2
    have hm := mul_bd (x := bA a now - a) (y := r) (m := 1099511627776) (n := 1000) (by omega) (by omega) hr.1 hr.2
    have hT : Hid (bT b r t a now = min (t + (bA a now - a) * r) b) := rfl
    have hw1 : IntKind.i64.wrap (bA a now - a) = bA a now - a := IntWalk.i64_in _ (by omega)
    rw [Int.mul_comm] at hm
    have hw2 : IntKind.i64.wrap (r * (bA a now - a)) = r * (bA a now - a) := IntWalk.i64_in _ (by omega)
    have hw3 : IntKind.i64.wrap (t + r * (bA a now - a)) = t + r * (bA a now - a) := IntWalk.i64_in _ (by omega)
    have hF := hide hf
    by_cases hlt : t + r * (bA a now - a) < b
    all_goals
      go_enter Try.func50, Try.ntmps50
      go_wp2_with fail
      refine (r13_Fine_is hF.out _).mono ?_; rintro e w1 ⟨rfl, hb⟩
      obtain ⟨hc_hb, hf_hb⟩ := bcell hb; have hz_hb := hb.size; (try simp at hz_hb)
      have lt_w1 : w.heap.size < w1.heap.size ∧ w.heap.size + 1 < w1.heap.size := by omega
      go_wp2_with fail
      (refine wp_region_qb (by kernel_rfl) (by kernel_rfl) (fun kq => ?_); (try dsimp only [List.append]); (repeat (go_big_quiet_step ((go_at_call 84; exact ((r13_held_any _ _ _ (by omega) _).lit (v' := .int .i64 (bA a now)) rfl).qs)))); refine wpQuiet_nil ?_; intro wq hwq; have hbq := below_of_class hwq; clear hwq kq)
      go_wp2
      go_ret
      exact ⟨ret_int (by rw [hL.out, hF.out, if_pos rfl, hT.out, Int.mul_comm (bA a now - a) r]; omega), by (repeat (first | with_reducible exact Below.refl _ _ | with_reducible assumption | with_reducible refine Below.drew ?_ | with_reducible refine Below.drewN ?_ _ | with_reducible refine Below.alloc1 ?_ _ | with_reducible refine Below.setCell1 ?_ (by first | omega | (simp; done) | (simp; omega)) _ | with_reducible refine Below.step ?_ (by with_reducible assumption)))⟩
end Go.Proofs.Ytolpiaehleefbaa

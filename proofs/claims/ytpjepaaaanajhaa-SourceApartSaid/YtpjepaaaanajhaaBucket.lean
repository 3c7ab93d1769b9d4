/- Contracts of package bucket: each function computes the plain function of the same name below. -/
import Derived.Test.YtpjepaaaanajhaaRows
import Derived.Test.YtpjepaaaanajhaaMem
import Derived.Deep.RegionHeld3
namespace Go.Proofs.Ytpjepaaaanajhaa
open Go.RowKit
set_option linter.unusedSimpArgs false
set_option linter.unusedVariables false

/-! The plain functions. -/

def bIn (n a b : Int) : Bool := decide (a ≤ n) && decide (n ≤ b)
def bGood (b r : Int) : Bool := bIn b 1 1000 && bIn r 0 1000
def bCheck (b r : Int) : Int := if bGood b r then 0 else 8
def bFine (b r t a : Int) : Bool := bGood b r && bIn t 0 b && bIn a 0 1099511627776
def bHeld (n a b : Int) : Int := min (max n a) b
def bA (a now : Int) : Int := bHeld now a 1099511627776
def bT (b r t a now : Int) : Int := min (t + (bA a now - a) * r) b
def bLevel (b r t a now : Int) : Int := if bFine b r t a then bT b r t a now else 0
/-- tokens and tick behind, and whether they were taken -/
def bTake (b r t a now n : Int) : (Int × Int) × Bool := if n < 0 ∨ bFine b r t a = false ∨ bT b r t a now < n then ((t, a), false) else ((bT b r t a now - n, bA a now), true)
def bMost (b r n : Int) : Int := if bGood b r then b + bHeld n 0 1073741824 * r else 0
def stV (s : Int × Int) : Value := .agg #[.int .i64 s.1, .int .i64 s.2]
theorem bIn_t {n a b : Int} (h : bIn n a b = true) : a ≤ n ∧ n ≤ b := by simpa [bIn] using h
theorem bGood_t {b r : Int} (h : bGood b r = true) : (1 ≤ b ∧ b ≤ 1000) ∧ 0 ≤ r ∧ r ≤ 1000 := by
  simp only [bGood, Bool.and_eq_true] at h; exact ⟨bIn_t h.1, bIn_t h.2⟩
theorem bFine_t {b r t a : Int} (h : bFine b r t a = true) : ((1 ≤ b ∧ b ≤ 1000) ∧ 0 ≤ r ∧ r ≤ 1000) ∧ (0 ≤ t ∧ t ≤ b) ∧ 0 ≤ a ∧ a ≤ 1099511627776 := by
  simp only [bFine, Bool.and_eq_true] at h; exact ⟨bGood_t h.1.1, bIn_t h.1.2, bIn_t h.2⟩

theorem bucket_in_any (n a b : Int) (w : World) :
    Calls Try.prog 57 #[.int .i64 n, .int .i64 a, .int .i64 b] w fun e w' => e = .returned (.bool (bIn n a b)) ∧ w = w' := by
  by_cases h1 : a ≤ n <;> by_cases h2 : n ≤ b
  all_goals
    go_enter Try.func57, Try.ntmps57
    go_wp2
    go_ret
    exact ⟨ret_bool (by simp [bIn, *]), rfl⟩

theorem bucket_held_any (n a b : Int) (w : World) :
    Calls Try.prog 48 #[.int .i64 n, .int .i64 a, .int .i64 b] w fun e w' => e = .returned (.int .i64 (bHeld n a b)) ∧ w = w' := by
  go_enter Try.func48, Try.ntmps48
  go_wp2
  all_goals go_ret
  all_goals exact ⟨ret_int (by unfold bHeld; omega), rfl⟩

theorem bucket_Check_any (b r : Int) (w : World) :
    Calls Try.prog 41 #[.agg #[.int .i64 b, .int .i64 r]] w fun e w' => e = .returned (.int .i64 (bCheck b r)) ∧ Below w.heap.size w w' := by
  cases h1 : bIn b 1 1000 <;> cases h2 : bIn r 0 1000
  all_goals
    go_enter Try.func41, Try.ntmps41
    go_wp2_with (go_at_call 57; refine (bucket_in_any _ _ _ _).mono ?_; rintro e w' ⟨rfl, rfl⟩)
    go_ret
    exact ⟨ret_int (by simp [bCheck, bGood, h1, h2]), (Below.refl _ _).alloc (Nat.le_refl _) _⟩

theorem bucket_Fine_any (b r t a : Int) (w : World) :
    Calls Try.prog 44 #[.agg #[.int .i64 b, .int .i64 r], .agg #[.int .i64 t, .int .i64 a]] w fun e w' => e = .returned (.bool (bFine b r t a)) ∧ Below w.heap.size w w' := by
  cases h1 : bGood b r <;> cases h2 : bIn t 0 b <;> cases h3 : bIn a 0 1099511627776
  all_goals
    have hc : Hid (bFine b r t a = (bGood b r && bIn t 0 b && bIn a 0 1099511627776)) := rfl
    have h4 : bCheck b r = if bGood b r then 0 else 8 := rfl
    rw [h1] at h4
    simp only [if_true, if_false, Bool.false_eq_true] at h4
    go_enter Try.func44, Try.ntmps44
    go_wp2_with fail
    refine (bucket_Check_any _ _ _).mono ?_; rintro e w1 ⟨rfl, hb⟩
    obtain ⟨hc1, hf1⟩ := bcell hb
    go_wp2_with (go_at_call 57; refine (bucket_in_any _ _ _ _).mono ?_; rintro e w' ⟨rfl, rfl⟩)
    go_ret
    exact ⟨ret_bool (by rw [hc.out, h1, h2, h3]; rfl), by (repeat (first | with_reducible exact Below.refl _ _ | with_reducible assumption | with_reducible refine Below.drew ?_ | with_reducible refine Below.drewN ?_ _ | with_reducible refine Below.alloc1 ?_ _ | with_reducible refine Below.setCell1 ?_ (by first | omega | (simp; done) | (simp; omega)) _ | with_reducible refine Below.step ?_ (by with_reducible assumption)))⟩
theorem bHeld_bd {n a b : Int} (h : a ≤ b) : a ≤ bHeld n a b ∧ bHeld n a b ≤ b := by unfold bHeld; omega
theorem bA_bd {a now : Int} (h : a ≤ 1099511627776) : a ≤ bA a now ∧ bA a now ≤ 1099511627776 := bHeld_bd h
theorem mul_bd {x y m n : Int} (hx : 0 ≤ x) (hx' : x ≤ m) (hy : 0 ≤ y) (hy' : y ≤ n) : 0 ≤ x * y ∧ x * y ≤ m * n :=
  ⟨Int.mul_nonneg hx hy, Int.le_trans (Int.mul_le_mul_of_nonneg_right hx' hy) (Int.mul_le_mul_of_nonneg_left hy' (by omega))⟩

theorem bucket_filled_any (b r t a now : Int) (h : bFine b r t a = true) (w : World) :
    Calls Try.prog 49 #[.agg #[.int .i64 t, .int .i64 a], .agg #[.int .i64 b, .int .i64 r], .int .i64 now] w fun e w' => e = .returned (stV (bT b r t a now, bA a now)) ∧ Below w.heap.size w w' := by
  obtain ⟨⟨hb, hr⟩, ht, ha⟩ := bFine_t h
  have hA := bA_bd (now := now) ha.2
  have hm := mul_bd (x := bA a now - a) (y := r) (m := 1099511627776) (n := 1000) (by omega) (by omega) hr.1 hr.2
  have hT : Hid (bT b r t a now = min (t + (bA a now - a) * r) b) := rfl
  clear h
  by_cases hlt : b < t + (bA a now - a) * r
  all_goals
    go_enter Try.func49, Try.ntmps49
    go_wp2_with (go_at_call 48; refine (bucket_held_any _ _ _ _).mono ?_; rw [show bHeld now a 1099511627776 = bA a now from rfl]; rintro e w' ⟨rfl, rfl⟩)
    exact bodyPost_ret (v := stV (bT b r t a now, bA a now)) (by rw [stV, hT.out]; simp [results, Try.results49, go_sem]; omega) rfl ⟨rfl, by (repeat (first | with_reducible exact Below.refl _ _ | with_reducible assumption | with_reducible refine Below.drew ?_ | with_reducible refine Below.drewN ?_ _ | with_reducible refine Below.alloc1 ?_ _ | with_reducible refine Below.setCell1 ?_ (by first | omega | (simp; done) | (simp; omega)) _ | with_reducible refine Below.step ?_ (by with_reducible assumption)))⟩

theorem bucket_Full_any (b r now : Int) (w : World) :
    Calls Try.prog 24 #[.agg #[.int .i64 b, .int .i64 r], .int .i64 now] w fun e w' => e = .returned (stV (b, bHeld now 0 1099511627776)) ∧ Below w.heap.size w w' := by
  go_enter Try.func24, Try.ntmps24
  go_wp2_with fail
  go_region_held3 (fun w' => w'.cell? ⟨w.heap.size, 0, none⟩ = some (.int .i64 b)) (go_keep) ((go_at_call 48; refine (bucket_held_any _ _ _ _).mono ?_; rintro e w' ⟨rfl, rfl⟩))
  go_wp2
  exact bodyPost_ret (v := stV (b, bHeld now 0 1099511627776)) (by simp [stV, results, Try.results24, go_sem]) rfl ⟨rfl, by (repeat (first | with_reducible exact Below.refl _ _ | with_reducible assumption | with_reducible refine Below.drew ?_ | with_reducible refine Below.drewN ?_ _ | with_reducible refine Below.alloc1 ?_ _ | with_reducible refine Below.setCell1 ?_ (by first | omega | (simp; done) | (simp; omega)) _ | with_reducible refine Below.step ?_ (by with_reducible assumption)))⟩
end Go.Proofs.Ytpjepaaaanajhaa

import Derived.Test.YtolpiaehleefbaaRows
import Derived.Test.YtolpiaehleefbaaA0
import Derived.Deep.RegionHeld3
/- Contracts of package bucket: each function computes the plain function of the same name below. -/
namespace Go.Proofs.Ytolpiaehleefbaa
open Go.RowKit
set_option linter.unusedSimpArgs false
set_option linter.unusedVariables false

/-! The plain functions. -/

def bIn (n a b : Int) : Bool := decide (a ≤ n) && decide (n ≤ b)
def bGood (b r : Int) : Bool := bIn b 1 1000 && bIn r 0 1000
def bCheck (b r : Int) : Int := if bGood b r then 0 else 8
def bFine (b r t a : Int) : Bool := bGood b r && bIn t 0 b && bIn a 0 1099511627776
def bHeld (n a b : Int) : Int := min (max n a) b
def bA (a now : Int) : Int := bHeld now a 1099511627776
def bT (b r t a now : Int) : Int := min (t + (bA a now - a) * r) b
def bLevel (b r t a now : Int) : Int := if bFine b r t a then bT b r t a now else 0
/-- tokens and tick behind, and whether they were taken -/
def bTake (b r t a now n : Int) : (Int × Int) × Bool := if n < 0 ∨ bFine b r t a = false ∨ bT b r t a now < n then ((t, a), false) else ((bT b r t a now - n, bA a now), true)
def bMost (b r n : Int) : Int := if bGood b r then b + bHeld n 0 1073741824 * r else 0
def stV (s : Int × Int) : Value := .agg #[.int .i64 s.1, .int .i64 s.2]
theorem bIn_t {n a b : Int} (h : bIn n a b = true) : a ≤ n ∧ n ≤ b := by simpa [bIn] using h
theorem bGood_t {b r : Int} (h : bGood b r = true) : (1 ≤ b ∧ b ≤ 1000) ∧ 0 ≤ r ∧ r ≤ 1000 := by
  simp only [bGood, Bool.and_eq_true] at h; exact ⟨bIn_t h.1, bIn_t h.2⟩
theorem bFine_t {b r t a : Int} (h : bFine b r t a = true) : ((1 ≤ b ∧ b ≤ 1000) ∧ 0 ≤ r ∧ r ≤ 1000) ∧ (0 ≤ t ∧ t ≤ b) ∧ 0 ≤ a ∧ a ≤ 1099511627776 := by
  simp only [bFine, Bool.and_eq_true] at h; exact ⟨bGood_t h.1.1, bIn_t h.1.2, bIn_t h.2⟩

theorem bucket_in_any (n a b : Int) (w : World) :
    Calls Try.prog 93 #[.int .i64 n, .int .i64 a, .int .i64 b] w fun e w' => e = .returned (.bool (bIn n a b)) ∧ w = w' := by
  by_cases h1 : a ≤ n <;> by_cases h2 : n ≤ b
  all_goals
    go_enter Try.func93, Try.ntmps93
    go_wp2
    go_ret
    exact ⟨ret_bool (by simp [bIn, *]), rfl⟩

theorem bucket_held_any (n a b : Int) (w : World) :
    Calls Try.prog 87 #[.int .i64 n, .int .i64 a, .int .i64 b] w fun e w' => e = .returned (.int .i64 (bHeld n a b)) ∧ w = w' := by
  go_enter Try.func87, Try.ntmps87
  go_wp2
  all_goals go_ret
  all_goals exact ⟨ret_int (by unfold bHeld; omega), rfl⟩

theorem bucket_Check_any (b r : Int) (w : World) :
    Calls Try.prog 59 #[.agg #[.int .i64 b, .int .i64 r]] w fun e w' => e = .returned (.int .i64 (bCheck b r)) ∧ Below w.heap.size w w' := by
  cases h1 : bIn b 1 1000 <;> cases h2 : bIn r 0 1000
  all_goals
    go_enter Try.func59, Try.ntmps59
    go_wp2_with (go_at_call 93; refine (bucket_in_any _ _ _ _).mono ?_; rintro e w' ⟨rfl, rfl⟩)
    go_ret
    exact ⟨ret_int (by simp [bCheck, bGood, h1, h2]), (Below.refl _ _).alloc (Nat.le_refl _) _⟩

theorem bucket_Fine_any (b r t a : Int) (w : World) :
    Calls Try.prog 54 #[.agg #[.int .i64 b, .int .i64 r], .agg #[.int .i64 t, .int .i64 a]] w fun e w' => e = .returned (.bool (bFine b r t a)) ∧ Below w.heap.size w w' := by
  cases h1 : bGood b r <;> cases h2 : bIn t 0 b <;> cases h3 : bIn a 0 1099511627776
  all_goals
    have hc : Hid (bFine b r t a = (bGood b r && bIn t 0 b && bIn a 0 1099511627776)) := rfl
    have h4 : bCheck b r = if bGood b r then 0 else 8 := rfl
    rw [h1] at h4
    simp only [if_true, if_false, Bool.false_eq_true] at h4
    go_enter Try.func54, Try.ntmps54
    go_wp2_with fail
    refine (bucket_Check_any _ _ _).mono ?_; rintro e w1 ⟨rfl, hb⟩
    obtain ⟨hc1, hf1⟩ := bcell hb
    go_wp2_with (go_at_call 93; refine (bucket_in_any _ _ _ _).mono ?_; rintro e w' ⟨rfl, rfl⟩)
    go_ret
    exact ⟨ret_bool (by rw [hc.out, h1, h2, h3]; rfl), by (repeat (first | with_reducible exact Below.refl _ _ | with_reducible assumption | with_reducible refine Below.drew ?_ | with_reducible refine Below.drewN ?_ _ | with_reducible refine Below.alloc1 ?_ _ | with_reducible refine Below.setCell1 ?_ (by first | omega | (simp; done) | (simp; omega)) _ | with_reducible refine Below.step ?_ (by with_reducible assumption)))⟩
theorem bHeld_bd {n a b : Int} (h : a ≤ b) : a ≤ bHeld n a b ∧ bHeld n a b ≤ b := by unfold bHeld; omega
theorem bA_bd {a now : Int} (h : a ≤ 1099511627776) : a ≤ bA a now ∧ bA a now ≤ 1099511627776 := bHeld_bd h
theorem mul_bd {x y m n : Int} (hx : 0 ≤ x) (hx' : x ≤ m) (hy : 0 ≤ y) (hy' : y ≤ n) : 0 ≤ x * y ∧ x * y ≤ m * n :=
  ⟨Int.mul_nonneg hx hy, Int.le_trans (Int.mul_le_mul_of_nonneg_right hx' hy) (Int.mul_le_mul_of_nonneg_left hy' (by omega))⟩

theorem bucket_filled_any (b r t a now : Int) (h : bFine b r t a = true) (w : World) :
    Calls Try.prog 72 #[.agg #[.int .i64 t, .int .i64 a], .agg #[.int .i64 b, .int .i64 r], .int .i64 now] w fun e w' => e = .returned (stV (bT b r t a now, bA a now)) ∧ Below w.heap.size w w' := by
  obtain ⟨⟨hb, hr⟩, ht, ha⟩ := bFine_t h
  have hA := bA_bd (now := now) ha.2
  have hm := mul_bd (x := bA a now - a) (y := r) (m := 1099511627776) (n := 1000) (by omega) (by omega) hr.1 hr.2
  have hT : Hid (bT b r t a now = min (t + (bA a now - a) * r) b) := rfl
  clear h
  by_cases hlt : b < t + (bA a now - a) * r
  all_goals
    go_enter Try.func72, Try.ntmps72
    go_wp2_with (go_at_call 87; refine (bucket_held_any _ _ _ _).mono ?_; rw [show bHeld now a 1099511627776 = bA a now from rfl]; rintro e w' ⟨rfl, rfl⟩)
    exact bodyPost_ret (v := stV (bT b r t a now, bA a now)) (by rw [stV, hT.out]; simp [results, Try.results72, go_sem]; omega) rfl ⟨rfl, by (repeat (first | with_reducible exact Below.refl _ _ | with_reducible assumption | with_reducible refine Below.drew ?_ | with_reducible refine Below.drewN ?_ _ | with_reducible refine Below.alloc1 ?_ _ | with_reducible refine Below.setCell1 ?_ (by first | omega | (simp; done) | (simp; omega)) _ | with_reducible refine Below.step ?_ (by with_reducible assumption)))⟩

theorem bucket_Full_any (b r now : Int) (w : World) :
    Calls Try.prog 39 #[.agg #[.int .i64 b, .int .i64 r], .int .i64 now] w fun e w' => e = .returned (stV (b, bHeld now 0 1099511627776)) ∧ Below w.heap.size w w' := by
  go_enter Try.func39, Try.ntmps39
  go_wp2_with fail
  go_region_held3 (fun w' => w'.cell? ⟨w.heap.size, 0, none⟩ = some (.int .i64 b)) (go_keep) ((go_at_call 87; refine (bucket_held_any _ _ _ _).mono ?_; rintro e w' ⟨rfl, rfl⟩))
  go_wp2
  exact bodyPost_ret (v := stV (b, bHeld now 0 1099511627776)) (by simp [stV, results, Try.results39, go_sem]) rfl ⟨rfl, by (repeat (first | with_reducible exact Below.refl _ _ | with_reducible assumption | with_reducible refine Below.drew ?_ | with_reducible refine Below.drewN ?_ _ | with_reducible refine Below.alloc1 ?_ _ | with_reducible refine Below.setCell1 ?_ (by first | omega | (simp; done) | (simp; omega)) _ | with_reducible refine Below.step ?_ (by with_reducible assumption)))⟩
end Go.Proofs.Ytolpiaehleefbaa

/- Contracts of package bucket, further: Level, Take, Wait, Most, Same. -/
namespace Go.Proofs.Ytolpiaehleefbaa
open Go.RowKit
set_option linter.unusedSimpArgs false
set_option linter.unusedVariables false

theorem fld_bState0 (x y : Value) (w : World) : (Instr.field 46 (.agg #[x, y]) 0).run Try.prog w = .ok x w := by kernel_rfl
theorem bucket_Level_any (b r t a now : Int) (w : World) :
    Calls Try.prog 47 #[.agg #[.int .i64 b, .int .i64 r], .agg #[.int .i64 t, .int .i64 a], .int .i64 now] w fun e w' => e = .returned (.int .i64 (bLevel b r t a now)) ∧ Below w.heap.size w w' := by
  have hL : Hid (bLevel b r t a now = if bFine b r t a then bT b r t a now else 0) := rfl
  cases hf : bFine b r t a
  · go_enter Try.func47, Try.ntmps47
    go_wp2_with fail
    refine (bucket_Fine_any _ _ _ _ _).mono ?_; rintro e w1 ⟨rfl, hb⟩
    go_wp2_with fail
    go_ret
    exact ⟨ret_int (by rw [hL.out, hf]; rfl), by (repeat (first | with_reducible exact Below.refl _ _ | with_reducible assumption | with_reducible refine Below.drew ?_ | with_reducible refine Below.drewN ?_ _ | with_reducible refine Below.alloc1 ?_ _ | with_reducible refine Below.setCell1 ?_ (by first | omega | (simp; done) | (simp; omega)) _ | with_reducible refine Below.step ?_ (by with_reducible assumption)))⟩
  · have fld := fld_bState0
    go_enter Try.func47, Try.ntmps47
    go_wp2_with fail
    refine (bucket_Fine_any _ _ _ _ _).mono ?_; rintro e w1 ⟨rfl, hb⟩
    obtain ⟨hc_hb, hf_hb⟩ := bcell hb; have hz_hb := hb.size; (try simp at hz_hb)
    go_wp2_with fail
    refine (bucket_filled_any _ _ _ _ _ hf _).mono ?_; rintro e w2 ⟨rfl, hb2⟩
    unfold stV
    go_wp2_with fail
    go_ret
    exact ⟨ret_int (by rw [hL.out, hf]; rfl), by (repeat (first | with_reducible exact Below.refl _ _ | with_reducible assumption | with_reducible refine Below.drew ?_ | with_reducible refine Below.drewN ?_ _ | with_reducible refine Below.alloc1 ?_ _ | with_reducible refine Below.setCell1 ?_ (by first | omega | (simp; done) | (simp; omega)) _ | with_reducible refine Below.step ?_ (by with_reducible assumption)))⟩

def bTakeV (x : (Int × Int) × Bool) : Value := .tuple #[stV x.1, .bool x.2]
theorem bucket_Take_any (b r t a now n : Int) (hn : -9223372036854775808 ≤ n) (w : World) :
    Calls Try.prog 31 #[.agg #[.int .i64 b, .int .i64 r], .agg #[.int .i64 t, .int .i64 a], .int .i64 now, .int .i64 n] w fun e w' => e = .returned (bTakeV (bTake b r t a now n)) ∧ Below w.heap.size w w' := by
  have hT : Hid (bTake b r t a now n = if n < 0 ∨ bFine b r t a = false ∨ bT b r t a now < n then ((t, a), false) else ((bT b r t a now - n, bA a now), true)) := rfl
  by_cases hn0 : n < 0
  · go_enter Try.func31, Try.ntmps31
    go_wp2_with fail
    exact bodyPost_ret (v := bTakeV (bTake b r t a now n)) (by rw [hT.out, if_pos (.inl hn0)] <;> simp only [bTakeV, stV]; simp only [results, Try.results31]; go_simp) rfl ⟨rfl, by (repeat (first | with_reducible exact Below.refl _ _ | with_reducible assumption | with_reducible refine Below.drew ?_ | with_reducible refine Below.drewN ?_ _ | with_reducible refine Below.alloc1 ?_ _ | with_reducible refine Below.setCell1 ?_ (by first | omega | (simp; done) | (simp; omega)) _ | with_reducible refine Below.step ?_ (by with_reducible assumption)))⟩
  · cases hf : bFine b r t a
    · go_enter Try.func31, Try.ntmps31
      go_wp2_with fail
      refine (bucket_Fine_any _ _ _ _ _).mono ?_; rintro e w1 ⟨rfl, hb⟩
      obtain ⟨hc_hb, hf_hb⟩ := bcell hb; have hz_hb := hb.size; (try simp at hz_hb)
      go_wp2_with fail
      exact bodyPost_ret (v := bTakeV (bTake b r t a now n)) (by rw [hT.out, if_pos (.inr (.inl hf))] <;> simp only [bTakeV, stV]; simp only [results, Try.results31]; go_simp) rfl ⟨rfl, by (repeat (first | with_reducible exact Below.refl _ _ | with_reducible assumption | with_reducible refine Below.drew ?_ | with_reducible refine Below.drewN ?_ _ | with_reducible refine Below.alloc1 ?_ _ | with_reducible refine Below.setCell1 ?_ (by first | omega | (simp; done) | (simp; omega)) _ | with_reducible refine Below.step ?_ (by with_reducible assumption)))⟩
    · by_cases hlt : bT b r t a now < n
      · go_enter Try.func31, Try.ntmps31
        go_wp2_with fail
        refine (bucket_Fine_any _ _ _ _ _).mono ?_; rintro e w1 ⟨rfl, hb⟩
        obtain ⟨hc_hb, hf_hb⟩ := bcell hb; have hz_hb := hb.size; (try simp at hz_hb)
        go_wp2_with fail
        refine (bucket_filled_any _ _ _ _ _ hf _).mono ?_; rintro e w2 ⟨rfl, hb2⟩
        obtain ⟨hc_hb2, hf_hb2⟩ := bcell hb2; have hz_hb2 := hb2.size; (try simp at hz_hb2)
        have lt_w1 : w.heap.size < w1.heap.size ∧ w.heap.size + 1 < w1.heap.size ∧ w.heap.size + 1 + 1 < w1.heap.size := by omega
        have lt_w2 : w.heap.size < w2.heap.size ∧ w.heap.size + 1 < w2.heap.size ∧ w.heap.size + 1 + 1 < w2.heap.size := by omega
        unfold stV
        go_wp2_with fail
        exact bodyPost_ret (v := bTakeV (bTake b r t a now n)) (by rw [hT.out, if_pos (.inr (.inr hlt))] <;> simp only [bTakeV, stV]; simp only [results, Try.results31]; go_simp) rfl ⟨rfl, by (repeat (first | with_reducible exact Below.refl _ _ | with_reducible assumption | with_reducible refine Below.drew ?_ | with_reducible refine Below.drewN ?_ _ | with_reducible refine Below.alloc1 ?_ _ | with_reducible refine Below.setCell1 ?_ (by first | omega | (simp; done) | (simp; omega)) _ | with_reducible refine Below.step ?_ (by with_reducible assumption)))⟩
      · go_enter Try.func31, Try.ntmps31
        have hbd := bFine_t hf
        have hTb : bT b r t a now ≤ 1000 := by unfold bT; omega
        go_wp2_with fail
        refine (bucket_Fine_any _ _ _ _ _).mono ?_; rintro e w1 ⟨rfl, hb⟩
        obtain ⟨hc_hb, hf_hb⟩ := bcell hb; have hz_hb := hb.size; (try simp at hz_hb)
        go_wp2_with fail
        refine (bucket_filled_any _ _ _ _ _ hf _).mono ?_; rintro e w2 ⟨rfl, hb2⟩
        obtain ⟨hc_hb2, hf_hb2⟩ := bcell hb2; have hz_hb2 := hb2.size; (try simp at hz_hb2)
        have lt_w1 : w.heap.size < w1.heap.size ∧ w.heap.size + 1 < w1.heap.size ∧ w.heap.size + 1 + 1 < w1.heap.size := by omega
        have lt_w2 : w.heap.size < w2.heap.size ∧ w.heap.size + 1 < w2.heap.size ∧ w.heap.size + 1 + 1 < w2.heap.size := by omega
        unfold stV
        go_wp2_with fail
        exact bodyPost_ret (v := bTakeV (bTake b r t a now n)) (by rw [hT.out, if_neg (by simp [hf]; omega)] <;> simp only [bTakeV, stV]; simp only [results, Try.results31]; go_simp) rfl ⟨rfl, by (repeat (first | with_reducible exact Below.refl _ _ | with_reducible assumption | with_reducible refine Below.drew ?_ | with_reducible refine Below.drewN ?_ _ | with_reducible refine Below.alloc1 ?_ _ | with_reducible refine Below.setCell1 ?_ (by first | omega | (simp; done) | (simp; omega)) _ | with_reducible refine Below.step ?_ (by with_reducible assumption)))⟩
end Go.Proofs.Ytolpiaehleefbaa

/- Contracts of package bucket, further: Wait, Most, Same. -/
namespace Go.Proofs.Ytolpiaehleefbaa
open Go.RowKit
set_option linter.unusedSimpArgs false
set_option linter.unusedVariables false

def bWait (b r t a now n : Int) : Int :=
  if n < 0 ∨ bFine b r t a = false ∨ b < n then -1 else if n - bT b r t a now ≤ 0 then 0 else if r = 0 then -1 else (n - bT b r t a now + r - 1) / r
def bSame (b r t a t' a' now : Int) : Bool := bFine b r t a && bFine b r t' a' && (bLevel b r t a now == bLevel b r t' a' now)

theorem bT_bd {b r t a now : Int} (h : bFine b r t a = true) : 0 ≤ bT b r t a now ∧ bT b r t a now ≤ b := by
  obtain ⟨⟨hb, hr⟩, ht, ha⟩ := bFine_t h
  have hA := bA_bd (now := now) ha.2
  have hm := mul_bd (x := bA a now - a) (y := r) (m := 1099511627776) (n := 1000) (by omega) (by omega) hr.1 hr.2
  unfold bT; omega
theorem bLevel_f {b r t a now : Int} (h : bFine b r t a = true) : bLevel b r t a now = bT b r t a now := by unfold bLevel; rw [h]; rfl

theorem bucket_Most_any (b r n : Int) (w : World) :
    Calls Try.prog 100 #[.agg #[.int .i64 b, .int .i64 r], .int .i64 n] w fun e w' => e = .returned (.int .i64 (bMost b r n)) ∧ Below w.heap.size w w' := by
  have hM : Hid (bMost b r n = if bGood b r then b + bHeld n 0 1073741824 * r else 0) := rfl
  have h4 : bCheck b r = if bGood b r then 0 else 8 := rfl
  cases hg : bGood b r
  · rw [hg] at h4
    simp only [if_true, if_false, Bool.false_eq_true] at h4
    go_enter Try.func100, Try.ntmps100
    go_wp2_with fail
    refine (bucket_Check_any _ _ _).mono ?_; rintro e w1 ⟨rfl, hb⟩
    obtain ⟨hc_hb, hf_hb⟩ := bcell hb; have hz_hb := hb.size; (try simp at hz_hb)
    have lt_w1 : w.heap.size < w1.heap.size := by omega
    go_wp2_with fail
    go_ret
    exact ⟨ret_int (by rw [hM.out, hg]; rfl), by (repeat (first | with_reducible exact Below.refl _ _ | with_reducible assumption | with_reducible refine Below.drew ?_ | with_reducible refine Below.drewN ?_ _ | with_reducible refine Below.alloc1 ?_ _ | with_reducible refine Below.setCell1 ?_ (by first | omega | (simp; done) | (simp; omega)) _ | with_reducible refine Below.step ?_ (by with_reducible assumption)))⟩
  · rw [hg] at h4
    simp only [if_true, if_false, Bool.false_eq_true] at h4
    have hbd := bGood_t hg
    have hh := bHeld_bd (n := n) (show (0 : Int) ≤ 1073741824 by omega)
    have hm := mul_bd hh.1 hh.2 hbd.2.1 hbd.2.2
    have hw1 : IntKind.i64.wrap (bHeld n 0 1073741824 * r) = bHeld n 0 1073741824 * r := IntWalk.i64_in _ (by omega)
    have hw2 : IntKind.i64.wrap (b + bHeld n 0 1073741824 * r) = b + bHeld n 0 1073741824 * r := IntWalk.i64_in _ (by omega)
    go_enter Try.func100, Try.ntmps100
    go_wp2_with fail
    refine (bucket_Check_any _ _ _).mono ?_; rintro e w1 ⟨rfl, hb⟩
    obtain ⟨hc_hb, hf_hb⟩ := bcell hb; have hz_hb := hb.size; (try simp at hz_hb)
    have lt_w1 : w.heap.size < w1.heap.size := by omega
    go_wp2_with fail
    go_quiet ((go_at_call 87; exact quiet_left (bucket_held_any _ _ _ _)))
    go_wp2
    go_ret
    exact ⟨ret_int (by rw [hM.out, hg]; rfl), by (repeat (first | with_reducible exact Below.refl _ _ | with_reducible assumption | with_reducible refine Below.drew ?_ | with_reducible refine Below.drewN ?_ _ | with_reducible refine Below.alloc1 ?_ _ | with_reducible refine Below.setCell1 ?_ (by first | omega | (simp; done) | (simp; omega)) _ | with_reducible refine Below.step ?_ (by with_reducible assumption)))⟩

theorem bucket_Fine_is {b r t a : Int} {v : Bool} (h : bFine b r t a = v) (w : World) :
    Calls Try.prog 54 #[.agg #[.int .i64 b, .int .i64 r], .agg #[.int .i64 t, .int .i64 a]] w fun e w' => e = .returned (.bool v) ∧ Below w.heap.size w w' := by
  subst h; exact bucket_Fine_any b r t a w

end Go.Proofs.Ytolpiaehleefbaa

/- bucket.Run: a closure takes a token of a bucket at each tick. -/
namespace Go.Proofs.Ytolpiaehleefbaa
open Go.RowKit
set_option linter.unusedSimpArgs false
set_option linter.unusedVariables false

theorem bucket_Take_tup (b r t a now n : Int) (hn : -9223372036854775808 ≤ n) (w : World) :
    Calls Try.prog 31 #[.agg #[.int .i64 b, .int .i64 r], .agg #[.int .i64 t, .int .i64 a], .int .i64 now, .int .i64 n] w fun e w' =>
      e = .returned (.tuple #[.agg #[.int .i64 (bTake b r t a now n).1.1, .int .i64 (bTake b r t a now n).1.2], .bool (bTake b r t a now n).2]) ∧ Below w.heap.size w w' := bucket_Take_any b r t a now n hn w
end Go.Proofs.Ytolpiaehleefbaa

/- Buckets, the plain law (as for chapter 13): what is taken is no more than the burst and what came in. -/
namespace Go.Proofs.Ytolpiaehleefbaa
open Go.RowKit
set_option linter.unusedSimpArgs false
set_option linter.unusedVariables false

theorem bIn_mk {n a b : Int} (h1 : a ≤ n) (h2 : n ≤ b) : bIn n a b = true := by simp [bIn, h1, h2]
theorem bGood_mk {b r : Int} (h1 : 1 ≤ b) (h2 : b ≤ 1000) (h3 : 0 ≤ r) (h4 : r ≤ 1000) : bGood b r = true := by simp [bGood, bIn_mk, *]
theorem bFine_mk {b r t a : Int} (h1 : 1 ≤ b) (h2 : b ≤ 1000) (h3 : 0 ≤ r) (h4 : r ≤ 1000) (h5 : 0 ≤ t) (h6 : t ≤ b) (h7 : 0 ≤ a) (h8 : a ≤ 1099511627776) : bFine b r t a = true := by
  simp [bFine, bGood_mk, bIn_mk, *]
theorem bA_at {a n : Int} (h1 : a ≤ n) (h2 : n ≤ 1099511627776) : bA a n = n := by unfold bA bHeld; omega
theorem bT_at {b r t a n : Int} (h1 : a ≤ n) (h2 : n ≤ 1099511627776) : bT b r t a n = min (t + (n - a) * r) b := by unfold bT; rw [bA_at h1 h2]
theorem bTake_yes {b r t a now n : Int} (h0 : 0 ≤ n) (hf : bFine b r t a = true) (hT : n ≤ bT b r t a now) : bTake b r t a now n = ((bT b r t a now - n, bA a now), true) := by
  unfold bTake; rw [if_neg (by simp [hf]; omega)]
theorem bFine_taken {b r t a now n : Int} (h0 : 0 ≤ n) (hf : bFine b r t a = true) (hT : n ≤ bT b r t a now) : bFine b r (bT b r t a now - n) (bA a now) = true := by
  obtain ⟨⟨hb, hr⟩, ht, ha⟩ := bFine_t hf
  have hbd := bT_bd (now := now) hf
  have hA := bA_bd (now := now) ha.2
  exact bFine_mk hb.1 hb.2 hr.1 hr.2 (by omega) (by omega) (by omega) (by omega)
/-! The plain law: of each take the takes behind it, and the tokens that are left, are no more than the burst and what came in. -/
def Kept (b r t a N : Int) (ats : List Int) : Prop :=
  ∀ (j : Nat) (h : j < ats.length), 0 ≤ ats[j] ∧ ats[j] ≤ N ∧ bT b r t a N + ((ats.length : Int) - j) ≤ b + (N - ats[j]) * r
theorem bT_grows {b r t a N g : Int} (hf : bFine b r t a = true) (h1 : a ≤ N) (hg : 0 ≤ g) (h2 : N + g ≤ 1099511627776) : bT b r t a (N + g) ≤ bT b r t a N + g * r := by
  obtain ⟨⟨hb, hr⟩, ht, ha⟩ := bFine_t hf
  rw [bT_at (by omega) h2, bT_at h1 (by omega)]
  have e : (N + g - a) * r = (N - a) * r + g * r := by rw [← Int.add_mul]; congr 1; omega
  have h0 : 0 ≤ g * r := Int.mul_nonneg hg hr.1
  omega
theorem Kept.grows {b r t a N g : Int} {ats : List Int} (h : Kept b r t a N ats) (hf : bFine b r t a = true) (h1 : a ≤ N) (hg : 0 ≤ g) (h2 : N + g ≤ 1099511627776) : Kept b r t a (N + g) ats := fun j hj => by
  obtain ⟨k1, k2, k3⟩ := h j hj
  have := bT_grows hf h1 hg h2
  have e : (N + g - ats[j]) * r = (N - ats[j]) * r + g * r := by rw [← Int.add_mul]; congr 1; omega
  exact ⟨k1, by omega, by omega⟩
theorem bT_same {b r t N : Int} (h : t ≤ b) (h2 : N ≤ 1099511627776) : bT b r t N N = t := by
  rw [bT_at (by omega) h2, Int.sub_self, Int.zero_mul]; omega
theorem Kept.takes {b r t a N : Int} {ats : List Int} (h : Kept b r t a N ats) (hf : bFine b r t a = true) (h0 : 0 ≤ N) (h2 : N ≤ 1099511627776) : Kept b r (bT b r t a N - 1) N N (ats ++ [N]) := fun j hj => by
  have hbd := bT_bd (now := N) hf
  rw [bT_same (by omega) h2]
  rcases Nat.lt_or_ge j ats.length with hlt | hge
  · obtain ⟨k1, k2, k3⟩ := h j hlt
    rw [List.getElem_append_left hlt]
    exact ⟨k1, k2, by simp; omega⟩
  · have hj' : j = ats.length := by simp at hj; omega
    subst hj'
    simp
    refine ⟨h0, ?_⟩
    omega
theorem Kept.most {b r t a N : Int} {ats : List Int} (h : Kept b r t a N ats) (hf : bFine b r t a = true) (h2 : N ≤ 1073741824) (j : Nat) (hj : j < ats.length) : (ats.length : Int) - j ≤ bMost b r (N - ats[j]) := by
  obtain ⟨k1, k2, k3⟩ := h j hj
  have hg : bGood b r = true := by have := hf; simp only [bFine, Bool.and_eq_true] at this; exact this.1.1
  have hbd := bT_bd (now := N) hf
  unfold bMost
  rw [hg, if_pos rfl, show bHeld (N - ats[j]) 0 1073741824 = N - ats[j] by unfold bHeld; omega]
  omega
/-- one take at tick N: what comes out -/
theorem take_one {b r t a N : Int} {ats : List Int} (h : Kept b r t a N ats) (hf : bFine b r t a = true) (h1 : a ≤ N) (h0 : 0 ≤ N) (h2 : N ≤ 1073741824) :
    (1 ≤ bT b r t a N ∧ bTake b r t a N 1 = ((bT b r t a N - 1, N), true) ∧ bFine b r (bT b r t a N - 1) N = true ∧ bT b r (bT b r t a N - 1) N N = bT b r t a N - 1 ∧ Kept b r (bT b r t a N - 1) N N (ats ++ [N])) ∨
    (bT b r t a N = 0 ∧ bTake b r t a N 1 = ((t, a), false)) := by
  have hbd := bT_bd (now := N) hf
  by_cases hl : 1 ≤ bT b r t a N
  · left
    have e := bTake_yes (n := 1) (by omega) hf hl
    have e2 := bFine_taken (n := 1) (by omega) hf hl
    rw [bA_at h1 (by omega)] at e e2
    exact ⟨hl, e, e2, bT_same (by omega) (by omega), h.takes hf h0 (by omega)⟩
  · right
    refine ⟨by omega, ?_⟩
    unfold bTake
    rw [if_pos (.inr (.inr (by omega)))]

end Go.Proofs.Ytolpiaehleefbaa

import Derived.Test.YtolpiaehleefbaaRows
import Derived.Test.YtolpiaehleefbaaA0
import Derived.Deep.RegionHeld3
import Derived.OwnWalk
/- Contracts of package jitter: each function computes the plain function of the same name below. -/
namespace Go.Proofs.Ytolpiaehleefbaa
open Go.RowKit
set_option linter.unusedSimpArgs false
set_option linter.unusedVariables false

/-! The plain functions. A conf is two rows of four. -/
def jIn (n a b : Int) : Bool := decide (a ≤ n) && decide (n ≤ b)
theorem jIn_t {n a b : Int} (h : jIn n a b = true) : a ≤ n ∧ n ≤ b := by simpa [jIn] using h
theorem jIn_f {n a b : Int} (h : jIn n a b = false) : n < a ∨ b < n := by simp [jIn] at h; omega
/-- may a level's ends be -/
def jOk1 (lo hi : Nat → Int) (k : Nat) : Bool := jIn (lo k) 1 10000 && jIn (hi k) 1 10000
def jPrev (f : Nat → Int) : Nat → Int
  | 0 => 0
  | k + 1 => f k
def jOk2 (lo hi : Nat → Int) (k : Nat) : Bool := decide (jPrev lo k ≤ lo k) && decide (jPrev hi k ≤ hi k) && decide (lo k ≤ hi k)
def jCheck (lo hi : Nat → Int) : Int := if jOk1 lo hi 0 && jOk1 lo hi 1 && jOk1 lo hi 2 && jOk1 lo hi 3 then (if jOk2 lo hi 0 && jOk2 lo hi 1 && jOk2 lo hi 2 && jOk2 lo hi 3 then 0 else 10) else 8
def jMay (lo hi : Nat → Int) (level : Int) : Bool := jIn level 0 3 && (jCheck lo hi == 0)
def jWidth (lo hi : Nat → Int) (level : Int) : Int := if jMay lo hi level then hi level.toNat - lo level.toNat + 1 else 0
def jWithin (lo hi : Nat → Int) (level n : Int) : Bool := jMay lo hi level && jIn n (lo level.toNat) (hi level.toNat)
abbrev confV (lo hi : Nat → Int) : Value := .agg #[.int .i64 (lo 0), .int .i64 (lo 1), .int .i64 (lo 2), .int .i64 (lo 3), .int .i64 (hi 0), .int .i64 (hi 1), .int .i64 (hi 2), .int .i64 (hi 3)]
abbrev confC (lo hi : Nat → Int) : List Value := [.int .i64 (lo 0), .int .i64 (lo 1), .int .i64 (lo 2), .int .i64 (lo 3), .int .i64 (hi 0), .int .i64 (hi 1), .int .i64 (hi 2), .int .i64 (hi 3)]
theorem lo_cell {w : World} {g : Nat} {t : TypeId} {lo hi : Nat → Int} (h : Bk w g t (confC lo hi)) {k : Nat} (hk : k < 4) : w.cell? ⟨g, k, none⟩ = some (.int .i64 (lo k)) := by
  rw [h.cell]
  match k, hk with
  | 0, _ => rfl
  | 1, _ => rfl
  | 2, _ => rfl
  | 3, _ => rfl
theorem hi_cell {w : World} {g : Nat} {t : TypeId} {lo hi : Nat → Int} (h : Bk w g t (confC lo hi)) {k : Nat} (hk : k < 4) : w.cell? ⟨g, 4 + k, none⟩ = some (.int .i64 (hi k)) := by
  rw [h.cell]
  match k, hk with
  | 0, _ => rfl
  | 1, _ => rfl
  | 2, _ => rfl
  | 3, _ => rfl

theorem jitter_in_any (n a b : Int) (w : World) :
    Calls Try.prog 98 #[.int .i64 n, .int .i64 a, .int .i64 b] w fun e w' => e = .returned (.bool (jIn n a b)) ∧ w = w' := by
  by_cases h1 : a ≤ n <;> by_cases h2 : n ≤ b
  all_goals
    go_enter Try.func98, Try.ntmps98
    go_wp2
    go_ret
    exact ⟨ret_bool (by simp [jIn, *]), rfl⟩
theorem jitter_in_is {n a b : Int} {v : Bool} (h : jIn n a b = v) (w : World) :
    Calls Try.prog 98 #[.int .i64 n, .int .i64 a, .int .i64 b] w fun e w' => e = .returned (.bool v) ∧ w = w' := by
  subst h; exact jitter_in_any n a b w

theorem idx4_0 (f : Nat → Int) (w : World) : (Instr.index 27 (.agg #[.int .i64 (f 0), .int .i64 (f 1), .int .i64 (f 2), .int .i64 (f 3)]) (.int .i64 ((0 : Nat) : Int))).run Try.prog w = .ok (.int .i64 (f 0)) w := by kernel_rfl
theorem idx4_1 (f : Nat → Int) (w : World) : (Instr.index 27 (.agg #[.int .i64 (f 0), .int .i64 (f 1), .int .i64 (f 2), .int .i64 (f 3)]) (.int .i64 ((1 : Nat) : Int))).run Try.prog w = .ok (.int .i64 (f 1)) w := by kernel_rfl
theorem idx4_2 (f : Nat → Int) (w : World) : (Instr.index 27 (.agg #[.int .i64 (f 0), .int .i64 (f 1), .int .i64 (f 2), .int .i64 (f 3)]) (.int .i64 ((2 : Nat) : Int))).run Try.prog w = .ok (.int .i64 (f 2)) w := by kernel_rfl
theorem idx4_3 (f : Nat → Int) (w : World) : (Instr.index 27 (.agg #[.int .i64 (f 0), .int .i64 (f 1), .int .i64 (f 2), .int .i64 (f 3)]) (.int .i64 ((3 : Nat) : Int))).run Try.prog w = .ok (.int .i64 (f 3)) w := by kernel_rfl
theorem idx4 (f : Nat → Int) {k : Nat} (hk : k < 4) (w : World) : (Instr.index 27 (.agg #[.int .i64 (f 0), .int .i64 (f 1), .int .i64 (f 2), .int .i64 (f 3)]) (.int .i64 k)).run Try.prog w = .ok (.int .i64 (f k)) w := by
  have h : k = 0 ∨ k = 1 ∨ k = 2 ∨ k = 3 := by omega
  rcases h with rfl | rfl | rfl | rfl
  · exact idx4_0 f w
  · exact idx4_1 f w
  · exact idx4_2 f w
  · exact idx4_3 f w

set_option maxHeartbeats 2000000 in
theorem jitter_Check_any (lo hi : Nat → Int) (w : World) :
    Calls Try.prog 61 #[confV lo hi] w fun e w' => e = .returned (.int .i64 (jCheck lo hi)) ∧ Below w.heap.size w w' := by
  go_enter Try.func61, Try.ntmps61
  go_wp2_with fail
  generalize hW : World.alloc w _ = w1
  have hb1 : Below w.heap.size w w1 := by subst hW; (repeat (first | with_reducible exact Below.refl _ _ | with_reducible assumption | with_reducible refine Below.drew ?_ | with_reducible refine Below.drewN ?_ _ | with_reducible refine Below.alloc1 ?_ _ | with_reducible refine Below.setCell1 ?_ (by first | omega | (simp; done) | (simp; omega)) _ | with_reducible refine Below.step ?_ (by with_reducible assumption)))
  have k0 : Bk w1 w.heap.size 42 (confC lo hi) := by subst hW; (repeat (first | with_reducible exact Bk.new' _ _ _ _ (by simp; done) | with_reducible assumption | with_reducible refine Bk.alloc ?_ _ | with_reducible refine Bk.drew ?_ | with_reducible refine Bk.drewN ?_ _ | with_reducible refine Bk.step ?_ (by with_reducible assumption) | with_reducible refine Bk.far ?_ (by first | omega | (simp; done) | (simp; omega)) _))
  have lk := k0.lt
  clear hW
  have k0_0 := k0.cell 0; have k0_f0 := k0.frozen 0; have k0_1 := k0.cell 1; have k0_f1 := k0.frozen 1; have k0_2 := k0.cell 2; have k0_f2 := k0.frozen 2; have k0_3 := k0.cell 3; have k0_f3 := k0.frozen 3; have k0_4 := k0.cell 4; have k0_f4 := k0.frozen 4; have k0_5 := k0.cell 5; have k0_f5 := k0.frozen 5; have k0_6 := k0.cell 6; have k0_f6 := k0.frozen 6; have k0_7 := k0.cell 7; have k0_f7 := k0.frozen 7; simp only [List.set_cons_zero, List.set_cons_succ, List.getElem?_cons_zero, List.getElem?_cons_succ] at k0_0 k0_1 k0_2 k0_3 k0_4 k0_5 k0_6 k0_7
  go_loopw [11] (fun i wr => ∃ k : Nat, k ≤ 4 ∧ i = .int .i64 k ∧ (∀ j, j < k → jOk1 lo hi j = true) ∧ wr = w1) (fun i _ => 4 - (intOf i).toNat)
  case atStart => exact ⟨0, by omega, rfl, by omega, rfl⟩
  case round =>
    obtain ⟨k, hk, rfl, hok, rfl⟩ := hrel
    by_cases hlt : k < 4
    · have c1 := lo_cell k0 hlt
      have c2 := hi_cell k0 hlt
      have i1 : ∀ w, _ := fun w => idx4 lo hlt w
      cases e1 : jIn (lo k) 1 10000 <;> cases e2 : jIn (hi k) 1 10000
      case true.true =>
        have hok' : ∀ j, j < k + 1 → jOk1 lo hi j = true := fun j hj => by
          rcases Nat.lt_or_ge j k with h | h
          · exact hok j h
          · obtain rfl : j = k := by omega
            simp [jOk1, e1, e2]
        go_wp2_with (go_at_call 98; (first | with_reducible refine (jitter_in_is e1 _).mono ?_ | with_reducible refine (jitter_in_is e2 _).mono ?_); rintro e w' ⟨rfl, rfl⟩)
        go_roundw
        case rel => exact ⟨k + 1, by omega, by go_num, hok', by first | rfl | trivial⟩
        case measure => simp [intOf]; omega
      all_goals
        have hno : jOk1 lo hi k = false := by simp [jOk1, e1, e2]
        have hc : jCheck lo hi = 8 := by
          unfold jCheck
          rw [if_neg]
          intro h
          simp only [Bool.and_eq_true] at h
          have h4 : k = 0 ∨ k = 1 ∨ k = 2 ∨ k = 3 := by omega
          rcases h4 with rfl | rfl | rfl | rfl <;> simp_all
        go_wp2_with (go_at_call 98; (first | with_reducible refine (jitter_in_is e1 _).mono ?_ | with_reducible refine (jitter_in_is e2 _).mono ?_); rintro e w' ⟨rfl, rfl⟩)
        go_ret
        exact ⟨ret_int hc.symm, hb1⟩
    · have hall : (jOk1 lo hi 0 && jOk1 lo hi 1 && jOk1 lo hi 2 && jOk1 lo hi 3) = true := by simp [hok 0 (by omega), hok 1 (by omega), hok 2 (by omega), hok 3 (by omega)]
      have hcc : jCheck lo hi = if jOk2 lo hi 0 && jOk2 lo hi 1 && jOk2 lo hi 2 && jOk2 lo hi 3 then 0 else 10 := by unfold jCheck; rw [if_pos hall]
      go_wp2_with fail
      obtain ⟨w1, rfl⟩ : ∃ w1 : World, w1 = wr := ⟨_, rfl⟩
      go_loopw [5, 6, 29] (fun o p i wr => ∃ (k n : Nat), k ≤ 4 ∧ i = .int .i64 k ∧ o = .int .i64 (jPrev lo k) ∧ p = .int .i64 (jPrev hi k) ∧ (∀ j, j < k → jOk2 lo hi j = true) ∧ wr = w1.drewN n) (fun _ _ i _ => 4 - (intOf i).toNat)
      case atStart => exact ⟨0, 0, by omega, rfl, rfl, rfl, by omega, rfl⟩
      case round =>
        clear hok hlt hk k0_0 k0_1 k0_2 k0_3 k0_4 k0_5 k0_6 k0_7 k0_f0 k0_f1 k0_f2 k0_f3 k0_f4 k0_f5 k0_f6 k0_f7
        obtain ⟨k, n, hk, rfl, rfl, rfl, hok, rfl⟩ := hrel
        by_cases hlt : k < 4
        · have c1 := lo_cell (k0.drewN n) hlt
          have c2 := hi_cell (k0.drewN n) hlt
          have d2 := hi_cell k0 hlt
          have i1 : ∀ w, _ := fun w => idx4 lo hlt w
          have lk' : w.heap.size < (w1.drewN n).heap.size := lk
          by_cases a : jOk2 lo hi k = true
          · have hok' : ∀ j, j < k + 1 → jOk2 lo hi j = true := fun j hj => by
              rcases Nat.lt_or_ge j k with h | h
              · exact hok j h
              · obtain rfl : j = k := by omega
                exact a
            have a' := a
            simp only [jOk2, Bool.and_eq_true, decide_eq_true_eq] at a'
            go_wp2_with fail
            go_quiet (fail)
            go_wp2_with fail
            go_roundw
            case rel => exact ⟨k + 1, _, by omega, by go_num, rfl, rfl, hok', rfl⟩
            case measure => simp [intOf]; omega
          · have hc : jCheck lo hi = 10 := by
              rw [hcc, if_neg]
              intro h
              simp only [Bool.and_eq_true] at h
              have h4 : k = 0 ∨ k = 1 ∨ k = 2 ∨ k = 3 := by omega
              rcases h4 with rfl | rfl | rfl | rfl <;> simp_all
            have a' : jOk2 lo hi k = false := by simpa using a
            simp only [jOk2, Bool.and_eq_false_iff, decide_eq_false_iff_not, Int.not_le] at a'
            by_cases a1 : lo k < jPrev lo k
            · go_wp2_with fail
              go_ret
              exact ⟨ret_int hc.symm, hb1.drewN _⟩
            · replace a1 : jPrev lo k ≤ lo k := by omega
              by_cases a2 : hi k < jPrev hi k
              · go_wp2_with fail
                go_ret
                exact ⟨ret_int hc.symm, hb1.drewN _⟩
              · replace a2 : jPrev hi k ≤ hi k := by omega
                have a3 : hi k < lo k := by omega
                clear a'
                go_wp2_with fail
                go_ret
                exact ⟨ret_int hc.symm, hb1.drewN _⟩
        · have hc : jCheck lo hi = 0 := by rw [hcc, if_pos]; simp [hok 0 (by omega), hok 1 (by omega), hok 2 (by omega), hok 3 (by omega)]
          go_wp2_with fail
          go_ret
          exact ⟨ret_int hc.symm, hb1.drewN _⟩
theorem jitter_Check_is {lo hi : Nat → Int} {v : Int} (h : jCheck lo hi = v) (w : World) :
    Calls Try.prog 61 #[confV lo hi] w fun e w' => e = .returned (.int .i64 v) ∧ Below w.heap.size w w' := by
  subst h; exact jitter_Check_any lo hi w
theorem jCheck_cases (lo hi : Nat → Int) : jCheck lo hi = 0 ∨ jCheck lo hi = 8 ∨ jCheck lo hi = 10 := by
  unfold jCheck; split <;> (try split) <;> simp
/-- what a conf that may be has -/
theorem jCheck_t {lo hi : Nat → Int} (h : jCheck lo hi = 0) {k : Nat} (hk : k < 4) : (1 ≤ lo k ∧ lo k ≤ 10000) ∧ (1 ≤ hi k ∧ hi k ≤ 10000) ∧ lo k ≤ hi k := by
  unfold jCheck at h
  split at h
  · rename_i h1
    split at h
    · rename_i h2
      simp only [Bool.and_eq_true] at h1 h2
      have a1 : jOk1 lo hi k = true := by
        have h4 : k = 0 ∨ k = 1 ∨ k = 2 ∨ k = 3 := by omega
        rcases h4 with rfl | rfl | rfl | rfl <;> simp_all
      have a2 : jOk2 lo hi k = true := by
        have h4 : k = 0 ∨ k = 1 ∨ k = 2 ∨ k = 3 := by omega
        rcases h4 with rfl | rfl | rfl | rfl <;> simp_all
      simp only [jOk1, Bool.and_eq_true] at a1
      simp only [jOk2, Bool.and_eq_true, decide_eq_true_eq] at a2
      exact ⟨jIn_t a1.1, jIn_t a1.2, a2.2⟩
    · omega
  · omega

theorem jitter_ends_yes {lo hi : Nat → Int} {level : Int} {k : Nat} (h : jCheck lo hi = 0) (hk : k < 4) (hl : level = k) (w : World) :
    Calls Try.prog 70 #[confV lo hi, .int .i64 level] w fun e w' => e = .returned (.tuple #[.int .i64 (lo k), .int .i64 (hi k), .bool true]) ∧ Below w.heap.size w w' := by
  subst hl
  have e1 : jIn (k : Int) 0 3 = true := by simp [jIn]; omega
  go_enter Try.func70, Try.ntmps70
  go_wp2_with fail
  generalize hW : World.alloc w _ = w1
  have hb1 : Below w.heap.size w w1 := by subst hW; (repeat (first | with_reducible exact Below.refl _ _ | with_reducible assumption | with_reducible refine Below.drew ?_ | with_reducible refine Below.drewN ?_ _ | with_reducible refine Below.alloc1 ?_ _ | with_reducible refine Below.setCell1 ?_ (by first | omega | (simp; done) | (simp; omega)) _ | with_reducible refine Below.step ?_ (by with_reducible assumption)))
  have k0 : Bk w1 w.heap.size 42 (confC lo hi) := by subst hW; (repeat (first | with_reducible exact Bk.new' _ _ _ _ (by simp; done) | with_reducible assumption | with_reducible refine Bk.alloc ?_ _ | with_reducible refine Bk.drew ?_ | with_reducible refine Bk.drewN ?_ _ | with_reducible refine Bk.step ?_ (by with_reducible assumption) | with_reducible refine Bk.far ?_ (by first | omega | (simp; done) | (simp; omega)) _))
  clear hW
  have k0_0 := k0.cell 0; have k0_f0 := k0.frozen 0; have k0_1 := k0.cell 1; have k0_f1 := k0.frozen 1; have k0_2 := k0.cell 2; have k0_f2 := k0.frozen 2; have k0_3 := k0.cell 3; have k0_f3 := k0.frozen 3; have k0_4 := k0.cell 4; have k0_f4 := k0.frozen 4; have k0_5 := k0.cell 5; have k0_f5 := k0.frozen 5; have k0_6 := k0.cell 6; have k0_f6 := k0.frozen 6; have k0_7 := k0.cell 7; have k0_f7 := k0.frozen 7; simp only [List.set_cons_zero, List.set_cons_succ, List.getElem?_cons_zero, List.getElem?_cons_succ] at k0_0 k0_1 k0_2 k0_3 k0_4 k0_5 k0_6 k0_7
  have lk := k0.lt
  go_wp2_with (first | (go_at_call 98; refine (jitter_in_is e1 _).mono ?_; rintro e w' ⟨rfl, rfl⟩) | (go_at_call 61; refine (jitter_Check_is h _).mono ?_; rintro e w2 ⟨rfl, hb2⟩; have k1 := k0.step hb2; have c1 := lo_cell k1 hk; have c2 := hi_cell k1 hk; have lk2 := k1.lt))
  go_quiet (fail)
  go_wp2
  go_ret3
  exact ⟨rfl, by (repeat (first | with_reducible exact Below.refl _ _ | with_reducible assumption | with_reducible refine Below.drew ?_ | with_reducible refine Below.drewN ?_ _ | with_reducible refine Below.alloc1 ?_ _ | with_reducible refine Below.setCell1 ?_ (by first | omega | (simp; done) | (simp; omega)) _ | with_reducible refine Below.step ?_ (by with_reducible assumption)))⟩
theorem jitter_ends_no {lo hi : Nat → Int} {level : Int} (h : jMay lo hi level = false) (w : World) :
    Calls Try.prog 70 #[confV lo hi, .int .i64 level] w fun e w' => e = .returned (.tuple #[.int .i64 0, .int .i64 0, .bool false]) ∧ Below w.heap.size w w' := by
  unfold jMay at h
  cases e1 : jIn level 0 3
  · go_enter Try.func70, Try.ntmps70
    go_wp2_with (go_at_call 98; refine (jitter_in_is e1 _).mono ?_; rintro e w' ⟨rfl, rfl⟩)
    go_ret3
    exact ⟨rfl, by (repeat (first | with_reducible exact Below.refl _ _ | with_reducible assumption | with_reducible refine Below.drew ?_ | with_reducible refine Below.drewN ?_ _ | with_reducible refine Below.alloc1 ?_ _ | with_reducible refine Below.setCell1 ?_ (by first | omega | (simp; done) | (simp; omega)) _ | with_reducible refine Below.step ?_ (by with_reducible assumption)))⟩
  · have hc : jCheck lo hi ≠ 0 := by
      intro h0
      rw [e1, h0] at h
      exact absurd h (by decide)
    have hv : jCheck lo hi = 8 ∨ jCheck lo hi = 10 := by have := jCheck_cases lo hi; omega
    rcases hv with h1 | h1
    all_goals
      go_enter Try.func70, Try.ntmps70
      go_wp2_with fail
      generalize hW : World.alloc w _ = w1
      have hb1 : Below w.heap.size w w1 := by subst hW; (repeat (first | with_reducible exact Below.refl _ _ | with_reducible assumption | with_reducible refine Below.drew ?_ | with_reducible refine Below.drewN ?_ _ | with_reducible refine Below.alloc1 ?_ _ | with_reducible refine Below.setCell1 ?_ (by first | omega | (simp; done) | (simp; omega)) _ | with_reducible refine Below.step ?_ (by with_reducible assumption)))
      have k0 : Bk w1 w.heap.size 42 (confC lo hi) := by subst hW; (repeat (first | with_reducible exact Bk.new' _ _ _ _ (by simp; done) | with_reducible assumption | with_reducible refine Bk.alloc ?_ _ | with_reducible refine Bk.drew ?_ | with_reducible refine Bk.drewN ?_ _ | with_reducible refine Bk.step ?_ (by with_reducible assumption) | with_reducible refine Bk.far ?_ (by first | omega | (simp; done) | (simp; omega)) _))
      clear hW
      have k0_0 := k0.cell 0; have k0_f0 := k0.frozen 0; have k0_1 := k0.cell 1; have k0_f1 := k0.frozen 1; have k0_2 := k0.cell 2; have k0_f2 := k0.frozen 2; have k0_3 := k0.cell 3; have k0_f3 := k0.frozen 3; have k0_4 := k0.cell 4; have k0_f4 := k0.frozen 4; have k0_5 := k0.cell 5; have k0_f5 := k0.frozen 5; have k0_6 := k0.cell 6; have k0_f6 := k0.frozen 6; have k0_7 := k0.cell 7; have k0_f7 := k0.frozen 7; simp only [List.set_cons_zero, List.set_cons_succ, List.getElem?_cons_zero, List.getElem?_cons_succ] at k0_0 k0_1 k0_2 k0_3 k0_4 k0_5 k0_6 k0_7
      have lk := k0.lt
      go_wp2_with (first | (go_at_call 98; refine (jitter_in_is e1 _).mono ?_; rintro e w' ⟨rfl, rfl⟩) | (go_at_call 61; refine (jitter_Check_is h1 _).mono ?_; rintro e w2 ⟨rfl, hb2⟩))
      go_ret3
      exact ⟨rfl, by (repeat (first | with_reducible exact Below.refl _ _ | with_reducible assumption | with_reducible refine Below.drew ?_ | with_reducible refine Below.drewN ?_ _ | with_reducible refine Below.alloc1 ?_ _ | with_reducible refine Below.setCell1 ?_ (by first | omega | (simp; done) | (simp; omega)) _ | with_reducible refine Below.step ?_ (by with_reducible assumption)))⟩
theorem jMay_k {lo hi : Nat → Int} {level : Int} (h : jMay lo hi level = true) : ∃ k : Nat, level = (k : Int) ∧ k < 4 ∧ jCheck lo hi = 0 := by
  simp only [jMay, Bool.and_eq_true, beq_iff_eq] at h
  have := jIn_t h.1
  exact ⟨level.toNat, by omega, by omega, h.2⟩

theorem jitter_Width_any (lo hi : Nat → Int) (level : Int) (w : World) :
    Calls Try.prog 27 #[confV lo hi, .int .i64 level] w fun e w' => e = .returned (.int .i64 (jWidth lo hi level)) ∧ Below w.heap.size w w' := by
  cases hm : jMay lo hi level
  · go_enter Try.func27, Try.ntmps27
    go_wp2_with fail
    refine (jitter_ends_no hm _).mono ?_; rintro e w2 ⟨rfl, hb2⟩
    go_wp2_with fail
    go_ret
    exact ⟨ret_int (by simp [jWidth, hm]), by (repeat (first | with_reducible exact Below.refl _ _ | with_reducible assumption | with_reducible refine Below.drew ?_ | with_reducible refine Below.drewN ?_ _ | with_reducible refine Below.alloc1 ?_ _ | with_reducible refine Below.setCell1 ?_ (by first | omega | (simp; done) | (simp; omega)) _ | with_reducible refine Below.step ?_ (by with_reducible assumption)))⟩
  · obtain ⟨k, rfl, hk, hc⟩ := jMay_k hm
    have hr := jCheck_t hc hk
    go_enter Try.func27, Try.ntmps27
    go_wp2_with fail
    refine (jitter_ends_yes hc hk rfl _).mono ?_; rintro e w2 ⟨rfl, hb2⟩
    go_wp2_with fail
    go_ret
    exact ⟨ret_int (by simp only [jWidth, hm, if_true, Int.toNat_natCast]), by (repeat (first | with_reducible exact Below.refl _ _ | with_reducible assumption | with_reducible refine Below.drew ?_ | with_reducible refine Below.drewN ?_ _ | with_reducible refine Below.alloc1 ?_ _ | with_reducible refine Below.setCell1 ?_ (by first | omega | (simp; done) | (simp; omega)) _ | with_reducible refine Below.step ?_ (by with_reducible assumption)))⟩
theorem jitter_Within_any (lo hi : Nat → Int) (level n : Int) (w : World) :
    Calls Try.prog 68 #[confV lo hi, .int .i64 level, .int .i64 n] w fun e w' => e = .returned (.bool (jWithin lo hi level n)) ∧ Below w.heap.size w w' := by
  cases hm : jMay lo hi level
  · go_enter Try.func68, Try.ntmps68
    go_wp2_with fail
    refine (jitter_ends_no hm _).mono ?_; rintro e w2 ⟨rfl, hb2⟩
    go_wp2_with fail
    go_ret
    exact ⟨ret_bool (by simp [jWithin, hm]), by (repeat (first | with_reducible exact Below.refl _ _ | with_reducible assumption | with_reducible refine Below.drew ?_ | with_reducible refine Below.drewN ?_ _ | with_reducible refine Below.alloc1 ?_ _ | with_reducible refine Below.setCell1 ?_ (by first | omega | (simp; done) | (simp; omega)) _ | with_reducible refine Below.step ?_ (by with_reducible assumption)))⟩
  · obtain ⟨k, rfl, hk, hc⟩ := jMay_k hm
    go_enter Try.func68, Try.ntmps68
    go_wp2_with fail
    refine (jitter_ends_yes hc hk rfl _).mono ?_; rintro e w2 ⟨rfl, hb2⟩
    go_wp2_with (go_at_call 98; refine (jitter_in_any _ _ _ _).mono ?_; rintro e w' ⟨rfl, rfl⟩)
    go_ret
    exact ⟨ret_bool (by simp [jWithin, hm]), by (repeat (first | with_reducible exact Below.refl _ _ | with_reducible assumption | with_reducible refine Below.drew ?_ | with_reducible refine Below.drewN ?_ _ | with_reducible refine Below.alloc1 ?_ _ | with_reducible refine Below.setCell1 ?_ (by first | omega | (simp; done) | (simp; omega)) _ | with_reducible refine Below.step ?_ (by with_reducible assumption)))⟩
end Go.Proofs.Ytolpiaehleefbaa

/- jitter.Hint (needs Hash). -/
namespace Go.Proofs.Ytolpiaehleefbaa
open Go.RowKit
set_option linter.unusedSimpArgs false
set_option linter.unusedVariables false
def jHint (lo hi : Nat → Int) (level draw : Int) : Int := if jMay lo hi level then lo level.toNat + hBelow draw (hi level.toNat - lo level.toNat + 1) else 0
theorem hBelow_pos {n m : Int} (h : 1 ≤ m) : hBelow n m = n % m := by unfold hBelow; rw [if_neg (by omega)]
theorem hBelow_bd {n m : Int} (h : 1 ≤ m) : 0 ≤ hBelow n m ∧ hBelow n m < m := by
  rw [hBelow_pos h]; exact ⟨Int.emod_nonneg _ (by omega), Int.emod_lt_of_pos _ (by omega)⟩
theorem jitter_Hint_any (lo hi : Nat → Int) (level draw : Int) (h0 : 0 ≤ draw) (h1 : draw ≤ 18446744073709551615) (w : World) :
    Calls Try.prog 34 #[confV lo hi, .int .i64 level, .int .u64 draw] w fun e w' => e = .returned (.int .i64 (jHint lo hi level draw)) ∧ Below w.heap.size w w' := by
  cases hm : jMay lo hi level
  · go_enter Try.func34, Try.ntmps34
    go_wp2_with fail
    refine (jitter_ends_no hm _).mono ?_; rintro e w2 ⟨rfl, hb2⟩
    go_wp2_with fail
    go_ret
    exact ⟨ret_int (by simp [jHint, hm]), by (repeat (first | with_reducible exact Below.refl _ _ | with_reducible assumption | with_reducible refine Below.drew ?_ | with_reducible refine Below.drewN ?_ _ | with_reducible refine Below.alloc1 ?_ _ | with_reducible refine Below.setCell1 ?_ (by first | omega | (simp; done) | (simp; omega)) _ | with_reducible refine Below.step ?_ (by with_reducible assumption)))⟩
  · obtain ⟨k, rfl, hk, hc⟩ := jMay_k hm
    have hr := jCheck_t hc hk
    have hb := hBelow_bd (n := draw) (show 1 ≤ hi k - lo k + 1 by omega)
    go_enter Try.func34, Try.ntmps34
    go_wp2_with fail
    refine (jitter_ends_yes hc hk rfl _).mono ?_; rintro e w2 ⟨rfl, hb2⟩
    go_wp2_with (go_at_call 80; refine (hash_Below_any _ _ h0 h1 (by omega) _).mono ?_; rintro e w' ⟨rfl, rfl⟩)
    go_ret
    exact ⟨ret_int (by simp only [jHint, hm, if_true, Int.toNat_natCast]), by (repeat (first | with_reducible exact Below.refl _ _ | with_reducible assumption | with_reducible refine Below.drew ?_ | with_reducible refine Below.drewN ?_ _ | with_reducible refine Below.alloc1 ?_ _ | with_reducible refine Below.setCell1 ?_ (by first | omega | (simp; done) | (simp; omega)) _ | with_reducible refine Below.step ?_ (by with_reducible assumption)))⟩
end Go.Proofs.Ytolpiaehleefbaa

/- jitter.Usual (as in Jit4, for a seat without jitter.Spread). -/
namespace Go.Proofs.Ytolpiaehleefbaa
open Go.RowKit
set_option linter.unusedSimpArgs false
set_option linter.unusedVariables false

def uLo : Nat → Int
  | 0 => 1
  | 1 => 5
  | 2 => 20
  | _ => 60
def uHi : Nat → Int
  | 0 => 4
  | 1 => 20
  | 2 => 60
  | _ => 240
theorem jitter_Usual_any (w : World) :
    Calls Try.prog 67 #[] w fun e w' => e = .returned (confV uLo uHi) ∧ Below w.heap.size w w' := by
  go_enter Try.func67, Try.ntmps67
  go_wp2
  exact bodyPost_ret (v := confV uLo uHi) (by simp only [confV, uLo, uHi]; simp only [results, Try.results67]; go_simp) rfl ⟨rfl, by (repeat (first | with_reducible exact Below.refl _ _ | with_reducible assumption | with_reducible refine Below.drew ?_ | with_reducible refine Below.drewN ?_ _ | with_reducible refine Below.alloc1 ?_ _ | with_reducible refine Below.setCell1 ?_ (by first | omega | (simp; done) | (simp; omega)) _ | with_reducible refine Below.step ?_ (by with_reducible assumption)))⟩

end Go.Proofs.Ytolpiaehleefbaa

/- Contracts of the reference of chapter 16: the same plain functions. -/
import Derived.Test.YtolpiaehleefbaaA4
namespace Go.Proofs.Ytolpiaehleefbaa
open Go.RowKit
set_option linter.unusedSimpArgs false
set_option linter.unusedVariables false

theorem r16_in_any (n a b : Int) (w : World) :
    Calls Try.prog 89 #[.int .i64 n, .int .i64 a, .int .i64 b] w fun e w' => e = .returned (.bool (vIn n a b)) ∧ w = w' := by
  by_cases h1 : a ≤ n <;> by_cases h2 : n ≤ b
  all_goals
    go_enter Try.func89, Try.ntmps89
    go_wp2
    go_ret
    exact ⟨ret_bool (by simp [vIn, *]), rfl⟩
theorem r16_in_is {n a b : Int} {v : Bool} (h : vIn n a b = v) (w : World) :
    Calls Try.prog 89 #[.int .i64 n, .int .i64 a, .int .i64 b] w fun e w' => e = .returned (.bool v) ∧ w = w' := by
  subst h; exact r16_in_any n a b w
theorem r16_held_any (n a b : Int) (hab : a ≤ b) (w : World) :
    Calls Try.prog 92 #[.int .i64 n, .int .i64 a, .int .i64 b] w fun e w' => e = .returned (.int .i64 (vHeld n a b)) ∧ w = w' := by
  go_enter Try.func92, Try.ntmps92
  go_wp2
  all_goals go_ret
  all_goals exact ⟨ret_int (by unfold vHeld; omega), rfl⟩

set_option maxHeartbeats 4000000 in
theorem r16_Check_any (up dn : Nat → Int) (hold : Int) (w : World) :
    Calls Try.prog 63 #[lcV up dn hold] w fun e w' => e = .returned (.int .i64 (vCheck up dn hold)) ∧ Below w.heap.size w w' := by
  go_enter Try.func63, Try.ntmps63
  go_wp2_with fail
  generalize hW : World.alloc w _ = w1
  have hb1 : Below w.heap.size w w1 := by subst hW; (repeat (first | with_reducible exact Below.refl _ _ | with_reducible assumption | with_reducible refine Below.drew ?_ | with_reducible refine Below.drewN ?_ _ | with_reducible refine Below.alloc1 ?_ _ | with_reducible refine Below.setCell1 ?_ (by first | omega | (simp; done) | (simp; omega)) _ | with_reducible refine Below.step ?_ (by with_reducible assumption)))
  have k0 : Bk w1 w.heap.size 26 (lcC up dn hold) := by subst hW; (repeat (first | with_reducible exact Bk.new' _ _ _ _ (by simp; done) | with_reducible assumption | with_reducible refine Bk.alloc ?_ _ | with_reducible refine Bk.drew ?_ | with_reducible refine Bk.drewN ?_ _ | with_reducible refine Bk.step ?_ (by with_reducible assumption) | with_reducible refine Bk.far ?_ (by first | omega | (simp; done) | (simp; omega)) _))
  have lk := k0.lt
  clear hW
  go_loopw [3] (fun i wr => ∃ k : Nat, k ≤ 3 ∧ i = .int .i64 k ∧ (∀ j, j < k → vOk1 up dn j = true) ∧ wr = w1) (fun i _ => 3 - (intOf i).toNat)
  case atStart => exact ⟨0, by omega, rfl, by omega, rfl⟩
  case round =>
    obtain ⟨k, hk, rfl, hok, rfl⟩ := hrel
    by_cases hlt : k < 3
    · have c1 := up_cell k0 hlt
      have c2 := dn_cell k0 hlt
      cases e1 : vIn (up k) 0 100 <;> cases e2 : vIn (dn k) 0 100
      case true.true =>
        have hok' : Hid (∀ j, j < k + 1 → vOk1 up dn j = true) := fun j hj => by
          rcases Nat.lt_or_ge j k with h | h
          · exact hok j h
          · obtain rfl : j = k := by omega
            simp [vOk1, e1, e2]
        clear hok
        go_wp2_with (go_at_call 89; (first | with_reducible refine (r16_in_is e1 _).mono ?_ | with_reducible refine (r16_in_is e2 _).mono ?_); rintro e w' ⟨rfl, rfl⟩)
        go_roundw
        case rel => exact ⟨k + 1, by omega, by go_num, hok'.out, by first | rfl | trivial⟩
        case measure => simp [intOf]; omega
      all_goals
        have hno : vOk1 up dn k = false := by simp [vOk1, e1, e2]
        have hc : Hid (vCheck up dn hold = 8) := by show _ = _; simp [vCheck, vLoads_f hlt hno]
        clear hno hok
        go_wp2_with (go_at_call 89; (first | with_reducible refine (r16_in_is e1 _).mono ?_ | with_reducible refine (r16_in_is e2 _).mono ?_); rintro e w' ⟨rfl, rfl⟩)
        go_ret
        exact ⟨ret_int hc.out.symm, hb1⟩
    · have hall : vLoads up dn = true := vLoads_t fun j hj => hok j (by omega)
      have c6 := k0.cell 6
      simp only [List.getElem?_cons_zero, List.getElem?_cons_succ] at c6
      cases e2 : vIn hold 0 1000
      · have hc : Hid (vCheck up dn hold = 8) := by show _ = _; simp [vCheck, e2]
        clear hok hall
        go_wp2_with (go_at_call 89; with_reducible refine (r16_in_is e2 _).mono ?_; rintro e w' ⟨rfl, rfl⟩)
        go_ret
        exact ⟨ret_int hc.out.symm, hb1⟩
      · have HC : Hid (vCheck up dn hold = if vOrder up dn then 0 else 10) := by show _ = _; simp [vCheck, hall, e2]
        have h10 := vLoads_of hall (k := 0) (by omega)
        clear hok hall
        go_wp2_with (go_at_call 89; with_reducible refine (r16_in_is e2 _).mono ?_; rintro e w' ⟨rfl, rfl⟩)
        obtain ⟨w1, rfl⟩ : ∃ w1 : World, w1 = wr := ⟨_, rfl⟩
        clear e2
        have HB := hide hb1
        clear hb1 c6 hlt
        go_loopw [4] (fun i wr => ∃ (k n : Nat), k ≤ 3 ∧ i = .int .i64 k ∧ Hid (∀ j, j < k → vOk2 up dn j = true) ∧ wr = w1.drewN n) (fun i _ => 3 - (intOf i).toNat)
        case atStart => exact ⟨0, 0, by omega, rfl, (fun j hj => by omega), rfl⟩
        case round =>
          obtain ⟨k, n, hk, rfl, hok, rfl⟩ := hrel
          by_cases hlt : k < 3
          · have c1 := up_cell k0 hlt
            have c2 := dn_cell k0 hlt
            have lk' : w.heap.size < (w1.drewN n).heap.size := lk
            have HN : Hid (vOk2 up dn k = false → vCheck up dn hold = 10) := fun h => by rw [HC.out, vOrder_f hlt h]; rfl
            have HO : Hid (vOk2 up dn k = true → ∀ j, j < k + 1 → vOk2 up dn j = true) := fun a j hj => by
              rcases Nat.lt_or_ge j k with h | h
              · exact hok.out j h
              · obtain rfl : j = k := by omega
                exact a
            by_cases a3 : up k < dn k
            · have a : Hid (vOk2 up dn k = false) := by show _ = false; simp only [vOk2, Bool.and_eq_false_iff, decide_eq_false_iff_not]; omega
              go_wp2_with fail
              go_quiet (fail)
              go_wp2_with fail
              go_ret
              exact ⟨ret_int (HN.out a.out).symm, (HB.out.drewN _).drewN _⟩
            · have d3 : decide (up k < dn k) = false := by simpa using a3
              replace a3 : dn k ≤ up k := by omega
              rcases Nat.eq_zero_or_pos k with k00 | k00
              · subst k00
                have d0 : decide ((0 : Int) < 0) = false := by decide
                have a : Hid (vOk2 up dn 0 = true) := by show _ = true; unfold vOk2; rw [show vPrev up 0 = 0 from rfl, show vPrev dn 0 = 0 from rfl]; simp only [Bool.and_eq_true, decide_eq_true_eq]; omega
                go_wp2_with fail
                go_quiet (fail)
                go_wp2_with fail
                go_roundw
                case rel => exact ⟨0 + 1, _, by omega, by go_num, HO.out a.out, rfl⟩
                case measure => simp [intOf]
              · obtain ⟨m, rfl⟩ : ∃ m, k = m + 1 := ⟨k - 1, by omega⟩
                have c3 := up_cell k0 (k := m) (by omega)
                have c4 := dn_cell k0 (k := m) (by omega)
                have b0 : 0 ≤ (m : Int) + 1 := by omega
                have b1 : (m : Int) + 1 < 3 := by omega
                have b2 : ((m : Int) + 1).toNat = m + 1 := by omega
                have d0 : decide ((0 : Int) < ((m + 1 : Nat) : Int)) = true := by simp <;> omega
                have w1 : IntKind.i64.wrap (((m + 1 : Nat) : Int) - 1) = m := by rw [IntWalk.i64_in _ (by omega)]; omega
                have w2 : IntKind.i64.wrap ((m : Int) + 1 - 1) = m := by rw [IntWalk.i64_in _ (by omega)]; omega
                by_cases a1 : up (m + 1) < up m
                · have a : Hid (vOk2 up dn (m + 1) = false) := by show _ = false; unfold vOk2; rw [show vPrev up (m + 1) = up m from rfl, show vPrev dn (m + 1) = dn m from rfl]; simp only [Bool.and_eq_false_iff, decide_eq_false_iff_not]; clear w1 w2; omega
                  go_wp2_with fail
                  go_quiet (fail)
                  go_wp2_with fail
                  go_ret
                  exact ⟨ret_int (HN.out a.out).symm, (HB.out.drewN _).drewN _⟩
                · have d1 : decide (up (m + 1) < up m) = false := by simpa using a1
                  by_cases a2 : dn (m + 1) < dn m
                  · have a : Hid (vOk2 up dn (m + 1) = false) := by show _ = false; unfold vOk2; rw [show vPrev up (m + 1) = up m from rfl, show vPrev dn (m + 1) = dn m from rfl]; simp only [Bool.and_eq_false_iff, decide_eq_false_iff_not]; clear w1 w2; omega
                    go_wp2_with fail
                    go_quiet (fail)
                    go_wp2_with fail
                    go_ret
                    exact ⟨ret_int (HN.out a.out).symm, (HB.out.drewN _).drewN _⟩
                  · have d2 : decide (dn (m + 1) < dn m) = false := by simpa using a2
                    have a : Hid (vOk2 up dn (m + 1) = true) := by show _ = true; unfold vOk2; rw [show vPrev up (m + 1) = up m from rfl, show vPrev dn (m + 1) = dn m from rfl]; simp only [Bool.and_eq_true, decide_eq_true_eq]; clear w1 w2; omega
                    go_wp2_with fail
                    go_quiet (fail)
                    go_wp2_with fail
                    go_roundw
                    case rel => exact ⟨m + 1 + 1, _, by omega, by go_num, HO.out a.out, rfl⟩
                    case measure => simp [intOf]; omega
          · have hc : Hid (vCheck up dn hold = 0) := by show _ = _; rw [HC.out, vOrder_t fun j hj => hok.out j (by omega)]; rfl
            go_wp2_with fail
            go_ret
            exact ⟨ret_int hc.out.symm, HB.out.drewN _⟩
theorem r16_Check_is {up dn : Nat → Int} {hold v : Int} (h : vCheck up dn hold = v) (w : World) :
    Calls Try.prog 63 #[lcV up dn hold] w fun e w' => e = .returned (.int .i64 v) ∧ Below w.heap.size w w' := by
  subst h; exact r16_Check_any up dn hold w

theorem r16_Fine_any (l s v : Int) (w : World) :
    Calls Try.prog 57 #[lsV l s v] w fun e w' => e = .returned (.bool (vFine l s v)) ∧ Below w.heap.size w w' := by
  have HF : Hid (vFine l s v = (vIn l 0 3 && vIn s 0 1099511627776 && vIn v (-1) 1099511627776)) := rfl
  cases h1 : vIn l 0 3 <;> cases h2 : vIn s 0 1099511627776 <;> cases h3 : vIn v (-1) 1099511627776
  all_goals
    go_enter Try.func57, Try.ntmps57
    go_wp2_with (go_at_call 89; refine (r16_in_any _ _ _ _).mono ?_; rintro e w' ⟨rfl, rfl⟩)
    go_ret
    exact ⟨ret_bool (by rw [HF.out, h1, h2, h3]; rfl), by (repeat (first | with_reducible exact Below.refl _ _ | with_reducible assumption | with_reducible refine Below.drew ?_ | with_reducible refine Below.drewN ?_ _ | with_reducible refine Below.alloc1 ?_ _ | with_reducible refine Below.setCell1 ?_ (by first | omega | (simp; done) | (simp; omega)) _ | with_reducible refine Below.step ?_ (by with_reducible assumption)))⟩
theorem r16_Fine_is {l s v : Int} {b : Bool} (h : vFine l s v = b) (w : World) :
    Calls Try.prog 57 #[lsV l s v] w fun e w' => e = .returned (.bool b) ∧ Below w.heap.size w w' := by
  subst h; exact r16_Fine_any l s v w
theorem r16_New_any (w : World) : Calls Try.prog 42 #[] w fun e w' => e = .returned (lsV 0 0 (-1)) ∧ Below w.heap.size w w' := by
  go_enter Try.func42, Try.ntmps42
  go_wp2
  exact bodyPost_ret (v := lsV 0 0 (-1)) (by skip; simp only [results, Try.results42]; go_simp) rfl ⟨rfl, by (repeat (first | with_reducible exact Below.refl _ _ | with_reducible assumption | with_reducible refine Below.drew ?_ | with_reducible refine Below.drewN ?_ _ | with_reducible refine Below.alloc1 ?_ _ | with_reducible refine Below.setCell1 ?_ (by first | omega | (simp; done) | (simp; omega)) _ | with_reducible refine Below.step ?_ (by with_reducible assumption)))⟩
theorem r16_Usual_any (w : World) : Calls Try.prog 71 #[] w fun e w' => e = .returned (lcV (u3 50 75 90) (u3 40 60 80) 5) ∧ Below w.heap.size w w' := by
  go_enter Try.func71, Try.ntmps71
  go_wp2
  exact bodyPost_ret (v := lcV (u3 50 75 90) (u3 40 60 80) 5) (by simp only [lcV, u3]; simp only [results, Try.results71]; go_simp) rfl ⟨rfl, by (repeat (first | with_reducible exact Below.refl _ _ | with_reducible assumption | with_reducible refine Below.drew ?_ | with_reducible refine Below.drewN ?_ _ | with_reducible refine Below.alloc1 ?_ _ | with_reducible refine Below.setCell1 ?_ (by first | omega | (simp; done) | (simp; omega)) _ | with_reducible refine Below.step ?_ (by with_reducible assumption)))⟩
theorem r16_Allows_any (level what : Int) (w : World) :
    Calls Try.prog 49 #[.int .i64 level, .int .i64 what] w fun e w' => e = .returned (.bool (vAllows level what)) ∧ w = w' := by
  have HA : Hid (vAllows level what = (vIn level 0 3 && (((what == 0 || what == 2) && decide (level < 3)) || (what == 1 && decide (level < 2)) || what == 3))) := rfl
  cases h1 : vIn level 0 3
  · go_enter Try.func49, Try.ntmps49
    go_wp2_with (go_at_call 89; refine (r16_in_is h1 _).mono ?_; rintro e w' ⟨rfl, rfl⟩)
    go_ret
    exact ⟨ret_bool (by rw [HA.out, h1]; rfl), rfl⟩
  · by_cases a0 : what = 0
    · subst a0
      by_cases a : level < 3
      all_goals
        go_enter Try.func49, Try.ntmps49
        go_wp2_with (go_at_call 89; refine (r16_in_is h1 _).mono ?_; rintro e w' ⟨rfl, rfl⟩)
        go_ret
        exact ⟨ret_bool (by rw [HA.out, h1]; simp [a]), rfl⟩
    · by_cases a1 : what = 1
      · subst a1
        by_cases a : level < 2
        all_goals
          go_enter Try.func49, Try.ntmps49
          go_wp2_with (go_at_call 89; refine (r16_in_is h1 _).mono ?_; rintro e w' ⟨rfl, rfl⟩)
          go_ret
          exact ⟨ret_bool (by rw [HA.out, h1]; simp [a]), rfl⟩
      · by_cases a2 : what = 2
        · subst a2
          by_cases a : level < 3
          all_goals
            go_enter Try.func49, Try.ntmps49
            go_wp2_with (go_at_call 89; refine (r16_in_is h1 _).mono ?_; rintro e w' ⟨rfl, rfl⟩)
            go_ret
            exact ⟨ret_bool (by rw [HA.out, h1]; simp [a]), rfl⟩
        · by_cases a3 : what = 3
          · subst a3
            go_enter Try.func49, Try.ntmps49
            go_wp2_with (go_at_call 89; refine (r16_in_is h1 _).mono ?_; rintro e w' ⟨rfl, rfl⟩)
            go_ret
            exact ⟨ret_bool (by rw [HA.out, h1]; simp), rfl⟩
          · have b0 : (what == 0) = false := by simpa using a0
            have b1 : (what == 1) = false := by simpa using a1
            have b2 : (what == 2) = false := by simpa using a2
            have b3 : (what == 3) = false := by simpa using a3
            clear a0 a1 a2 a3
            go_enter Try.func49, Try.ntmps49
            go_wp2_with (go_at_call 89; refine (r16_in_is h1 _).mono ?_; rintro e w' ⟨rfl, rfl⟩)
            go_ret
            exact ⟨ret_bool (by rw [HA.out, h1, b0, b1, b2, b3]; rfl), rfl⟩
end Go.Proofs.Ytolpiaehleefbaa

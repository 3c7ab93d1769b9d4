/- Contracts of package level, further: Check, Fine, New, Usual, asked, Allows, Name. -/
import Derived.Test.YtbajakifkidccaaLev
namespace Go.Proofs.Ytbajakifkidccaa
open Go.RowKit
set_option linter.unusedSimpArgs false
set_option linter.unusedVariables false

set_option maxHeartbeats 2000000 in
theorem level_Check_any (up dn : Nat → Int) (hold : Int) (w : World) :
    Calls Try.prog 9 #[lcV up dn hold] w fun e w' => e = .returned (.int .i64 (vCheck up dn hold)) ∧ Below w.heap.size w w' := by
  cases e1 : vLoads up dn
  · have hc : Hid (vCheck up dn hold = 8) := by show _ = _; simp [vCheck, e1]
    go_enter Try.func9, Try.ntmps9
    go_wp2_with fail
    refine (level_loads_is e1 _).mono ?_; rintro e w1 ⟨rfl, hb1⟩
    go_wp2_with fail
    go_ret
    exact ⟨ret_int hc.out.symm, by (repeat (first | with_reducible exact Below.refl _ _ | with_reducible assumption | with_reducible refine Below.drew ?_ | with_reducible refine Below.drewN ?_ _ | with_reducible refine Below.alloc1 ?_ _ | with_reducible refine Below.setCell1 ?_ (by first | omega | (simp; done) | (simp; omega)) _ | with_reducible refine Below.step ?_ (by with_reducible assumption)))⟩
  · cases e2 : vIn hold 0 1000
    · have hc : Hid (vCheck up dn hold = 8) := by show _ = _; simp [vCheck, e1, e2]
      go_enter Try.func9, Try.ntmps9
      go_wp2_with fail
      generalize hW : World.alloc w _ = w0
      have hb0 : Below w.heap.size w w0 := by subst hW; (repeat (first | with_reducible exact Below.refl _ _ | with_reducible assumption | with_reducible refine Below.drew ?_ | with_reducible refine Below.drewN ?_ _ | with_reducible refine Below.alloc1 ?_ _ | with_reducible refine Below.setCell1 ?_ (by first | omega | (simp; done) | (simp; omega)) _ | with_reducible refine Below.step ?_ (by with_reducible assumption)))
      have k0 : Bk w0 w.heap.size 28 (lcC up dn hold) := by subst hW; (repeat (first | with_reducible exact Bk.new' _ _ _ _ (by simp; done) | with_reducible assumption | with_reducible refine Bk.alloc ?_ _ | with_reducible refine Bk.drew ?_ | with_reducible refine Bk.drewN ?_ _ | with_reducible refine Bk.step ?_ (by with_reducible assumption) | with_reducible refine Bk.far ?_ (by first | omega | (simp; done) | (simp; omega)) _))
      clear hW
      refine (level_loads_is e1 _).mono ?_; rintro e w1 ⟨rfl, hb1⟩
      have k1 := k0.step hb1
      have lk := k1.lt
      have k1_0 := k1.cell 0; have k1_f0 := k1.frozen 0; have k1_1 := k1.cell 1; have k1_f1 := k1.frozen 1; have k1_2 := k1.cell 2; have k1_f2 := k1.frozen 2; have k1_3 := k1.cell 3; have k1_f3 := k1.frozen 3; have k1_4 := k1.cell 4; have k1_f4 := k1.frozen 4; have k1_5 := k1.cell 5; have k1_f5 := k1.frozen 5; have k1_6 := k1.cell 6; have k1_f6 := k1.frozen 6; simp only [List.set_cons_zero, List.set_cons_succ, List.getElem?_cons_zero, List.getElem?_cons_succ] at k1_0 k1_1 k1_2 k1_3 k1_4 k1_5 k1_6
      go_wp2_with fail
      refine (level_in_is e2 _).mono ?_; rintro e w' ⟨rfl, rfl⟩
      go_wp2_with fail
      go_ret
      exact ⟨ret_int hc.out.symm, by (repeat (first | with_reducible exact Below.refl _ _ | with_reducible assumption | with_reducible refine Below.drew ?_ | with_reducible refine Below.drewN ?_ _ | with_reducible refine Below.alloc1 ?_ _ | with_reducible refine Below.setCell1 ?_ (by first | omega | (simp; done) | (simp; omega)) _ | with_reducible refine Below.step ?_ (by with_reducible assumption)))⟩
    · have HC : Hid (vCheck up dn hold = if vOrder up dn then 0 else 10) := by show _ = _; simp [vCheck, e1, e2]
      have hl := fun k (hk : k < 3) => vLoads_of e1 hk
      go_enter Try.func9, Try.ntmps9
      go_wp2_with fail
      generalize hW : World.alloc w _ = w0
      have hb0 : Below w.heap.size w w0 := by subst hW; (repeat (first | with_reducible exact Below.refl _ _ | with_reducible assumption | with_reducible refine Below.drew ?_ | with_reducible refine Below.drewN ?_ _ | with_reducible refine Below.alloc1 ?_ _ | with_reducible refine Below.setCell1 ?_ (by first | omega | (simp; done) | (simp; omega)) _ | with_reducible refine Below.step ?_ (by with_reducible assumption)))
      have k0 : Bk w0 w.heap.size 28 (lcC up dn hold) := by subst hW; (repeat (first | with_reducible exact Bk.new' _ _ _ _ (by simp; done) | with_reducible assumption | with_reducible refine Bk.alloc ?_ _ | with_reducible refine Bk.drew ?_ | with_reducible refine Bk.drewN ?_ _ | with_reducible refine Bk.step ?_ (by with_reducible assumption) | with_reducible refine Bk.far ?_ (by first | omega | (simp; done) | (simp; omega)) _))
      clear hW
      refine (level_loads_is e1 _).mono ?_; rintro e w1 ⟨rfl, hb1⟩
      have k1 := k0.step hb1
      have hb2 : Below w.heap.size w w1 := by (repeat (first | with_reducible exact Below.refl _ _ | with_reducible assumption | with_reducible refine Below.drew ?_ | with_reducible refine Below.drewN ?_ _ | with_reducible refine Below.alloc1 ?_ _ | with_reducible refine Below.setCell1 ?_ (by first | omega | (simp; done) | (simp; omega)) _ | with_reducible refine Below.step ?_ (by with_reducible assumption)))
      have lk := k1.lt
      have k1_0 := k1.cell 0; have k1_f0 := k1.frozen 0; have k1_1 := k1.cell 1; have k1_f1 := k1.frozen 1; have k1_2 := k1.cell 2; have k1_f2 := k1.frozen 2; have k1_3 := k1.cell 3; have k1_f3 := k1.frozen 3; have k1_4 := k1.cell 4; have k1_f4 := k1.frozen 4; have k1_5 := k1.cell 5; have k1_f5 := k1.frozen 5; have k1_6 := k1.cell 6; have k1_f6 := k1.frozen 6; simp only [List.set_cons_zero, List.set_cons_succ, List.getElem?_cons_zero, List.getElem?_cons_succ] at k1_0 k1_1 k1_2 k1_3 k1_4 k1_5 k1_6
      go_wp2_with fail
      refine (level_in_is e2 _).mono ?_; rintro e w' ⟨rfl, rfl⟩
      go_wp2_with fail
      clear k1_0 k1_1 k1_2 k1_3 k1_4 k1_5 k1_6 k1_f0 k1_f1 k1_f2 k1_f3 k1_f4 k1_f5 k1_f6 k0 hb0 hb1
      have HB := hide hb2
      have HL := hide hl
      clear hb2 hl e1 e2
      go_loopw [3, 4, 15] (fun o p i wr => ∃ (k n : Nat), k ≤ 3 ∧ i = .int .i64 k ∧ o = .int .i64 (vPrev up k) ∧ p = .int .i64 (vPrev dn k) ∧ Hid (∀ j, j < k → vOk2 up dn j = true) ∧ wr = w1.drewN n) (fun _ _ i _ => 3 - (intOf i).toNat)
      case atStart => exact ⟨0, 0, by omega, rfl, rfl, rfl, (fun j hj => by omega), rfl⟩
      case round =>
        obtain ⟨k, n, hk, rfl, rfl, rfl, hok, rfl⟩ := hrel
        by_cases hlt : k < 3
        · have c1 := up_cell k1 hlt
          have c2 := dn_cell k1 hlt
          have lk' : w.heap.size < (w1.drewN n).heap.size := lk
          have hno : Hid (vOk2 up dn k = false → vCheck up dn hold = 10) := fun h => by rw [HC.out, vOrder_f hlt h]; rfl
          have hok' : Hid (vOk2 up dn k = true → ∀ j, j < k + 1 → vOk2 up dn j = true) := fun a j hj => by
            rcases Nat.lt_or_ge j k with h | h
            · exact hok.out j h
            · obtain rfl : j = k := by omega
              exact a
          have HD : Hid (vOk2 up dn k = (decide (vPrev up k ≤ up k) && decide (vPrev dn k ≤ dn k) && decide (dn k ≤ up k))) := rfl
          by_cases a1 : up k < vPrev up k
          · go_wp2_with fail
            go_quiet (fail)
            go_wp2_with fail
            go_ret
            exact ⟨ret_int (hno.out (by rw [HD.out]; simp only [Bool.and_eq_false_iff, decide_eq_false_iff_not]; omega)).symm, (HB.out.drewN _).drewN _⟩
          · have d1 : decide (up k < vPrev up k) = false := by simpa using a1
            by_cases a2 : dn k < vPrev dn k
            · go_wp2_with fail
              go_quiet (fail)
              go_wp2_with fail
              go_ret
              exact ⟨ret_int (hno.out (by rw [HD.out]; simp only [Bool.and_eq_false_iff, decide_eq_false_iff_not]; omega)).symm, (HB.out.drewN _).drewN _⟩
            · have d2 : decide (dn k < vPrev dn k) = false := by simpa using a2
              by_cases a3 : up k < dn k
              · go_wp2_with fail
                go_quiet (fail)
                go_wp2_with fail
                go_ret
                exact ⟨ret_int (hno.out (by rw [HD.out]; simp only [Bool.and_eq_false_iff, decide_eq_false_iff_not]; omega)).symm, (HB.out.drewN _).drewN _⟩
              · have d3 : decide (up k < dn k) = false := by simpa using a3
                go_wp2_with fail
                go_quiet (fail)
                go_wp2_with fail
                go_quiet (fail)
                go_wp2_with fail
                go_roundw
                case rel => exact ⟨k + 1, _, by omega, by go_num, rfl, rfl, hok'.out (by rw [HD.out]; simp only [Bool.and_eq_true, decide_eq_true_eq]; omega), rfl⟩
                case measure => simp [intOf]; omega
        · have hc : Hid (vCheck up dn hold = 0) := by show _ = _; rw [HC.out, vOrder_t fun j hj => hok.out j (by omega)]; rfl
          go_wp2_with fail
          go_ret
          exact ⟨ret_int hc.out.symm, HB.out.drewN _⟩
theorem level_Check_is {up dn : Nat → Int} {hold v : Int} (h : vCheck up dn hold = v) (w : World) :
    Calls Try.prog 9 #[lcV up dn hold] w fun e w' => e = .returned (.int .i64 v) ∧ Below w.heap.size w w' := by
  subst h; exact level_Check_any up dn hold w

theorem level_Fine_any (l s v : Int) (w : World) :
    Calls Try.prog 11 #[lsV l s v] w fun e w' => e = .returned (.bool (vFine l s v)) ∧ Below w.heap.size w w' := by
  have HF : Hid (vFine l s v = (vIn l 0 3 && vIn s 0 1099511627776 && vIn v (-1) 1099511627776)) := rfl
  cases h1 : vIn l 0 3 <;> cases h2 : vIn s 0 1099511627776 <;> cases h3 : vIn v (-1) 1099511627776
  all_goals
    go_enter Try.func11, Try.ntmps11
    go_wp2_with (go_at_call 29; refine (level_in_any _ _ _ _).mono ?_; rintro e w' ⟨rfl, rfl⟩)
    go_ret
    exact ⟨ret_bool (by rw [HF.out, h1, h2, h3]; rfl), by (repeat (first | with_reducible exact Below.refl _ _ | with_reducible assumption | with_reducible refine Below.drew ?_ | with_reducible refine Below.drewN ?_ _ | with_reducible refine Below.alloc1 ?_ _ | with_reducible refine Below.setCell1 ?_ (by first | omega | (simp; done) | (simp; omega)) _ | with_reducible refine Below.step ?_ (by with_reducible assumption)))⟩
theorem level_Fine_is {l s v : Int} {b : Bool} (h : vFine l s v = b) (w : World) :
    Calls Try.prog 11 #[lsV l s v] w fun e w' => e = .returned (.bool b) ∧ Below w.heap.size w w' := by
  subst h; exact level_Fine_any l s v w
theorem level_New_any (w : World) : Calls Try.prog 13 #[] w fun e w' => e = .returned (lsV 0 0 (-1)) ∧ Below w.heap.size w w' := by
  go_enter Try.func13, Try.ntmps13
  go_wp2
  exact bodyPost_ret (v := lsV 0 0 (-1)) (by skip; simp only [results, Try.results13]; go_simp) rfl ⟨rfl, by (repeat (first | with_reducible exact Below.refl _ _ | with_reducible assumption | with_reducible refine Below.drew ?_ | with_reducible refine Below.drewN ?_ _ | with_reducible refine Below.alloc1 ?_ _ | with_reducible refine Below.setCell1 ?_ (by first | omega | (simp; done) | (simp; omega)) _ | with_reducible refine Below.step ?_ (by with_reducible assumption)))⟩
def u3 (a b c : Int) : Nat → Int
  | 0 => a
  | 1 => b
  | _ => c
theorem level_Usual_any (w : World) : Calls Try.prog 15 #[] w fun e w' => e = .returned (lcV (u3 50 75 90) (u3 40 60 80) 5) ∧ Below w.heap.size w w' := by
  go_enter Try.func15, Try.ntmps15
  go_wp2
  exact bodyPost_ret (v := lcV (u3 50 75 90) (u3 40 60 80) 5) (by simp only [lcV, u3]; simp only [results, Try.results15]; go_simp) rfl ⟨rfl, by (repeat (first | with_reducible exact Below.refl _ _ | with_reducible assumption | with_reducible refine Below.drew ?_ | with_reducible refine Below.drewN ?_ _ | with_reducible refine Below.alloc1 ?_ _ | with_reducible refine Below.setCell1 ?_ (by first | omega | (simp; done) | (simp; omega)) _ | with_reducible refine Below.step ?_ (by with_reducible assumption)))⟩

set_option maxHeartbeats 1000000 in
theorem level_asked_any (up dn : Nat → Int) (hold : Int) (l : Nat) (hl : l ≤ 3) (load : Int) (w : World) :
    Calls Try.prog 26 #[lcV up dn hold, .int .i64 l, .int .i64 load] w fun e w' => e = .returned (.int .i64 (vAsked up load l)) ∧ Below w.heap.size w w' := by
  go_enter Try.func26, Try.ntmps26
  go_wp2_with fail
  generalize hW : World.alloc w _ = w1
  have hb1 : Below w.heap.size w w1 := by subst hW; (repeat (first | with_reducible exact Below.refl _ _ | with_reducible assumption | with_reducible refine Below.drew ?_ | with_reducible refine Below.drewN ?_ _ | with_reducible refine Below.alloc1 ?_ _ | with_reducible refine Below.setCell1 ?_ (by first | omega | (simp; done) | (simp; omega)) _ | with_reducible refine Below.step ?_ (by with_reducible assumption)))
  have k0 : Bk w1 w.heap.size 28 (lcC up dn hold) := by subst hW; (repeat (first | with_reducible exact Bk.new' _ _ _ _ (by simp; done) | with_reducible assumption | with_reducible refine Bk.alloc ?_ _ | with_reducible refine Bk.drew ?_ | with_reducible refine Bk.drewN ?_ _ | with_reducible refine Bk.step ?_ (by with_reducible assumption) | with_reducible refine Bk.far ?_ (by first | omega | (simp; done) | (simp; omega)) _))
  have lk := k0.lt
  clear hW
  go_loopw [1] (fun i wr => ∃ k : Nat, k ≤ 3 ∧ i = .int .i64 k ∧ Hid (vAsked up load l = vAsked up load k) ∧ wr = w1) (fun i _ => 3 - (intOf i).toNat)
  case atStart => exact ⟨l, hl, rfl, rfl, rfl⟩
  case round =>
    obtain ⟨k, hk, rfl, hok, rfl⟩ := hrel
    by_cases hlt : k < 3
    · have c1 := up_cell k0 hlt
      by_cases hu : up k ≤ load
      · have hok' : Hid (vAsked up load l = vAsked up load (k + 1)) := hok.out.trans (vAsked_step hlt hu)
        go_wp2_with fail
        go_roundw
        case rel => exact ⟨k + 1, by omega, by go_num, hok', by first | rfl | trivial⟩
        case measure => simp [intOf]; omega
      · have hok' : Hid (vAsked up load l = k) := hok.out.trans (vAsked_stop (by omega))
        replace hu : load < up k := by omega
        go_wp2_with fail
        go_ret
        exact ⟨ret_int (by rw [hok'.out]), hb1⟩
    · have hok' : Hid (vAsked up load l = k) := hok.out.trans (vAsked_top (by omega))
      go_wp2_with fail
      go_ret
      exact ⟨ret_int (by rw [hok'.out]), hb1⟩

def vAllows (level what : Int) : Bool := vIn level 0 3 && (((what == 0 || what == 2) && decide (level < 3)) || (what == 1 && decide (level < 2)) || what == 3)
theorem level_Allows_any (level what : Int) (w : World) :
    Calls Try.prog 21 #[.int .i64 level, .int .i64 what] w fun e w' => e = .returned (.bool (vAllows level what)) ∧ w = w' := by
  have HA : Hid (vAllows level what = (vIn level 0 3 && (((what == 0 || what == 2) && decide (level < 3)) || (what == 1 && decide (level < 2)) || what == 3))) := rfl
  cases h1 : vIn level 0 3
  · go_enter Try.func21, Try.ntmps21
    go_wp2_with (go_at_call 29; refine (level_in_is h1 _).mono ?_; rintro e w' ⟨rfl, rfl⟩)
    go_ret
    exact ⟨ret_bool (by rw [HA.out, h1]; rfl), rfl⟩
  · by_cases a0 : what = 0
    · subst a0
      by_cases a : level < 3
      all_goals
        go_enter Try.func21, Try.ntmps21
        go_wp2_with (go_at_call 29; refine (level_in_is h1 _).mono ?_; rintro e w' ⟨rfl, rfl⟩)
        go_ret
        exact ⟨ret_bool (by rw [HA.out, h1]; simp [a]), rfl⟩
    · by_cases a1 : what = 1
      · subst a1
        by_cases a : level < 2
        all_goals
          go_enter Try.func21, Try.ntmps21
          go_wp2_with (go_at_call 29; refine (level_in_is h1 _).mono ?_; rintro e w' ⟨rfl, rfl⟩)
          go_ret
          exact ⟨ret_bool (by rw [HA.out, h1]; simp [a]), rfl⟩
      · by_cases a2 : what = 2
        · subst a2
          by_cases a : level < 3
          all_goals
            go_enter Try.func21, Try.ntmps21
            go_wp2_with (go_at_call 29; refine (level_in_is h1 _).mono ?_; rintro e w' ⟨rfl, rfl⟩)
            go_ret
            exact ⟨ret_bool (by rw [HA.out, h1]; simp [a]), rfl⟩
        · by_cases a3 : what = 3
          · subst a3
            go_enter Try.func21, Try.ntmps21
            go_wp2_with (go_at_call 29; refine (level_in_is h1 _).mono ?_; rintro e w' ⟨rfl, rfl⟩)
            go_ret
            exact ⟨ret_bool (by rw [HA.out, h1]; simp), rfl⟩
          · have b0 : (what == 0) = false := by simpa using a0
            have b1 : (what == 1) = false := by simpa using a1
            have b2 : (what == 2) = false := by simpa using a2
            have b3 : (what == 3) = false := by simpa using a3
            clear a0 a1 a2 a3
            go_enter Try.func21, Try.ntmps21
            go_wp2_with (go_at_call 29; refine (level_in_is h1 _).mono ?_; rintro e w' ⟨rfl, rfl⟩)
            go_ret
            exact ⟨ret_bool (by rw [HA.out, h1, b0, b1, b2, b3]; rfl), rfl⟩
end Go.Proofs.Ytbajakifkidccaa

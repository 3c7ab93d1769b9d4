/- Contracts of the reference of chapter 17: the same plain functions. -/
import Derived.Test.YtolpiaehleefbaaA3
namespace Go.Proofs.Ytolpiaehleefbaa
open Go.RowKit
set_option linter.unusedSimpArgs false
set_option linter.unusedVariables false

set_option maxHeartbeats 4000000 in
theorem r17_Check_any (lo hi : Nat → Int) (w : World) :
    Calls Try.prog 64 #[confV lo hi] w fun e w' => e = .returned (.int .i64 (jCheck lo hi)) ∧ Below w.heap.size w w' := by
  go_enter Try.func64, Try.ntmps64
  go_wp2_with fail
  generalize hW : World.alloc w _ = w1
  have hb1 : Below w.heap.size w w1 := by subst hW; (repeat (first | with_reducible exact Below.refl _ _ | with_reducible assumption | with_reducible refine Below.drew ?_ | with_reducible refine Below.drewN ?_ _ | with_reducible refine Below.alloc1 ?_ _ | with_reducible refine Below.setCell1 ?_ (by first | omega | (simp; done) | (simp; omega)) _ | with_reducible refine Below.step ?_ (by with_reducible assumption)))
  have k0 : Bk w1 w.heap.size 29 (confC lo hi) := by subst hW; (repeat (first | with_reducible exact Bk.new' _ _ _ _ (by simp; done) | with_reducible assumption | with_reducible refine Bk.alloc ?_ _ | with_reducible refine Bk.drew ?_ | with_reducible refine Bk.drewN ?_ _ | with_reducible refine Bk.step ?_ (by with_reducible assumption) | with_reducible refine Bk.far ?_ (by first | omega | (simp; done) | (simp; omega)) _))
  have lk := k0.lt
  clear hW
  go_loopw [3] (fun i wr => ∃ k : Nat, k ≤ 4 ∧ i = .int .i64 k ∧ (∀ j, j < k → jOk1 lo hi j = true) ∧ wr = w1) (fun i _ => 4 - (intOf i).toNat)
  case atStart => exact ⟨0, by omega, rfl, by omega, rfl⟩
  case round =>
    obtain ⟨k, hk, rfl, hok, rfl⟩ := hrel
    by_cases hlt : k < 4
    · have c1 := lo_cell k0 hlt
      have c2 := hi_cell k0 hlt
      cases e1 : jOk1 lo hi k
      case true =>
        have hok' : ∀ j, j < k + 1 → jOk1 lo hi j = true := fun j hj => by
          rcases Nat.lt_or_ge j k with h | h
          · exact hok j h
          · obtain rfl : j = k := by omega
            exact e1
        have e2 := e1
        simp only [jOk1, Bool.and_eq_true] at e2
        have b1 := jIn_t e2.1
        have b2 := jIn_t e2.2
        have HO := hide hok'
        clear hok hok' e1 e2
        go_wp2_with fail
        go_roundw
        case rel => exact ⟨k + 1, by omega, by go_num, HO.out, by first | rfl | trivial⟩
        case measure => simp [intOf]; omega
      · have hc : jCheck lo hi = 8 := by
          unfold jCheck
          rw [if_neg]
          intro h
          simp only [Bool.and_eq_true] at h
          have h4 : k = 0 ∨ k = 1 ∨ k = 2 ∨ k = 3 := by omega
          rcases h4 with rfl | rfl | rfl | rfl <;> simp_all
        have HC := hide hc
        have e2 : lo k < 1 ∨ 10000 < lo k ∨ hi k < 1 ∨ 10000 < hi k := by
          simp only [jOk1, jIn, Bool.and_eq_false_iff, decide_eq_false_iff_not] at e1; omega
        clear hok e1 hc
        by_cases p1 : lo k < 1
        · clear e2; go_wp2_with fail
          go_ret
          exact ⟨ret_int HC.out.symm, hb1⟩
        · replace p1 : 1 ≤ lo k := by omega
          by_cases p2 : 10000 < lo k
          · clear e2; go_wp2_with fail
            go_ret
            exact ⟨ret_int HC.out.symm, hb1⟩
          · replace p2 : lo k ≤ 10000 := by omega
            by_cases p3 : hi k < 1
            · clear e2; go_wp2_with fail
              go_ret
              exact ⟨ret_int HC.out.symm, hb1⟩
            · replace p3 : 1 ≤ hi k := by omega
              replace p4 : 10000 < hi k := by omega
              clear e2
              go_wp2_with fail
              go_ret
              exact ⟨ret_int HC.out.symm, hb1⟩
    · have hall : (jOk1 lo hi 0 && jOk1 lo hi 1 && jOk1 lo hi 2 && jOk1 lo hi 3) = true := by simp [hok 0 (by omega), hok 1 (by omega), hok 2 (by omega), hok 3 (by omega)]
      have hcc : jCheck lo hi = if jOk2 lo hi 0 && jOk2 lo hi 1 && jOk2 lo hi 2 && jOk2 lo hi 3 then 0 else 10 := by unfold jCheck; rw [if_pos hall]
      have HCC := hide hcc
      have h10 : 1 ≤ lo 0 ∧ 1 ≤ hi 0 := by
        have e1 := hok 0 (by omega)
        simp only [jOk1, Bool.and_eq_true] at e1
        exact ⟨(jIn_t e1.1).1, (jIn_t e1.2).1⟩
      clear hcc hall
      go_wp2_with fail
      obtain ⟨w1, rfl⟩ : ∃ w1 : World, w1 = wr := ⟨_, rfl⟩
      go_loopw [4] (fun i wr => ∃ (k n : Nat), k ≤ 4 ∧ i = .int .i64 k ∧ (∀ j, j < k → jOk2 lo hi j = true) ∧ wr = w1.drewN n) (fun i _ => 4 - (intOf i).toNat)
      case atStart => exact ⟨0, 0, by omega, rfl, by omega, rfl⟩
      case round =>
        clear hok hlt hk
        obtain ⟨k, n, hk, rfl, hok, rfl⟩ := hrel
        by_cases hlt : k < 4
        · have c1 := lo_cell k0 hlt
          have c2 := hi_cell k0 hlt
          have lk' : w.heap.size < (w1.drewN n).heap.size := lk
          have HB := hide hb1
          have hno : jOk2 lo hi k = false → jCheck lo hi = 10 := fun h => by
            rw [HCC.out, if_neg]
            intro h'
            simp only [Bool.and_eq_true] at h'
            have h4 : k = 0 ∨ k = 1 ∨ k = 2 ∨ k = 3 := by omega
            rcases h4 with rfl | rfl | rfl | rfl <;> simp_all
          have hok' : jOk2 lo hi k = true → ∀ j, j < k + 1 → jOk2 lo hi j = true := fun a j hj => by
            rcases Nat.lt_or_ge j k with h | h
            · exact hok j h
            · obtain rfl : j = k := by omega
              exact a
          have HN := hide hno
          have HO := hide hok'
          clear hno hok' hok hb1
          by_cases a3 : hi k < lo k
          · have a : Hid (jOk2 lo hi k = false) := by show _ = false; simp only [jOk2, Bool.and_eq_false_iff, decide_eq_false_iff_not]; omega
            go_wp2_with fail
            go_quiet (fail)
            go_wp2_with fail
            go_ret
            exact ⟨ret_int (HN.out a.out).symm, (HB.out.drewN _).drewN _⟩
          · have d3 : decide (hi k < lo k) = false := by simpa using a3
            replace a3 : lo k ≤ hi k := by omega
            rcases Nat.eq_zero_or_pos k with k00 | k00
            · subst k00
              have d0 : decide ((0 : Int) < 0) = false := by decide
              have a : Hid (jOk2 lo hi 0 = true) := by show _ = true; unfold jOk2; rw [show jPrev lo 0 = 0 from rfl, show jPrev hi 0 = 0 from rfl]; simp only [Bool.and_eq_true, decide_eq_true_eq]; omega
              go_wp2_with fail
              go_quiet (fail)
              go_wp2_with fail
              go_roundw
              case rel => exact ⟨0 + 1, _, by omega, by go_num, HO.out a.out, rfl⟩
              case measure => simp [intOf]
            · obtain ⟨m, rfl⟩ : ∃ m, k = m + 1 := ⟨k - 1, by omega⟩
              have c3 := lo_cell k0 (k := m) (by omega)
              have c4 := hi_cell k0 (k := m) (by omega)
              have b0 : 0 ≤ (m : Int) + 1 := by omega
              have b1 : (m : Int) + 1 < 4 := by omega
              have b2 : ((m : Int) + 1).toNat = m + 1 := by omega
              have d0 : decide ((0 : Int) < ((m + 1 : Nat) : Int)) = true := by simp <;> omega
              have w1 : IntKind.i64.wrap (((m + 1 : Nat) : Int) - 1) = m := by rw [IntWalk.i64_in _ (by omega)]; omega
              have w2 : IntKind.i64.wrap ((m : Int) + 1 - 1) = m := by rw [IntWalk.i64_in _ (by omega)]; omega
              by_cases a1 : lo (m + 1) < lo m
              · have a : Hid (jOk2 lo hi (m + 1) = false) := by show _ = false; unfold jOk2; rw [show jPrev lo (m + 1) = lo m from rfl, show jPrev hi (m + 1) = hi m from rfl]; simp only [Bool.and_eq_false_iff, decide_eq_false_iff_not]; clear w1 w2; omega
                go_wp2_with fail
                go_quiet (fail)
                go_wp2_with fail
                go_ret
                exact ⟨ret_int (HN.out a.out).symm, (HB.out.drewN _).drewN _⟩
              · have d1 : decide (lo (m + 1) < lo m) = false := by simpa using a1
                by_cases a2 : hi (m + 1) < hi m
                · have a : Hid (jOk2 lo hi (m + 1) = false) := by show _ = false; unfold jOk2; rw [show jPrev lo (m + 1) = lo m from rfl, show jPrev hi (m + 1) = hi m from rfl]; simp only [Bool.and_eq_false_iff, decide_eq_false_iff_not]; clear w1 w2; omega
                  go_wp2_with fail
                  go_quiet (fail)
                  go_wp2_with fail
                  go_ret
                  exact ⟨ret_int (HN.out a.out).symm, (HB.out.drewN _).drewN _⟩
                · have d2 : decide (hi (m + 1) < hi m) = false := by simpa using a2
                  have a : Hid (jOk2 lo hi (m + 1) = true) := by show _ = true; unfold jOk2; rw [show jPrev lo (m + 1) = lo m from rfl, show jPrev hi (m + 1) = hi m from rfl]; simp only [Bool.and_eq_true, decide_eq_true_eq]; clear w1 w2; omega
                  go_wp2_with fail
                  go_quiet (fail)
                  go_wp2_with fail
                  go_roundw
                  case rel => exact ⟨m + 1 + 1, _, by omega, by go_num, HO.out a.out, rfl⟩
                  case measure => simp [intOf]; omega
        · have hc : jCheck lo hi = 0 := by rw [HCC.out, if_pos]; simp [hok 0 (by omega), hok 1 (by omega), hok 2 (by omega), hok 3 (by omega)]
          go_wp2_with fail
          go_ret
          exact ⟨ret_int hc.symm, hb1.drewN _⟩
theorem r17_Check_is {lo hi : Nat → Int} {v : Int} (h : jCheck lo hi = v) (w : World) :
    Calls Try.prog 64 #[confV lo hi] w fun e w' => e = .returned (.int .i64 v) ∧ Below w.heap.size w w' := by
  subst h; exact r17_Check_any lo hi w
theorem r17_may_any (lo hi : Nat → Int) (level : Int) (w : World) :
    Calls Try.prog 81 #[confV lo hi, .int .i64 level] w fun e w' => e = .returned (.bool (jMay lo hi level)) ∧ Below w.heap.size w w' := by
  by_cases h1 : 0 ≤ level
  · by_cases h2 : level ≤ 3
    · have hv := jCheck_cases lo hi
      have HM : Hid (jMay lo hi level = (jCheck lo hi == 0)) := by show _ = _; simp [jMay, jIn, h1, h2]
      rcases hv with h | h | h
      all_goals
        go_enter Try.func81, Try.ntmps81
        go_wp2_with fail
        generalize hW : World.alloc w _ = w1
        have hb1 : Below w.heap.size w w1 := by subst hW; (repeat (first | with_reducible exact Below.refl _ _ | with_reducible assumption | with_reducible refine Below.drew ?_ | with_reducible refine Below.drewN ?_ _ | with_reducible refine Below.alloc1 ?_ _ | with_reducible refine Below.setCell1 ?_ (by first | omega | (simp; done) | (simp; omega)) _ | with_reducible refine Below.step ?_ (by with_reducible assumption)))
        have k0 : Bk w1 w.heap.size 29 (confC lo hi) := by subst hW; (repeat (first | with_reducible exact Bk.new' _ _ _ _ (by simp; done) | with_reducible assumption | with_reducible refine Bk.alloc ?_ _ | with_reducible refine Bk.drew ?_ | with_reducible refine Bk.drewN ?_ _ | with_reducible refine Bk.step ?_ (by with_reducible assumption) | with_reducible refine Bk.far ?_ (by first | omega | (simp; done) | (simp; omega)) _))
        clear hW
        have k0_0 := k0.cell 0; have k0_f0 := k0.frozen 0; have k0_1 := k0.cell 1; have k0_f1 := k0.frozen 1; have k0_2 := k0.cell 2; have k0_f2 := k0.frozen 2; have k0_3 := k0.cell 3; have k0_f3 := k0.frozen 3; have k0_4 := k0.cell 4; have k0_f4 := k0.frozen 4; have k0_5 := k0.cell 5; have k0_f5 := k0.frozen 5; have k0_6 := k0.cell 6; have k0_f6 := k0.frozen 6; have k0_7 := k0.cell 7; have k0_f7 := k0.frozen 7; simp only [List.set_cons_zero, List.set_cons_succ, List.getElem?_cons_zero, List.getElem?_cons_succ] at k0_0 k0_1 k0_2 k0_3 k0_4 k0_5 k0_6 k0_7
        have H := hide h
        clear h
        go_wp2_with (go_at_call 64; refine (r17_Check_is H.out _).mono ?_; rintro e w2 ⟨rfl, hb2⟩)
        go_ret
        exact ⟨ret_bool (by rw [HM.out, H.out]; rfl), by (repeat (first | with_reducible exact Below.refl _ _ | with_reducible assumption | with_reducible refine Below.drew ?_ | with_reducible refine Below.drewN ?_ _ | with_reducible refine Below.alloc1 ?_ _ | with_reducible refine Below.setCell1 ?_ (by first | omega | (simp; done) | (simp; omega)) _ | with_reducible refine Below.step ?_ (by with_reducible assumption)))⟩
    · go_enter Try.func81, Try.ntmps81
      go_wp2_with fail
      go_ret
      exact ⟨ret_bool (by simp [jMay, jIn]; omega), by (repeat (first | with_reducible exact Below.refl _ _ | with_reducible assumption | with_reducible refine Below.drew ?_ | with_reducible refine Below.drewN ?_ _ | with_reducible refine Below.alloc1 ?_ _ | with_reducible refine Below.setCell1 ?_ (by first | omega | (simp; done) | (simp; omega)) _ | with_reducible refine Below.step ?_ (by with_reducible assumption)))⟩
  · go_enter Try.func81, Try.ntmps81
    go_wp2_with fail
    go_ret
    exact ⟨ret_bool (by simp [jMay, jIn]; omega), by (repeat (first | with_reducible exact Below.refl _ _ | with_reducible assumption | with_reducible refine Below.drew ?_ | with_reducible refine Below.drewN ?_ _ | with_reducible refine Below.alloc1 ?_ _ | with_reducible refine Below.setCell1 ?_ (by first | omega | (simp; done) | (simp; omega)) _ | with_reducible refine Below.step ?_ (by with_reducible assumption)))⟩
theorem r17_may_is {lo hi : Nat → Int} {level : Int} {v : Bool} (h : jMay lo hi level = v) (w : World) :
    Calls Try.prog 81 #[confV lo hi, .int .i64 level] w fun e w' => e = .returned (.bool v) ∧ Below w.heap.size w w' := by
  subst h; exact r17_may_any lo hi level w
theorem r17_Width_yes {lo hi : Nat → Int} {k : Nat} (h : jCheck lo hi = 0) (hk : k < 4) (w : World) :
    Calls Try.prog 83 #[confV lo hi, .int .i64 k] w fun e w' => e = .returned (.int .i64 (hi k - lo k + 1)) ∧ Below w.heap.size w w' := by
  have hm : jMay lo hi k = true := by simp [jMay, jIn, h]; omega
  have hr := jCheck_t h hk
  have HM := hide hm
  clear h hm
  have s1 : IntKind.i64.wrap (hi k - lo k) = hi k - lo k := IntWalk.i64_in _ (by omega)
  have s2 : IntKind.i64.wrap (hi k - lo k + 1) = hi k - lo k + 1 := IntWalk.i64_in _ (by omega)
  go_enter Try.func83, Try.ntmps83
  go_wp2_with fail
  generalize hW : World.alloc w _ = w1
  have hb1 : Below w.heap.size w w1 := by subst hW; (repeat (first | with_reducible exact Below.refl _ _ | with_reducible assumption | with_reducible refine Below.drew ?_ | with_reducible refine Below.drewN ?_ _ | with_reducible refine Below.alloc1 ?_ _ | with_reducible refine Below.setCell1 ?_ (by first | omega | (simp; done) | (simp; omega)) _ | with_reducible refine Below.step ?_ (by with_reducible assumption)))
  have k0 : Bk w1 w.heap.size 29 (confC lo hi) := by subst hW; (repeat (first | with_reducible exact Bk.new' _ _ _ _ (by simp; done) | with_reducible assumption | with_reducible refine Bk.alloc ?_ _ | with_reducible refine Bk.drew ?_ | with_reducible refine Bk.drewN ?_ _ | with_reducible refine Bk.step ?_ (by with_reducible assumption) | with_reducible refine Bk.far ?_ (by first | omega | (simp; done) | (simp; omega)) _))
  clear hW
  have k0_0 := k0.cell 0; have k0_f0 := k0.frozen 0; have k0_1 := k0.cell 1; have k0_f1 := k0.frozen 1; have k0_2 := k0.cell 2; have k0_f2 := k0.frozen 2; have k0_3 := k0.cell 3; have k0_f3 := k0.frozen 3; have k0_4 := k0.cell 4; have k0_f4 := k0.frozen 4; have k0_5 := k0.cell 5; have k0_f5 := k0.frozen 5; have k0_6 := k0.cell 6; have k0_f6 := k0.frozen 6; have k0_7 := k0.cell 7; have k0_f7 := k0.frozen 7; simp only [List.set_cons_zero, List.set_cons_succ, List.getElem?_cons_zero, List.getElem?_cons_succ] at k0_0 k0_1 k0_2 k0_3 k0_4 k0_5 k0_6 k0_7
  refine (r17_may_is HM.out _).mono ?_; rintro e w2 ⟨rfl, hb2⟩
  have k2 := k0.step hb2
  have c1 := lo_cell k2 hk
  have c2 := hi_cell k2 hk
  have l2 := k2.lt
  go_wp2_with fail
  go_quiet (fail)
  go_wp2_with fail
  go_ret
  exact ⟨rfl, by (repeat (first | with_reducible exact Below.refl _ _ | with_reducible assumption | with_reducible refine Below.drew ?_ | with_reducible refine Below.drewN ?_ _ | with_reducible refine Below.alloc1 ?_ _ | with_reducible refine Below.setCell1 ?_ (by first | omega | (simp; done) | (simp; omega)) _ | with_reducible refine Below.step ?_ (by with_reducible assumption)))⟩
end Go.Proofs.Ytolpiaehleefbaa

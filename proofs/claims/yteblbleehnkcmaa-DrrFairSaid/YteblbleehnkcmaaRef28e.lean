/- callboyref28: Near, Same. -/
import Derived.Test.YteblbleehnkcmaaRef28d
namespace Go.Proofs.Yteblbleehnkcmaa
open Go.RowKit Go.Sort
set_option linter.unusedSimpArgs false
set_option linter.unusedVariables false

set_option maxRecDepth 100000 in
set_option maxHeartbeats 8000000 in
theorem ref_Near_any (q a0 a1 b0 b1 : Int) (w : World) : Calls Try.prog 26 #[.int .i64 q, prV a0 a1, prV b0 b1] w fun e w' => e = .returned (.bool (dNear q a0 a1 b0 b1)) ∧ Below w.heap.size w w' := by
  have h0 := fun W => ref_in_any q 128 4096 W
  have h1 := fun W => ref_in_any a0 0 1073741824 W
  have h2 := fun W => ref_in_any b0 0 1073741824 W
  have h3 := fun W => ref_in_any a1 1 8 W
  have h4 := fun W => ref_in_any b1 1 8 W
  have hN := hide (show dNear q a0 a1 b0 b1 = if dIn q 128 4096 = false then false else if (!dIn a0 0 1073741824 || !dIn a1 1 8) = true then false else if (!dIn b0 0 1073741824 || !dIn b1 1 8) = true then false else decide (-(3 * q * a1 * b1) < a0 * b1 - b0 * a1) && decide (a0 * b1 - b0 * a1 < 3 * q * a1 * b1) from rfl)
  have hB : Hid (dIn q 128 4096 = true → dIn a0 0 1073741824 = true → dIn a1 1 8 = true → dIn b0 0 1073741824 = true → dIn b1 1 8 = true → (128 ≤ q ∧ q ≤ 4096) ∧ (0 ≤ a0 ∧ a0 ≤ 1073741824) ∧ (1 ≤ a1 ∧ a1 ≤ 8) ∧ (0 ≤ b0 ∧ b0 ≤ 1073741824) ∧ 1 ≤ b1 ∧ b1 ≤ 8) := by
    intro x0 x1 x2 x3 x4
    simp [dIn] at x0 x1 x2 x3 x4
    omega
  generalize dIn q 128 4096 = bq at *
  generalize dIn a0 0 1073741824 = ba0 at *
  generalize dIn a1 1 8 = ba1 at *
  generalize dIn b0 0 1073741824 = bb0 at *
  generalize dIn b1 1 8 = bb1 at *
  generalize dNear q a0 a1 b0 b1 = R at *
  go_enter Try.func26, Try.ntmps26
  go_wp2_with fail
  refine (h0 _).mono ?_; rintro e w1 ⟨rfl, rfl⟩
  cases bq with
  | false =>
    have hr := hN.out
    simp at hr
    clear hN hB
    go_wp2
    go_ret
    exact ⟨ret_bool hr.symm, by (repeat (first | with_reducible exact Below.refl _ _ | with_reducible assumption | with_reducible refine Below.drew ?_ | with_reducible refine Below.drewN ?_ _ | with_reducible refine Below.alloc1 ?_ _ | with_reducible refine Below.setCell1 ?_ (by first | omega | (simp; done) | (simp; omega)) _ | with_reducible refine Below.step ?_ (by with_reducible assumption)))⟩
  | true =>
    go_wp2_with fail
    refine (h1 _).mono ?_; rintro e w1 ⟨rfl, rfl⟩
    cases ba0 with
    | false =>
      have hr := hN.out
      simp at hr
      clear hN hB
      go_wp2
      go_ret
      exact ⟨ret_bool hr.symm, by (repeat (first | with_reducible exact Below.refl _ _ | with_reducible assumption | with_reducible refine Below.drew ?_ | with_reducible refine Below.drewN ?_ _ | with_reducible refine Below.alloc1 ?_ _ | with_reducible refine Below.setCell1 ?_ (by first | omega | (simp; done) | (simp; omega)) _ | with_reducible refine Below.step ?_ (by with_reducible assumption)))⟩
    | true =>
      go_wp2_with fail
      refine (h2 _).mono ?_; rintro e w1 ⟨rfl, rfl⟩
      cases bb0 with
      | false =>
        have hr := hN.out
        simp at hr
        clear hN hB
        go_wp2
        go_ret
        exact ⟨ret_bool hr.symm, by (repeat (first | with_reducible exact Below.refl _ _ | with_reducible assumption | with_reducible refine Below.drew ?_ | with_reducible refine Below.drewN ?_ _ | with_reducible refine Below.alloc1 ?_ _ | with_reducible refine Below.setCell1 ?_ (by first | omega | (simp; done) | (simp; omega)) _ | with_reducible refine Below.step ?_ (by with_reducible assumption)))⟩
      | true =>
        go_wp2_with fail
        refine (h3 _).mono ?_; rintro e w1 ⟨rfl, rfl⟩
        cases ba1 with
        | false =>
          have hr := hN.out
          simp at hr
          clear hN hB
          go_wp2
          go_ret
          exact ⟨ret_bool hr.symm, by (repeat (first | with_reducible exact Below.refl _ _ | with_reducible assumption | with_reducible refine Below.drew ?_ | with_reducible refine Below.drewN ?_ _ | with_reducible refine Below.alloc1 ?_ _ | with_reducible refine Below.setCell1 ?_ (by first | omega | (simp; done) | (simp; omega)) _ | with_reducible refine Below.step ?_ (by with_reducible assumption)))⟩
        | true =>
          go_wp2_with fail
          refine (h4 _).mono ?_; rintro e w1 ⟨rfl, rfl⟩
          cases bb1 with
          | false =>
            have hr := hN.out
            simp at hr
            clear hN hB
            go_wp2
            go_ret
            exact ⟨ret_bool hr.symm, by (repeat (first | with_reducible exact Below.refl _ _ | with_reducible assumption | with_reducible refine Below.drew ?_ | with_reducible refine Below.drewN ?_ _ | with_reducible refine Below.alloc1 ?_ _ | with_reducible refine Below.setCell1 ?_ (by first | omega | (simp; done) | (simp; omega)) _ | with_reducible refine Below.step ?_ (by with_reducible assumption)))⟩
          | true =>
            have hr := hN.out
            have hbd := hB.out (by simp) (by simp) (by simp) (by simp) (by simp)
            simp at hr
            have HR := hide hr
            clear hr hN hB
            have m1 := mul_in hbd.2.1.1 hbd.2.1.2 (show 0 ≤ b1 by omega) (show b1 ≤ 8 by omega)
            have m2 := mul_in hbd.2.2.2.1.1 hbd.2.2.2.1.2 (show 0 ≤ a1 by omega) (show a1 ≤ 8 by omega)
            have m3 := mul_in (show 0 ≤ 3 * q by omega) (show 3 * q ≤ 12288 by omega) (show 0 ≤ a1 by omega) (show a1 ≤ 8 by omega)
            have m4 := mul_in m3.1 m3.2 (show 0 ≤ b1 by omega) (show b1 ≤ 8 by omega)
            have e3 := IntWalk.i64_in (3 * q) (by omega)
            have e1 := IntWalk.i64_in (a0 * b1) (by clear m2 m3 m4; omega)
            have e2 := IntWalk.i64_in (b0 * a1) (by clear m1 m3 m4; omega)
            have e4 := IntWalk.i64_in (3 * q * a1) (by clear m1 m2 m4; omega)
            have e5 := IntWalk.i64_in (3 * q * a1 * b1) (by clear m1 m2 m3; omega)
            have e6 := IntWalk.i64_in (a0 * b1 - b0 * a1) (by clear m3 m4; omega)
            have e7 := IntWalk.i64_in (-(a0 * b1 - b0 * a1)) (by clear m3 m4; omega)
            clear m1 m2 m3 m4 hbd
            go_wp2
            all_goals
              go_ret
              exact ⟨ret_bool (by rw [HR.out, Bool.eq_iff_iff]; simp; omega), by (repeat (first | with_reducible exact Below.refl _ _ | with_reducible assumption | with_reducible refine Below.drew ?_ | with_reducible refine Below.drewN ?_ _ | with_reducible refine Below.alloc1 ?_ _ | with_reducible refine Below.setCell1 ?_ (by first | omega | (simp; done) | (simp; omega)) _ | with_reducible refine Below.step ?_ (by with_reducible assumption)))⟩
def stEq (l l' : List Fl) (at_ at' : Int) (mid mid' : Bool) : Bool := decide (at_ = at') && decide (mid = mid') && decide (l = l')
theorem rfl_neq (x y : Fl) (b : Bool) (hb : b = decide (x = y)) (w' : World) : (binOp .neq 73 (flV x) (flV y)).run Try.prog w' = .ok (.bool (!b)) w' := by
  subst hb
  obtain ⟨x0, x1, x2⟩ := x
  obtain ⟨y0, y1, y2⟩ := y
  have hS : Try.prog.underlying 73 = some (.struct (Try.prog.fieldsOf 73)) := by kernel_rfl
  have hp : Try.prog.stoodInHeld 73 = false := by kernel_rfl
  rw [run_neq_struct, show (10000 : Nat) = 9999 + 1 from rfl, run_equalIn_agg w' 9999 73 _ _ hS hp]
  simp only [Program.fieldsOf, Try.underlying73]
  go_simp
  by_cases h0 : x0 = y0 <;> by_cases h1 : x1 = y1 <;> by_cases h2 : x2 = y2 <;> simp [h0, h1, h2]
set_option maxRecDepth 100000 in
set_option maxHeartbeats 8000000 in
theorem ref_Same_any (A B : Option Addr) (c d : Nat) (l m : List Fl) (at_ at' : Int) (mid mid' : Bool) (w : World) (hl : l.length ≤ 1000) (ha : Rd w w.heap.size A (flR l)) (hb0 : Rd w w.heap.size B (flR m)) :
    Calls Try.prog 13 #[rsV A l.length c at_ mid, rsV B m.length d at' mid'] w fun e w' => e = .returned (.bool (stEq l m at_ at' mid mid')) ∧ Below w.heap.size w w' := by
  by_cases hlen : l.length = m.length
  · have hne : ((l.length : Int) != (m.length : Int)) = false := by rw [bne_eq_false_iff_eq]; omega
    have hlen' : l.length ≤ m.length ∧ m.length ≤ l.length := by omega
    have HL := hide hlen
    clear hlen
    by_cases hat : at_ = at'
    · have hat2 : (at_ != at') = false := by rw [bne_eq_false_iff_eq]; exact hat
      by_cases hmi : mid = mid'
      · have HR : Hid (stEq l m at_ at' mid mid' = decide (l = m)) := by unfold Hid stEq; rw [decide_eq_true hat, decide_eq_true hmi]; simp
        clear hat
        subst hmi
        go_enter Try.func13, Try.ntmps13
        go_wp2_with fail
        generalize hV : World.alloc (World.alloc w _) _ = w1
        have hb1 : Below w.heap.size w w1 := by subst hV; (repeat (first | with_reducible exact Below.refl _ _ | with_reducible assumption | with_reducible refine Below.drew ?_ | with_reducible refine Below.drewN ?_ _ | with_reducible refine Below.alloc1 ?_ _ | with_reducible refine Below.setCell1 ?_ (by first | omega | (simp; done) | (simp; omega)) _ | with_reducible refine Below.step ?_ (by with_reducible assumption)))
        have k0 : Bk w1 w.heap.size 24 (dsC A l.length c at_ mid) := by subst hV; (repeat (first | with_reducible exact Bk.new' _ _ _ _ (by simp; done) | with_reducible assumption | with_reducible refine Bk.alloc ?_ _ | with_reducible refine Bk.drew ?_ | with_reducible refine Bk.drewN ?_ _ | with_reducible refine Bk.step ?_ (by with_reducible assumption) | with_reducible refine Bk.far ?_ (by first | omega | (simp; done) | (simp; omega)) _))
        have k1 : Bk w1 (w.heap.size + 1) 24 (dsC B m.length d at' mid) := by subst hV; (repeat (first | with_reducible exact Bk.new' _ _ _ _ (by simp; done) | with_reducible assumption | with_reducible refine Bk.alloc ?_ _ | with_reducible refine Bk.drew ?_ | with_reducible refine Bk.drewN ?_ _ | with_reducible refine Bk.step ?_ (by with_reducible assumption) | with_reducible refine Bk.far ?_ (by first | omega | (simp; done) | (simp; omega)) _))
        clear hV
        have k0_0 := k0.cell 0; have k0_f0 := k0.frozen 0; have k0_1 := k0.cell 1; have k0_f1 := k0.frozen 1; have k0_2 := k0.cell 2; have k0_f2 := k0.frozen 2; simp only [List.set_cons_zero, List.set_cons_succ, List.getElem?_cons_zero, List.getElem?_cons_succ] at k0_0 k0_1 k0_2; have lt_k0 := k0.lt; have k1_0 := k1.cell 0; have k1_f0 := k1.frozen 0; have k1_1 := k1.cell 1; have k1_f1 := k1.frozen 1; have k1_2 := k1.cell 2; have k1_f2 := k1.frozen 2; simp only [List.set_cons_zero, List.set_cons_succ, List.getElem?_cons_zero, List.getElem?_cons_succ] at k1_0 k1_1 k1_2; have lt_k1 := k1.lt
        cases mid
        all_goals
          go_wp2
          (try clear k0_0 k0_f0 k0_1 k0_f1 k0_2 k0_f2 lt_k0) ; (try clear k1_0 k1_f0 k1_1 k1_f1 k1_2 k1_f2 lt_k1)
          go_loopw [5] (fun i wr => ∃ k : Nat, k ≤ l.length ∧ i = .int .i64 k ∧ l.take k = m.take k ∧ Bk wr w.heap.size 24 (dsC A l.length c at_ _) ∧ Bk wr (w.heap.size + 1) 24 (dsC B m.length d at' _) ∧ Below w.heap.size w wr) (fun i _ => l.length - (intOf i).toNat)
          case atStart => exact ⟨0, Nat.zero_le _, rfl, rfl, k0, k1, hb1⟩
          case round =>
            clear k0 k1 hb1
            obtain ⟨k, hk, rfl, ht, k0, k1, hb⟩ := hrel
            have HT := hide ht
            clear ht
            have k0_0 := k0.cell 0; have k0_f0 := k0.frozen 0; have k0_1 := k0.cell 1; have k0_f1 := k0.frozen 1; have k0_2 := k0.cell 2; have k0_f2 := k0.frozen 2; simp only [List.set_cons_zero, List.set_cons_succ, List.getElem?_cons_zero, List.getElem?_cons_succ] at k0_0 k0_1 k0_2; have lt_k0 := k0.lt; have k1_0 := k1.cell 0; have k1_f0 := k1.frozen 0; have k1_1 := k1.cell 1; have k1_f1 := k1.frozen 1; have k1_2 := k1.cell 2; have k1_f2 := k1.frozen 2; simp only [List.set_cons_zero, List.set_cons_succ, List.getElem?_cons_zero, List.getElem?_cons_succ] at k1_0 k1_1 k1_2; have lt_k1 := k1.lt
            by_cases hlt : k < l.length
            · obtain ⟨ad, rfl, _, a0, a1, a2⟩ := (ha.below hb).fl hlt
              obtain ⟨bd, rfl, _, b0, b1, b2⟩ := (hb0.below hb).fl (k := k) (by omega)
              have h2 : k < m.length := by omega
              have hE := rfl_neq l[k] m[k]
              by_cases he : l[k] = m[k]
              · have hE1 := hE true (by simp [he])
                have HE := hide he
                clear he hE
                go_wp2_with fail
                go_quiet (fail)
                go_wp2
                go_roundw
                case rel => exact ⟨k + 1, by omega, by go_num, take_eq_succ l m k hlt h2 HT.out HE.out, k0, k1, by (repeat (first | with_reducible exact Below.refl _ _ | with_reducible assumption | with_reducible refine Below.drew ?_ | with_reducible refine Below.drewN ?_ _ | with_reducible refine Below.alloc1 ?_ _ | with_reducible refine Below.setCell1 ?_ (by first | omega | (simp; done) | (simp; omega)) _ | with_reducible refine Below.step ?_ (by with_reducible assumption)))⟩
                case measure => simp [intOf]; omega
              · have hE1 := hE false (by simp [he])
                have HN : Hid (decide (l = m) = false) := by unfold Hid; rw [decide_eq_false_iff_not]; intro e; subst e; exact he rfl
                clear hE
                go_wp2_with fail
                go_quiet (fail)
                go_wp2
                go_ret
                exact ⟨ret_bool (by rw [HR.out, HN.out]), by (repeat (first | with_reducible exact Below.refl _ _ | with_reducible assumption | with_reducible refine Below.drew ?_ | with_reducible refine Below.drewN ?_ _ | with_reducible refine Below.alloc1 ?_ _ | with_reducible refine Below.setCell1 ?_ (by first | omega | (simp; done) | (simp; omega)) _ | with_reducible refine Below.step ?_ (by with_reducible assumption)))⟩
            · go_wp2
              go_ret
              refine ⟨ret_bool ?_, by (repeat (first | with_reducible exact Below.refl _ _ | with_reducible assumption | with_reducible refine Below.drew ?_ | with_reducible refine Below.drewN ?_ _ | with_reducible refine Below.alloc1 ?_ _ | with_reducible refine Below.setCell1 ?_ (by first | omega | (simp; done) | (simp; omega)) _ | with_reducible refine Below.step ?_ (by with_reducible assumption)))⟩
              have h := HT.out
              rw [List.take_of_length_le (by omega), List.take_of_length_le (by omega)] at h
              rw [HR.out, eq_comm, decide_eq_true_eq]
              exact h
      · have HR : Hid (stEq l m at_ at' mid mid' = false) := by unfold Hid stEq; rw [decide_eq_false hmi]; simp
        clear hat
        cases mid <;> cases mid'
        all_goals first
          | exact absurd rfl hmi
          | (go_enter Try.func13, Try.ntmps13
             go_wp2
             go_ret
             exact ⟨ret_bool HR.out.symm, by (repeat (first | with_reducible exact Below.refl _ _ | with_reducible assumption | with_reducible refine Below.drew ?_ | with_reducible refine Below.drewN ?_ _ | with_reducible refine Below.alloc1 ?_ _ | with_reducible refine Below.setCell1 ?_ (by first | omega | (simp; done) | (simp; omega)) _ | with_reducible refine Below.step ?_ (by with_reducible assumption)))⟩)
    · have HR : Hid (stEq l m at_ at' mid mid' = false) := by unfold Hid stEq; rw [decide_eq_false hat]; simp
      have hat2 : (at_ != at') = true := by rw [bne_iff_ne]; exact hat
      clear hat
      go_enter Try.func13, Try.ntmps13
      go_wp2
      go_ret
      exact ⟨ret_bool HR.out.symm, by (repeat (first | with_reducible exact Below.refl _ _ | with_reducible assumption | with_reducible refine Below.drew ?_ | with_reducible refine Below.drewN ?_ _ | with_reducible refine Below.alloc1 ?_ _ | with_reducible refine Below.setCell1 ?_ (by first | omega | (simp; done) | (simp; omega)) _ | with_reducible refine Below.step ?_ (by with_reducible assumption)))⟩
  · have hne : ((l.length : Int) != (m.length : Int)) = true := by rw [bne_iff_ne]; omega
    have HR : Hid (stEq l m at_ at' mid mid' = false) := by unfold Hid stEq; rw [decide_eq_false (p := l = m) (fun e => hlen (by rw [e]))]; simp
    clear hlen
    go_enter Try.func13, Try.ntmps13
    go_wp2
    go_ret
    exact ⟨ret_bool HR.out.symm, by (repeat (first | with_reducible exact Below.refl _ _ | with_reducible assumption | with_reducible refine Below.drew ?_ | with_reducible refine Below.drewN ?_ _ | with_reducible refine Below.alloc1 ?_ _ | with_reducible refine Below.setCell1 ?_ (by first | omega | (simp; done) | (simp; omega)) _ | with_reducible refine Below.step ?_ (by with_reducible assumption)))⟩
end Go.Proofs.Yteblbleehnkcmaa

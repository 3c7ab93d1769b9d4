/- Package drr: Near. -/
import Derived.Test.YteblbleehnkcmaaDrr8
namespace Go.Proofs.Yteblbleehnkcmaa
open Go.RowKit Go.Sort
set_option linter.unusedSimpArgs false
set_option linter.unusedVariables false

abbrev prV (a b : Int) : Value := .agg #[.int .i64 a, .int .i64 b]
def dNear (q a0 a1 b0 b1 : Int) : Bool :=
  if dIn q 128 4096 = false then false else if (!dIn a0 0 1073741824 || !dIn a1 1 8) = true then false else if (!dIn b0 0 1073741824 || !dIn b1 1 8) = true then false
  else decide (-(3 * q * a1 * b1) < a0 * b1 - b0 * a1) && decide (a0 * b1 - b0 * a1 < 3 * q * a1 * b1)
theorem idxN0 (a b c d : Int) (w : World) : (Instr.index 93 (.agg #[.int .i64 a, .int .i64 b, .int .i64 c, .int .i64 d]) (.int .i64 0)).run Try.prog w = .ok (prV a b) w := by kernel_rfl
theorem idxN1 (a b c d : Int) (w : World) : (Instr.index 93 (.agg #[.int .i64 a, .int .i64 b, .int .i64 c, .int .i64 d]) (.int .i64 1)).run Try.prog w = .ok (prV c d) w := by kernel_rfl
theorem mul_in {a b A B : Int} (h1 : 0 ≤ a) (h2 : a ≤ A) (h3 : 0 ≤ b) (h4 : b ≤ B) : 0 ≤ a * b ∧ a * b ≤ A * B := ⟨Int.mul_nonneg h1 h3, Int.mul_le_mul h2 h4 h3 (Int.le_trans h1 h2)⟩
set_option maxRecDepth 100000 in
set_option maxHeartbeats 4000000 in
theorem drr_Near_any (q a0 a1 b0 b1 : Int) (w : World) : Calls Try.prog 25 #[.int .i64 q, prV a0 a1, prV b0 b1] w fun e w' => e = .returned (.bool (dNear q a0 a1 b0 b1)) ∧ Below w.heap.size w w' := by
  have hq := fun W => drr_in_any q 128 4096 W
  have h0 := fun W => drr_in_any a0 0 1073741824 W
  have h1 := fun W => drr_in_any a1 1 8 W
  have h2 := fun W => drr_in_any b0 0 1073741824 W
  have h3 := fun W => drr_in_any b1 1 8 W
  have hN := hide (show dNear q a0 a1 b0 b1 = if dIn q 128 4096 = false then false else if (!dIn a0 0 1073741824 || !dIn a1 1 8) = true then false else if (!dIn b0 0 1073741824 || !dIn b1 1 8) = true then false else decide (-(3 * q * a1 * b1) < a0 * b1 - b0 * a1) && decide (a0 * b1 - b0 * a1 < 3 * q * a1 * b1) from rfl)
  have hB : Hid (dIn q 128 4096 = true → dIn a0 0 1073741824 = true → dIn a1 1 8 = true → dIn b0 0 1073741824 = true → dIn b1 1 8 = true → (128 ≤ q ∧ q ≤ 4096) ∧ (0 ≤ a0 ∧ a0 ≤ 1073741824) ∧ (1 ≤ a1 ∧ a1 ≤ 8) ∧ (0 ≤ b0 ∧ b0 ≤ 1073741824) ∧ 1 ≤ b1 ∧ b1 ≤ 8) := by
    intro x0 x1 x2 x3 x4
    simp [dIn] at x0 x1 x2 x3 x4
    omega
  generalize dIn q 128 4096 = bq at *
  generalize dIn a0 0 1073741824 = ba0 at *
  generalize dIn a1 1 8 = ba1 at *
  generalize dIn b0 0 1073741824 = bb0 at *
  generalize dIn b1 1 8 = bb1 at *
  generalize dNear q a0 a1 b0 b1 = R at *
  go_enter Try.func25, Try.ntmps25
  go_wp2_with fail
  refine (hq _).mono ?_; rintro e w1 ⟨rfl, rfl⟩
  cases bq with
  | false =>
    have hr := hN.out
    simp at hr
    go_wp2
    go_ret
    exact ⟨ret_bool hr.symm, by (repeat (first | with_reducible exact Below.refl _ _ | with_reducible assumption | with_reducible refine Below.drew ?_ | with_reducible refine Below.drewN ?_ _ | with_reducible refine Below.alloc1 ?_ _ | with_reducible refine Below.setCell1 ?_ (by first | omega | (simp; done) | (simp; omega)) _ | with_reducible refine Below.step ?_ (by with_reducible assumption)))⟩
  | true =>
    go_wp2_with fail
    go_loopw [17] (fun i wr => ∃ k : Nat, k ≤ 2 ∧ i = .int .i64 k ∧ (1 ≤ k → ba0 = true ∧ ba1 = true) ∧ (2 ≤ k → bb0 = true ∧ bb1 = true) ∧ Bk wr w.heap.size 25 [.int .i64 a0, .int .i64 a1] ∧ Bk wr (w.heap.size + 1) 25 [.int .i64 b0, .int .i64 b1] ∧ Below w.heap.size w wr) (fun i _ => 2 - (intOf i).toNat)
    case atStart => exact ⟨0, by omega, rfl, fun h => absurd h (by omega), fun h => absurd h (by omega), by (repeat (first | with_reducible exact Bk.new' _ _ _ _ (by simp; done) | with_reducible assumption | with_reducible refine Bk.alloc ?_ _ | with_reducible refine Bk.drew ?_ | with_reducible refine Bk.drewN ?_ _ | with_reducible refine Bk.step ?_ (by with_reducible assumption) | with_reducible refine Bk.far ?_ (by first | omega | (simp; done) | (simp; omega)) _)), by (repeat (first | with_reducible exact Bk.new' _ _ _ _ (by simp; done) | with_reducible assumption | with_reducible refine Bk.alloc ?_ _ | with_reducible refine Bk.drew ?_ | with_reducible refine Bk.drewN ?_ _ | with_reducible refine Bk.step ?_ (by with_reducible assumption) | with_reducible refine Bk.far ?_ (by first | omega | (simp; done) | (simp; omega)) _)), by (repeat (first | with_reducible exact Below.refl _ _ | with_reducible assumption | with_reducible refine Below.drew ?_ | with_reducible refine Below.drewN ?_ _ | with_reducible refine Below.alloc1 ?_ _ | with_reducible refine Below.setCell1 ?_ (by first | omega | (simp; done) | (simp; omega)) _ | with_reducible refine Below.step ?_ (by with_reducible assumption)))⟩
    case round =>
      obtain ⟨k, hk, rfl, hA, hBB, k0, k1, hb⟩ := hrel
      have lt0 := k0.lt
      have lt1 := k1.lt
      have hI0 := idxN0 a0 a1 b0 b1
      have hI1 := idxN1 a0 a1 b0 b1
      rcases (show k = 0 ∨ k = 1 ∨ k = 2 by omega) with rfl | rfl | rfl
      · clear hA hBB
        go_wp2_with fail
        generalize hV : World.alloc wr _ = w2
        have hy : Below wr.heap.size wr w2 := by subst hV; (repeat (first | with_reducible exact Below.refl _ _ | with_reducible assumption | with_reducible refine Below.drew ?_ | with_reducible refine Below.drewN ?_ _ | with_reducible refine Below.alloc1 ?_ _ | with_reducible refine Below.setCell1 ?_ (by first | omega | (simp; done) | (simp; omega)) _ | with_reducible refine Below.step ?_ (by with_reducible assumption)))
        replace k0 := k0.step hy
        replace k1 := k1.step hy
        replace hb : Below w.heap.size w w2 := hb.step hy
        have kf : Bk w2 wr.heap.size 25 [.int .i64 a0, .int .i64 a1] := by subst hV; (repeat (first | with_reducible exact Bk.new' _ _ _ _ (by simp; done) | with_reducible assumption | with_reducible refine Bk.alloc ?_ _ | with_reducible refine Bk.drew ?_ | with_reducible refine Bk.drewN ?_ _ | with_reducible refine Bk.step ?_ (by with_reducible assumption) | with_reducible refine Bk.far ?_ (by first | omega | (simp; done) | (simp; omega)) _))
        clear hV hy
        have kf_0 := kf.cell 0; have kf_f0 := kf.frozen 0; have kf_1 := kf.cell 1; have kf_f1 := kf.frozen 1; simp only [List.set_cons_zero, List.set_cons_succ, List.getElem?_cons_zero, List.getElem?_cons_succ] at kf_0 kf_1; have lt_kf := kf.lt
        refine (h0 _).mono ?_; rintro e w1 ⟨rfl, rfl⟩
        cases ba0 with
        | false =>
          have hr := hN.out
          simp at hr
          go_wp2
          go_ret
          exact ⟨ret_bool hr.symm, by (repeat (first | with_reducible exact Below.refl _ _ | with_reducible assumption | with_reducible refine Below.drew ?_ | with_reducible refine Below.drewN ?_ _ | with_reducible refine Below.alloc1 ?_ _ | with_reducible refine Below.setCell1 ?_ (by first | omega | (simp; done) | (simp; omega)) _ | with_reducible refine Below.step ?_ (by with_reducible assumption)))⟩
        | true =>
          go_wp2_with fail
          refine (h1 _).mono ?_; rintro e w1 ⟨rfl, rfl⟩
          cases ba1 with
          | false =>
            have hr := hN.out
            simp at hr
            go_wp2
            go_ret
            exact ⟨ret_bool hr.symm, by (repeat (first | with_reducible exact Below.refl _ _ | with_reducible assumption | with_reducible refine Below.drew ?_ | with_reducible refine Below.drewN ?_ _ | with_reducible refine Below.alloc1 ?_ _ | with_reducible refine Below.setCell1 ?_ (by first | omega | (simp; done) | (simp; omega)) _ | with_reducible refine Below.step ?_ (by with_reducible assumption)))⟩
          | true =>
            go_wp2
            go_roundw
            case rel => exact ⟨1, by omega, by go_num, fun _ => by simp, fun h => absurd h (by omega), k0, k1, hb⟩
            case measure => simp [intOf]
      · obtain ⟨rfl, rfl⟩ := hA (by omega)
        clear hA hBB
        go_wp2_with fail
        generalize hV : World.alloc wr _ = w2
        have hy : Below wr.heap.size wr w2 := by subst hV; (repeat (first | with_reducible exact Below.refl _ _ | with_reducible assumption | with_reducible refine Below.drew ?_ | with_reducible refine Below.drewN ?_ _ | with_reducible refine Below.alloc1 ?_ _ | with_reducible refine Below.setCell1 ?_ (by first | omega | (simp; done) | (simp; omega)) _ | with_reducible refine Below.step ?_ (by with_reducible assumption)))
        replace k0 := k0.step hy
        replace k1 := k1.step hy
        replace hb : Below w.heap.size w w2 := hb.step hy
        have kf : Bk w2 wr.heap.size 25 [.int .i64 b0, .int .i64 b1] := by subst hV; (repeat (first | with_reducible exact Bk.new' _ _ _ _ (by simp; done) | with_reducible assumption | with_reducible refine Bk.alloc ?_ _ | with_reducible refine Bk.drew ?_ | with_reducible refine Bk.drewN ?_ _ | with_reducible refine Bk.step ?_ (by with_reducible assumption) | with_reducible refine Bk.far ?_ (by first | omega | (simp; done) | (simp; omega)) _))
        clear hV hy
        have kf_0 := kf.cell 0; have kf_f0 := kf.frozen 0; have kf_1 := kf.cell 1; have kf_f1 := kf.frozen 1; simp only [List.set_cons_zero, List.set_cons_succ, List.getElem?_cons_zero, List.getElem?_cons_succ] at kf_0 kf_1; have lt_kf := kf.lt
        refine (h2 _).mono ?_; rintro e w1 ⟨rfl, rfl⟩
        cases bb0 with
        | false =>
          have hr := hN.out
          simp at hr
          go_wp2
          go_ret
          exact ⟨ret_bool hr.symm, by (repeat (first | with_reducible exact Below.refl _ _ | with_reducible assumption | with_reducible refine Below.drew ?_ | with_reducible refine Below.drewN ?_ _ | with_reducible refine Below.alloc1 ?_ _ | with_reducible refine Below.setCell1 ?_ (by first | omega | (simp; done) | (simp; omega)) _ | with_reducible refine Below.step ?_ (by with_reducible assumption)))⟩
        | true =>
          go_wp2_with fail
          refine (h3 _).mono ?_; rintro e w1 ⟨rfl, rfl⟩
          cases bb1 with
          | false =>
            have hr := hN.out
            simp at hr
            go_wp2
            go_ret
            exact ⟨ret_bool hr.symm, by (repeat (first | with_reducible exact Below.refl _ _ | with_reducible assumption | with_reducible refine Below.drew ?_ | with_reducible refine Below.drewN ?_ _ | with_reducible refine Below.alloc1 ?_ _ | with_reducible refine Below.setCell1 ?_ (by first | omega | (simp; done) | (simp; omega)) _ | with_reducible refine Below.step ?_ (by with_reducible assumption)))⟩
          | true =>
            go_wp2
            go_roundw
            case rel => exact ⟨2, by omega, by go_num, fun _ => by simp, fun _ => by simp, k0, k1, hb⟩
            case measure => simp [intOf]
      · obtain ⟨rfl, rfl⟩ := hA (by omega)
        obtain ⟨rfl, rfl⟩ := hBB (by omega)
        have hr := hN.out
        have hbd := hB.out (by simp) (by simp) (by simp) (by simp) (by simp)
        simp at hr
        have k0_0 := k0.cell 0; have k0_f0 := k0.frozen 0; have k0_1 := k0.cell 1; have k0_f1 := k0.frozen 1; simp only [List.set_cons_zero, List.set_cons_succ, List.getElem?_cons_zero, List.getElem?_cons_succ] at k0_0 k0_1; have lt_k0 := k0.lt; have k1_0 := k1.cell 0; have k1_f0 := k1.frozen 0; have k1_1 := k1.cell 1; have k1_f1 := k1.frozen 1; simp only [List.set_cons_zero, List.set_cons_succ, List.getElem?_cons_zero, List.getElem?_cons_succ] at k1_0 k1_1; have lt_k1 := k1.lt
        have m1 := mul_in hbd.2.1.1 hbd.2.1.2 (show 0 ≤ b1 by omega) (show b1 ≤ 8 by omega)
        have m2 := mul_in hbd.2.2.2.1.1 hbd.2.2.2.1.2 (show 0 ≤ a1 by omega) (show a1 ≤ 8 by omega)
        have m3 := mul_in (show 0 ≤ 3 * q by omega) (show 3 * q ≤ 12288 by omega) (show 0 ≤ a1 by omega) (show a1 ≤ 8 by omega)
        have m4 := mul_in m3.1 m3.2 (show 0 ≤ b1 by omega) (show b1 ≤ 8 by omega)
        have e3 := IntWalk.i64_in (3 * q) (by omega)
        have e1 := IntWalk.i64_in (a0 * b1) (by clear m2 m3 m4; omega)
        have e2 := IntWalk.i64_in (b0 * a1) (by clear m1 m3 m4; omega)
        have e4 := IntWalk.i64_in (3 * q * a1) (by clear m1 m2 m4; omega)
        have e5 := IntWalk.i64_in (3 * q * a1 * b1) (by clear m1 m2 m3; omega)
        have e6 := IntWalk.i64_in (a0 * b1 - b0 * a1) (by clear m3 m4; omega)
        have e7 := IntWalk.i64_in (-(3 * q * a1 * b1)) (by clear m1 m2 m3; omega)
        clear m1 m2 m3 m4
        clear hbd hA hBB
        go_wp2
        all_goals
          go_ret
          exact ⟨ret_bool (by first | (simp [*]; done) | (simp [*]; omega)), by (repeat (first | with_reducible exact Below.refl _ _ | with_reducible assumption | with_reducible refine Below.drew ?_ | with_reducible refine Below.drewN ?_ _ | with_reducible refine Below.alloc1 ?_ _ | with_reducible refine Below.setCell1 ?_ (by first | omega | (simp; done) | (simp; omega)) _ | with_reducible refine Below.step ?_ (by with_reducible assumption)))⟩
end Go.Proofs.Yteblbleehnkcmaa

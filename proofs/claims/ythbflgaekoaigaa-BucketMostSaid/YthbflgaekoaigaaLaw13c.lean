/- The walk of BucketWaits. -/
import Derived.Test.YthbflgaekoaigaaAwake13
import Derived.Test.YthbflgaekoaigaaLaw13a
namespace Go.Proofs.Ythbflgaekoaigaa
open Go.RowKit
set_option linter.unusedSimpArgs false
set_option linter.unusedVariables false

/-! The plain law. -/
theorem bIn_mk {n a b : Int} (h1 : a ≤ n) (h2 : n ≤ b) : bIn n a b = true := by simp [bIn, h1, h2]
theorem bGood_mk {b r : Int} (h1 : 1 ≤ b) (h2 : b ≤ 1000) (h3 : 0 ≤ r) (h4 : r ≤ 1000) : bGood b r = true := by simp [bGood, bIn_mk, *]
theorem bFine_mk {b r t a : Int} (h1 : 1 ≤ b) (h2 : b ≤ 1000) (h3 : 0 ≤ r) (h4 : r ≤ 1000) (h5 : 0 ≤ t) (h6 : t ≤ b) (h7 : 0 ≤ a) (h8 : a ≤ 1099511627776) : bFine b r t a = true := by
  simp [bFine, bGood_mk, bIn_mk, *]
theorem bA_at {a n : Int} (h1 : a ≤ n) (h2 : n ≤ 1099511627776) : bA a n = n := by unfold bA bHeld; omega
theorem bT_at {b r t a n : Int} (h1 : a ≤ n) (h2 : n ≤ 1099511627776) : bT b r t a n = min (t + (n - a) * r) b := by unfold bT; rw [bA_at h1 h2]
theorem bTake_yes {b r t a now n : Int} (h0 : 0 ≤ n) (hf : bFine b r t a = true) (hT : n ≤ bT b r t a now) : bTake b r t a now n = ((bT b r t a now - n, bA a now), true) := by
  unfold bTake; rw [if_neg (by simp [hf]; omega)]
theorem bFine_taken {b r t a now n : Int} (h0 : 0 ≤ n) (hf : bFine b r t a = true) (hT : n ≤ bT b r t a now) : bFine b r (bT b r t a now - n) (bA a now) = true := by
  obtain ⟨⟨hb, hr⟩, ht, ha⟩ := bFine_t hf
  have hbd := bT_bd (now := now) hf
  have hA := bA_bd (now := now) ha.2
  exact bFine_mk hb.1 hb.2 hr.1 hr.2 (by omega) (by omega) (by omega) (by omega)
theorem waits {b r t a now want : Int} (hf : bFine b r t a = true) (hb256 : b ≤ 256) (h1 : a ≤ now) (h2 : now ≤ 200000) (h0 : 0 ≤ want) (hw : want ≤ b) :
    (bWait b r t a now want = 0 ∧ want ≤ bT b r t a now) ∨ (bWait b r t a now want = -1 ∧ r = 0 ∧ bT b r t a (now + 65536) < want) ∨
    (∃ W, bWait b r t a now want = W ∧ 1 ≤ W ∧ W ≤ 256 ∧ want ≤ bT b r t a (now + W) ∧ bT b r t a (now + W - 1) < want) := by
  obtain ⟨⟨hb, hr⟩, ht, ha⟩ := bFine_t hf
  have hbd := bT_bd (now := now) hf
  by_cases hl : want - bT b r t a now ≤ 0
  · left
    exact ⟨by unfold bWait; rw [if_neg (by simp [hf]; omega), if_pos hl], by omega⟩
  · right
    have hT := bT_at (b := b) (r := r) (t := t) h1 (show now ≤ 1099511627776 by omega)
    have hTe : bT b r t a now = t + (now - a) * r := by rw [hT]; omega
    by_cases hr0 : r = 0
    · left
      refine ⟨by unfold bWait; rw [if_neg (by simp [hf]; omega), if_neg hl, if_pos hr0], hr0, ?_⟩
      rw [bT_at (by omega) (by omega)]
      have z1 : (now - a) * r = 0 := by rw [hr0, Int.mul_zero]
      have z2 : (now + 65536 - a) * r = 0 := by rw [hr0, Int.mul_zero]
      omega
    · right
      have hW : bWait b r t a now want = (want - bT b r t a now + r - 1) / r := by unfold bWait; rw [if_neg (by simp [hf]; omega), if_neg hl, if_neg hr0]
      obtain ⟨W, hWd⟩ : ∃ W, (want - bT b r t a now + r - 1) / r = W := ⟨_, rfl⟩
      have hr1 : 0 < r := by omega
      have e1 : W * r ≤ want - bT b r t a now + r - 1 := by rw [← hWd]; exact Int.ediv_mul_le _ (by omega)
      have e2 : want - bT b r t a now + r - 1 < (W + 1) * r := by rw [← hWd]; exact Int.lt_ediv_add_one_mul_self _ hr1
      have e3 : (W + 1) * r = W * r + r := by rw [Int.add_mul]; omega
      have e4 : (W - 1) * r = W * r - r := by rw [Int.sub_mul]; omega
      have hW1 : 1 ≤ W := by
        rcases Int.lt_or_le 0 W with h | h
        · omega
        · have : W * r ≤ 0 := Int.mul_nonpos_of_nonpos_of_nonneg h (by omega)
          omega
      have hW2 : W ≤ W * r := by
        have := Int.mul_le_mul_of_nonneg_left (show (1 : Int) ≤ r by omega) (show 0 ≤ W by omega)
        omega
      have hW3 : W ≤ 256 := by
        have : (W - 1) * 1 ≤ (W - 1) * r := Int.mul_le_mul_of_nonneg_left (by omega) (by omega)
        omega
      refine ⟨W, hW.trans hWd, hW1, hW3, ?_, ?_⟩
      · rw [bT_at (by omega) (by omega)]
        have : (now + W - a) * r = (now - a) * r + W * r := by rw [← Int.add_mul]; congr 1; omega
        omega
      · rw [bT_at (by omega) (by omega)]
        have : (now + W - 1 - a) * r = (now - a) * r + (W - 1) * r := by rw [← Int.add_mul]; congr 1; omega
        omega

theorem bucket_Wait_is {b r t a now n v : Int} (hn : -9223372036854775808 ≤ n) (h : bWait b r t a now n = v) (w : World) :
    Calls Try.prog 11 #[.agg #[.int .i64 b, .int .i64 r], .agg #[.int .i64 t, .int .i64 a], .int .i64 now, .int .i64 n] w fun e w' => e = .returned (.int .i64 v) ∧ Below w.heap.size w w' := by
  subst h; exact bucket_Wait_any b r t a now n hn w
theorem bucket_Take_yes {b r t a now n : Int} (h0 : 0 ≤ n) (hf : bFine b r t a = true) (hT : n ≤ bT b r t a now) (w : World) :
    Calls Try.prog 7 #[.agg #[.int .i64 b, .int .i64 r], .agg #[.int .i64 t, .int .i64 a], .int .i64 now, .int .i64 n] w fun e w' =>
      e = .returned (.tuple #[.agg #[.int .i64 (bT b r t a now - n), .int .i64 (bA a now)], .bool true]) ∧ Below w.heap.size w w' := by
  have := bucket_Take_tup b r t a now n (by omega) w
  rw [bTake_yes h0 hf hT] at this
  exact this
theorem bucket_Level_is {b r t a now : Int} (hf : bFine b r t a = true) (w : World) :
    Calls Try.prog 9 #[.agg #[.int .i64 b, .int .i64 r], .agg #[.int .i64 t, .int .i64 a], .int .i64 now] w fun e w' => e = .returned (.int .i64 (bT b r t a now)) ∧ Below w.heap.size w w' := by
  have := bucket_Level_any b r t a now w
  rw [bLevel_f hf] at this
  exact this
theorem r13_Check_ok {b r : Int} (h : bGood b r = true) (w : World) :
    Calls Try.prog 16 #[.agg #[.int .i64 b, .int .i64 r]] w fun e w' => e = .returned (.int .i64 0) ∧ Below w.heap.size w w' := by
  have := r13_Check_any b r w
  unfold bCheck at this
  rw [h] at this
  exact this

set_option maxRecDepth 100000 in
set_option maxHeartbeats 4000000 in
theorem BucketWaits_walk (n0 n1 n2 n3 at_ more : Int) (h0 : 0 ≤ n0 ∧ n0 ≤ 255) (h1 : 0 ≤ n1 ∧ n1 ≤ 255) (h2 : 0 ≤ n2 ∧ n2 ≤ 255) (h3 : 0 ≤ n3 ∧ n3 ≤ 255) (h4 : 0 ≤ at_ ∧ at_ ≤ 65535) (h5 : 0 ≤ more ∧ more ≤ 65535) (w : World) :
    Calls Try.prog 6 #[.agg #[.int .u8 n0, .int .u8 n1, .int .u8 n2, .int .u8 n3], .int .u16 at_, .int .u16 more] w fun e w' => e = .returned (.bool true) ∧ Below w.heap.size w w' := by
  have ht : 0 ≤ n2 % (1 + n0 + 1) ∧ n2 % (1 + n0 + 1) ≤ 1 + n0 := ⟨Int.emod_nonneg _ (by omega), by have := Int.emod_lt_of_pos n2 (show 0 < 1 + n0 + 1 by omega); omega⟩
  have hf := hide (bFine_mk (b := 1 + n0) (r := n1) (t := n2 % (1 + n0 + 1)) (a := at_) (by omega) (by omega) (by omega) (by omega) ht.1 ht.2 (by omega) (by omega))
  have hg := hide (bGood_mk (b := 1 + n0) (r := n1) (by omega) (by omega) (by omega) (by omega))
  go_enter Try.func6, Try.ntmps6
  go_upto_region 3 with fail
  generalize n2 % (1 + n0 + 1) = t at *
  generalize hW : World.alloc (World.alloc (World.alloc w _) _) _ = w1
  have hb1 : Below w.heap.size w w1 := by subst hW; (repeat (first | with_reducible exact Below.refl _ _ | with_reducible assumption | with_reducible refine Below.drew ?_ | with_reducible refine Below.drewN ?_ _ | with_reducible refine Below.alloc1 ?_ _ | with_reducible refine Below.setCell1 ?_ (by first | omega | (simp; done) | (simp; omega)) _ | with_reducible refine Below.step ?_ (by with_reducible assumption)))
  have k0 : Bk w1 w.heap.size 61 [.int .u8 n0, .int .u8 n1, .int .u8 n2, .int .u8 n3] := by subst hW; (repeat (first | with_reducible exact Bk.new' _ _ _ _ (by simp; done) | with_reducible assumption | with_reducible refine Bk.alloc ?_ _ | with_reducible refine Bk.drew ?_ | with_reducible refine Bk.drewN ?_ _ | with_reducible refine Bk.step ?_ (by with_reducible assumption) | with_reducible refine Bk.far ?_ (by first | omega | (simp; done) | (simp; omega)) _))
  have k1 : Bk w1 (w.heap.size + 1) 27 [.int .i64 (1 + n0), .int .i64 n1] := by subst hW; (repeat (first | with_reducible exact Bk.new' _ _ _ _ (by simp; done) | with_reducible assumption | with_reducible refine Bk.alloc ?_ _ | with_reducible refine Bk.drew ?_ | with_reducible refine Bk.drewN ?_ _ | with_reducible refine Bk.step ?_ (by with_reducible assumption) | with_reducible refine Bk.far ?_ (by first | omega | (simp; done) | (simp; omega)) _))
  have k2 : Bk w1 (w.heap.size + 1 + 1) 28 [.int .i64 t, .int .i64 at_] := by subst hW; (repeat (first | with_reducible exact Bk.new' _ _ _ _ (by simp; done) | with_reducible assumption | with_reducible refine Bk.alloc ?_ _ | with_reducible refine Bk.drew ?_ | with_reducible refine Bk.drewN ?_ _ | with_reducible refine Bk.step ?_ (by with_reducible assumption) | with_reducible refine Bk.far ?_ (by first | omega | (simp; done) | (simp; omega)) _))
  have lk := And.intro k0.lt (And.intro k1.lt k2.lt)
  clear hW
  have k0_0 := k0.cell 0; have k0_f0 := k0.frozen 0; have k0_1 := k0.cell 1; have k0_f1 := k0.frozen 1; have k0_2 := k0.cell 2; have k0_f2 := k0.frozen 2; have k0_3 := k0.cell 3; have k0_f3 := k0.frozen 3; simp only [List.set_cons_zero, List.set_cons_succ, List.getElem?_cons_zero, List.getElem?_cons_succ] at k0_0 k0_1 k0_2 k0_3
  go_quiet (fail)
  clear k0_0 k0_1 k0_2 k0_3 k0_f0 k0_f1 k0_f2 k0_f3
  have hb2 : Below w.heap.size w (w1.drewN nq) := hb1.drewN _
  have m1 : Bk (w1.drewN nq) (w.heap.size + 1) 27 [.int .i64 (1 + n0), .int .i64 n1] := k1
  have m2 : Bk (w1.drewN nq) (w.heap.size + 1 + 1) 28 [.int .i64 t, .int .i64 at_] := k2
  clear hb1 k0 k1 k2 lk
  generalize w1.drewN nq = w2 at *
  have lk := And.intro m1.lt m2.lt
  have m1_0 := m1.cell 0; have m1_f0 := m1.frozen 0; have m1_1 := m1.cell 1; have m1_f1 := m1.frozen 1; simp only [List.set_cons_zero, List.set_cons_succ, List.getElem?_cons_zero, List.getElem?_cons_succ] at m1_0 m1_1
  have m2_0 := m2.cell 0; have m2_f0 := m2.frozen 0; have m2_1 := m2.cell 1; have m2_f1 := m2.frozen 1; simp only [List.set_cons_zero, List.set_cons_succ, List.getElem?_cons_zero, List.getElem?_cons_succ] at m2_0 m2_1
  by_cases hbw : n3 ≤ 1 + n0
  · have hwt := waits hf.out (by omega) (show at_ ≤ at_ + more by omega) (by omega) h3.1 hbw
    rcases hwt with ⟨e1, e2⟩ | ⟨e1, e2, e3⟩ | ⟨W, e1, e2, e3, e4, e5⟩
    · have E1 := hide e1
      clear e1
      go_wp2_with fail
      refine (bucket_Wait_is (by omega) E1.out _).mono ?_; rintro e x0 ⟨rfl, hx0⟩; obtain ⟨hc_hx0, hf_hx0⟩ := bcell hx0; have hz_hx0 := hx0.size; (try simp at hz_hx0); (have lx0 : w.heap.size < x0.heap.size ∧ w.heap.size + 1 < x0.heap.size ∧ w.heap.size + 1 + 1 < x0.heap.size := by omega)
      go_wp2_with fail
      refine (bucket_Take_yes h3.1 hf.out e2 _).mono ?_; rintro e x1 ⟨rfl, hx1⟩; obtain ⟨hc_hx1, hf_hx1⟩ := bcell hx1; have hz_hx1 := hx1.size; (try simp at hz_hx1); (have lx1 : w.heap.size < x1.heap.size ∧ w.heap.size + 1 < x1.heap.size ∧ w.heap.size + 1 + 1 < x1.heap.size := by omega)
      have hft := hide (bFine_taken h3.1 hf.out e2)
      go_wp2_with fail
      refine (bucket_Fine_is hft.out _).mono ?_; rintro e x2 ⟨rfl, hx2⟩; obtain ⟨hc_hx2, hf_hx2⟩ := bcell hx2; have hz_hx2 := hx2.size; (try simp at hz_hx2); (have lx2 : w.heap.size < x2.heap.size ∧ w.heap.size + 1 < x2.heap.size ∧ w.heap.size + 1 + 1 < x2.heap.size := by omega)
      go_wp2_with fail
      refine (r13_Check_ok hg.out _).mono ?_; rintro e x3 ⟨rfl, hx3⟩
      go_wp2_with fail
      refine (awake13 _).mono ?_; rintro e x20 ⟨rfl, hx20⟩
      go_wp2
      go_ret
      exact ⟨rfl, by (repeat (first | with_reducible exact Below.refl _ _ | with_reducible assumption | with_reducible refine Below.drew ?_ | with_reducible refine Below.drewN ?_ _ | with_reducible refine Below.alloc1 ?_ _ | with_reducible refine Below.setCell1 ?_ (by first | omega | (simp; done) | (simp; omega)) _ | with_reducible refine Below.step ?_ (by with_reducible assumption)))⟩
    · have E1 := hide e1
      clear e1
      have hr : (n1 == 0) = true := by rw [beq_iff_eq]; exact e2
      have E2 := hide e2
      clear e2
      go_wp2_with fail
      refine (bucket_Wait_is (by omega) E1.out _).mono ?_; rintro e x0 ⟨rfl, hx0⟩; obtain ⟨hc_hx0, hf_hx0⟩ := bcell hx0; have hz_hx0 := hx0.size; (try simp at hz_hx0); (have lx0 : w.heap.size < x0.heap.size ∧ w.heap.size + 1 < x0.heap.size ∧ w.heap.size + 1 + 1 < x0.heap.size := by omega)
      go_wp2_with fail
      refine (bucket_Level_is hf.out _).mono ?_; rintro e x1 ⟨rfl, hx1⟩; obtain ⟨hc_hx1, hf_hx1⟩ := bcell hx1; have hz_hx1 := hx1.size; (try simp at hz_hx1); (have lx1 : w.heap.size < x1.heap.size ∧ w.heap.size + 1 < x1.heap.size ∧ w.heap.size + 1 + 1 < x1.heap.size := by omega)
      go_wp2_with fail
      refine (awake13 _).mono ?_; rintro e x20 ⟨rfl, hx20⟩
      go_wp2
      go_ret
      exact ⟨rfl, by (repeat (first | with_reducible exact Below.refl _ _ | with_reducible assumption | with_reducible refine Below.drew ?_ | with_reducible refine Below.drewN ?_ _ | with_reducible refine Below.alloc1 ?_ _ | with_reducible refine Below.setCell1 ?_ (by first | omega | (simp; done) | (simp; omega)) _ | with_reducible refine Below.step ?_ (by with_reducible assumption)))⟩
    · have E1 := hide e1
      clear e1
      have hW0 : (W == 0) = false := by rw [beq_eq_false_iff_ne]; omega
      go_wp2_with fail
      refine (bucket_Wait_is (by omega) E1.out _).mono ?_; rintro e x0 ⟨rfl, hx0⟩; obtain ⟨hc_hx0, hf_hx0⟩ := bcell hx0; have hz_hx0 := hx0.size; (try simp at hz_hx0); (have lx0 : w.heap.size < x0.heap.size ∧ w.heap.size + 1 < x0.heap.size ∧ w.heap.size + 1 + 1 < x0.heap.size := by omega)
      go_wp2_with fail
      refine (bucket_Take_yes h3.1 hf.out e4 _).mono ?_; rintro e x1 ⟨rfl, hx1⟩; obtain ⟨hc_hx1, hf_hx1⟩ := bcell hx1; have hz_hx1 := hx1.size; (try simp at hz_hx1); (have lx1 : w.heap.size < x1.heap.size ∧ w.heap.size + 1 < x1.heap.size ∧ w.heap.size + 1 + 1 < x1.heap.size := by omega)
      have hft := hide (bFine_taken h3.1 hf.out e4)
      go_wp2_with fail
      refine (bucket_Fine_is hft.out _).mono ?_; rintro e x2 ⟨rfl, hx2⟩; obtain ⟨hc_hx2, hf_hx2⟩ := bcell hx2; have hz_hx2 := hx2.size; (try simp at hz_hx2); (have lx2 : w.heap.size < x2.heap.size ∧ w.heap.size + 1 < x2.heap.size ∧ w.heap.size + 1 + 1 < x2.heap.size := by omega)
      go_wp2_with fail
      refine (bucket_Level_is hf.out _).mono ?_; rintro e x3 ⟨rfl, hx3⟩; obtain ⟨hc_hx3, hf_hx3⟩ := bcell hx3; have hz_hx3 := hx3.size; (try simp at hz_hx3); (have lx3 : w.heap.size < x3.heap.size ∧ w.heap.size + 1 < x3.heap.size ∧ w.heap.size + 1 + 1 < x3.heap.size := by omega)
      go_wp2_with fail
      refine (r13_Check_ok hg.out _).mono ?_; rintro e x4 ⟨rfl, hx4⟩
      go_wp2_with fail
      refine (awake13 _).mono ?_; rintro e x20 ⟨rfl, hx20⟩
      go_wp2
      go_ret
      exact ⟨rfl, by (repeat (first | with_reducible exact Below.refl _ _ | with_reducible assumption | with_reducible refine Below.drew ?_ | with_reducible refine Below.drewN ?_ _ | with_reducible refine Below.alloc1 ?_ _ | with_reducible refine Below.setCell1 ?_ (by first | omega | (simp; done) | (simp; omega)) _ | with_reducible refine Below.step ?_ (by with_reducible assumption)))⟩
  · have e1 : bWait (1 + n0) n1 t at_ (at_ + more) n3 = -1 := by unfold bWait; rw [if_pos (by omega)]
    have E1 := hide e1
    clear e1
    go_wp2_with fail
    refine (bucket_Wait_is (by omega) E1.out _).mono ?_; rintro e x0 ⟨rfl, hx0⟩; obtain ⟨hc_hx0, hf_hx0⟩ := bcell hx0; have hz_hx0 := hx0.size; (try simp at hz_hx0); (have lx0 : w.heap.size < x0.heap.size ∧ w.heap.size + 1 < x0.heap.size ∧ w.heap.size + 1 + 1 < x0.heap.size := by omega)
    go_wp2_with fail
    refine (awake13 _).mono ?_; rintro e x20 ⟨rfl, hx20⟩
    go_wp2
    go_ret
    exact ⟨rfl, by (repeat (first | with_reducible exact Below.refl _ _ | with_reducible assumption | with_reducible refine Below.drew ?_ | with_reducible refine Below.drewN ?_ _ | with_reducible refine Below.alloc1 ?_ _ | with_reducible refine Below.setCell1 ?_ (by first | omega | (simp; done) | (simp; omega)) _ | with_reducible refine Below.step ?_ (by with_reducible assumption)))⟩
end Go.Proofs.Ythbflgaekoaigaa

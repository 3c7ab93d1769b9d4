/- The walk of JitterWithin. -/
import Derived.Test.YtcgmaimfnepefaaAwake17
namespace Go.Proofs.Ytcgmaimfnepefaa
open Go.RowKit Go.Sort
set_option linter.unusedSimpArgs false
set_option linter.unusedVariables false

theorem jHint_t {lo hi : Nat → Int} {k : Nat} (h : jMay lo hi k = true) (hr : 1 ≤ hi k - lo k + 1) (draw : Int) : jHint lo hi k draw = lo k + draw % (hi k - lo k + 1) := by
  unfold jHint; rw [h, if_pos rfl, Int.toNat_natCast, hBelow_pos hr]
theorem jitter_Hint_is {lo hi : Nat → Int} {level draw v : Int} (h0 : 0 ≤ draw) (h1 : draw ≤ 18446744073709551615) (h : jHint lo hi level draw = v) (w : World) :
    Calls Try.prog 10 #[confV lo hi, .int .i64 level, .int .u64 draw] w fun e w' => e = .returned (.int .i64 v) ∧ Below w.heap.size w w' := by
  subst h; exact jitter_Hint_any lo hi level draw h0 h1 w
theorem jitter_Within_is {lo hi : Nat → Int} {level n : Int} {v : Bool} (h : jWithin lo hi level n = v) (w : World) :
    Calls Try.prog 12 #[confV lo hi, .int .i64 level, .int .i64 n] w fun e w' => e = .returned (.bool v) ∧ Below w.heap.size w w' := by
  subst h; exact jitter_Within_any lo hi level n w
theorem jitter_Width_is {lo hi : Nat → Int} {level v : Int} (h : jWidth lo hi level = v) (w : World) :
    Calls Try.prog 11 #[confV lo hi, .int .i64 level] w fun e w' => e = .returned (.int .i64 v) ∧ Below w.heap.size w w' := by
  subst h; exact jitter_Width_any lo hi level w

set_option maxRecDepth 100000 in
set_option maxHeartbeats 8000000 in
theorem JitterWithin_walk (lo hi : Nat → Int) (draw n0 n1 : Int) (hd : 0 ≤ draw ∧ draw ≤ 18446744073709551615) (hn0 : 0 ≤ n0 ∧ n0 ≤ 65535) (hn1 : 0 ≤ n1 ∧ n1 ≤ 65535) (w : World) :
    Calls Try.prog 4 #[confV lo hi, .int .u64 draw, .agg #[.int .u16 n0, .int .u16 n1]] w fun e w' => e = .returned (.bool true) ∧ Below w.heap.size w w' := by
  obtain ⟨k, hk⟩ : ∃ k : Nat, n1 % 4 = k := ⟨(n1 % 4).toNat, by omega⟩
  have hk4 : k < 4 := by omega
  by_cases hc : jCheck lo hi = 0
  · have hr := jCheck_t hc hk4
    have hm : jMay lo hi k = true := by simp [jMay, jIn, hc]; omega
    generalize hWd : hi k - lo k + 1 = W at *
    have hW1 : 1 ≤ W ∧ W ≤ 10000 := by omega
    have hh : jHint lo hi k draw = lo k + draw % W := by rw [jHint_t hm (by omega), hWd]
    have hdr : 0 ≤ draw % W ∧ draw % W < W := ⟨Int.emod_nonneg _ (by omega), Int.emod_lt_of_pos _ (by omega)⟩
    have hnr : 0 ≤ n0 % W ∧ n0 % W < W := ⟨Int.emod_nonneg _ (by omega), Int.emod_lt_of_pos _ (by omega)⟩
    have htm : n0.tmod W = n0 % W := Int.tmod_eq_emod_of_nonneg hn0.1
    obtain ⟨r, hrr⟩ : ∃ r, n0 % W = r := ⟨_, rfl⟩
    obtain ⟨s, hss⟩ : ∃ s, draw % W = s := ⟨_, rfl⟩
    rw [hrr] at hnr htm
    rw [hss] at hdr hh
    have HW1 : Hid (jWithin lo hi k (lo k + s) = true) := by show _ = true; unfold jWithin; rw [hm]; simp [jIn]; omega
    have HW2 : Hid (jWithin lo hi k (lo k + r) = true) := by show _ = true; unfold jWithin; rw [hm]; simp [jIn]; omega
    have HH2 : Hid (jHint lo hi k r = lo k + r) := by
      show _ = _; rw [jHint_t hm (by omega), hWd, Int.emod_eq_of_lt (by omega) (by omega)]
    have HH3 : Hid (jHint lo hi k (draw + W) = lo k + s) := by
      show _ = _; rw [jHint_t hm (by omega), hWd, Int.add_emod_right, hss]
    have HWd : Hid (jWidth lo hi k = W) := by show _ = _; unfold jWidth; rw [hm, if_pos rfl, Int.toNat_natCast, hWd]
    have HH := hide hh
    have HC := hide hc
    have s1 : IntKind.i64.wrap (lo k + r) = lo k + r := IntWalk.i64_in _ (by omega)
    have s2 : IntKind.i64.wrap r = r := IntWalk.i64_in _ (by omega)
    have s3 : IntKind.i64.wrap (lo k + r - lo k) = r := by rw [IntWalk.i64_in _ (by omega)]; omega
    have s4 : IntKind.u64.wrap r = r := by rw [IntKind.wrap_u64]; omega
    have s5 : IntKind.u64.wrap W = W := by rw [IntKind.wrap_u64]; omega
    have s6 : IntKind.i64.wrap n0 = n0 := IntWalk.i64_in _ (by omega)
    clear hh hc hm hWd hss hrr
    go_enter Try.func4, Try.ntmps4
    go_wp2_with fail
    generalize hV : World.alloc (World.alloc (World.alloc w _) _) _ = w1
    have hb1 : Below w.heap.size w w1 := by subst hV; (repeat (first | with_reducible exact Below.refl _ _ | with_reducible assumption | with_reducible refine Below.drew ?_ | with_reducible refine Below.drewN ?_ _ | with_reducible refine Below.alloc1 ?_ _ | with_reducible refine Below.setCell1 ?_ (by first | omega | (simp; done) | (simp; omega)) _ | with_reducible refine Below.step ?_ (by with_reducible assumption)))
    have k1 : Bk w1 (w.heap.size + 1) 34 [.int .u16 n0, .int .u16 n1] := by subst hV; (repeat (first | with_reducible exact Bk.new' _ _ _ _ (by simp; done) | with_reducible assumption | with_reducible refine Bk.alloc ?_ _ | with_reducible refine Bk.drew ?_ | with_reducible refine Bk.drewN ?_ _ | with_reducible refine Bk.step ?_ (by with_reducible assumption) | with_reducible refine Bk.far ?_ (by first | omega | (simp; done) | (simp; omega)) _))
    have k2 : Bk w1 (w.heap.size + 1 + 1) 29 (confC lo hi) := by subst hV; (repeat (first | with_reducible exact Bk.new' _ _ _ _ (by simp; done) | with_reducible assumption | with_reducible refine Bk.alloc ?_ _ | with_reducible refine Bk.drew ?_ | with_reducible refine Bk.drewN ?_ _ | with_reducible refine Bk.step ?_ (by with_reducible assumption) | with_reducible refine Bk.far ?_ (by first | omega | (simp; done) | (simp; omega)) _))
    clear hV
    refine (jitter_Check_is HC.out _).mono ?_; rintro e x0 ⟨rfl, hx0⟩
    replace k1 := k1.step hx0
    replace k2 := k2.step hx0
    replace hb1 : Below w.heap.size w x0 := by (repeat (first | with_reducible exact Below.refl _ _ | with_reducible assumption | with_reducible refine Below.drew ?_ | with_reducible refine Below.drewN ?_ _ | with_reducible refine Below.alloc1 ?_ _ | with_reducible refine Below.setCell1 ?_ (by first | omega | (simp; done) | (simp; omega)) _ | with_reducible refine Below.step ?_ (by with_reducible assumption)))
    clear hx0
    have k2_0 := k2.cell 0; have k2_f0 := k2.frozen 0; have k2_1 := k2.cell 1; have k2_f1 := k2.frozen 1; have k2_2 := k2.cell 2; have k2_f2 := k2.frozen 2; have k2_3 := k2.cell 3; have k2_f3 := k2.frozen 3; have k2_4 := k2.cell 4; have k2_f4 := k2.frozen 4; have k2_5 := k2.cell 5; have k2_f5 := k2.frozen 5; have k2_6 := k2.cell 6; have k2_f6 := k2.frozen 6; have k2_7 := k2.cell 7; have k2_f7 := k2.frozen 7; simp only [List.set_cons_zero, List.set_cons_succ, List.getElem?_cons_zero, List.getElem?_cons_succ] at k2_0 k2_1 k2_2 k2_3 k2_4 k2_5 k2_6 k2_7
    go_wp2_with fail
    refine (jitter_Hint_is hd.1 hd.2 HH.out _).mono ?_; rintro e x1 ⟨rfl, hx1⟩
    clear k2_0 k2_1 k2_2 k2_3 k2_4 k2_5 k2_6 k2_7 k2_f0 k2_f1 k2_f2 k2_f3 k2_f4 k2_f5 k2_f6 k2_f7
    replace k1 := k1.step hx1
    replace k2 := k2.step hx1
    replace hb1 : Below w.heap.size w x1 := by (repeat (first | with_reducible exact Below.refl _ _ | with_reducible assumption | with_reducible refine Below.drew ?_ | with_reducible refine Below.drewN ?_ _ | with_reducible refine Below.alloc1 ?_ _ | with_reducible refine Below.setCell1 ?_ (by first | omega | (simp; done) | (simp; omega)) _ | with_reducible refine Below.step ?_ (by with_reducible assumption)))
    clear hx1
    have k2_0 := k2.cell 0; have k2_f0 := k2.frozen 0; have k2_1 := k2.cell 1; have k2_f1 := k2.frozen 1; have k2_2 := k2.cell 2; have k2_f2 := k2.frozen 2; have k2_3 := k2.cell 3; have k2_f3 := k2.frozen 3; have k2_4 := k2.cell 4; have k2_f4 := k2.frozen 4; have k2_5 := k2.cell 5; have k2_f5 := k2.frozen 5; have k2_6 := k2.cell 6; have k2_f6 := k2.frozen 6; have k2_7 := k2.cell 7; have k2_f7 := k2.frozen 7; simp only [List.set_cons_zero, List.set_cons_succ, List.getElem?_cons_zero, List.getElem?_cons_succ] at k2_0 k2_1 k2_2 k2_3 k2_4 k2_5 k2_6 k2_7
    go_wp2_with fail
    refine (jitter_Width_is HWd.out _).mono ?_; rintro e x2 ⟨rfl, hx2⟩
    clear k2_0 k2_1 k2_2 k2_3 k2_4 k2_5 k2_6 k2_7 k2_f0 k2_f1 k2_f2 k2_f3 k2_f4 k2_f5 k2_f6 k2_f7
    replace k1 := k1.step hx2
    replace k2 := k2.step hx2
    replace hb1 : Below w.heap.size w x2 := by (repeat (first | with_reducible exact Below.refl _ _ | with_reducible assumption | with_reducible refine Below.drew ?_ | with_reducible refine Below.drewN ?_ _ | with_reducible refine Below.alloc1 ?_ _ | with_reducible refine Below.setCell1 ?_ (by first | omega | (simp; done) | (simp; omega)) _ | with_reducible refine Below.step ?_ (by with_reducible assumption)))
    clear hx2
    have k2_0 := k2.cell 0; have k2_f0 := k2.frozen 0; have k2_1 := k2.cell 1; have k2_f1 := k2.frozen 1; have k2_2 := k2.cell 2; have k2_f2 := k2.frozen 2; have k2_3 := k2.cell 3; have k2_f3 := k2.frozen 3; have k2_4 := k2.cell 4; have k2_f4 := k2.frozen 4; have k2_5 := k2.cell 5; have k2_f5 := k2.frozen 5; have k2_6 := k2.cell 6; have k2_f6 := k2.frozen 6; have k2_7 := k2.cell 7; have k2_f7 := k2.frozen 7; simp only [List.set_cons_zero, List.set_cons_succ, List.getElem?_cons_zero, List.getElem?_cons_succ] at k2_0 k2_1 k2_2 k2_3 k2_4 k2_5 k2_6 k2_7
    have k1_0 := k1.cell 0; have k1_f0 := k1.frozen 0; have k1_1 := k1.cell 1; have k1_f1 := k1.frozen 1; simp only [List.set_cons_zero, List.set_cons_succ, List.getElem?_cons_zero, List.getElem?_cons_succ] at k1_0 k1_1
    have c1 := lo_cell k2 hk4
    have lk1 := k1.lt
    have lk2 := k2.lt
    go_wp2_with fail
    go_quiet (fail)
    have hb2 : Below w.heap.size w (x2.drewN nq) := by (repeat (first | with_reducible exact Below.refl _ _ | with_reducible assumption | with_reducible refine Below.drew ?_ | with_reducible refine Below.drewN ?_ _ | with_reducible refine Below.alloc1 ?_ _ | with_reducible refine Below.setCell1 ?_ (by first | omega | (simp; done) | (simp; omega)) _ | with_reducible refine Below.step ?_ (by with_reducible assumption)))
    have q2 : Bk (x2.drewN nq) (w.heap.size + 1 + 1) 29 (confC lo hi) := k2
    generalize x2.drewN nq = x3 at *
    clear k2_0 k2_1 k2_2 k2_3 k2_4 k2_5 k2_6 k2_7 k2_f0 k2_f1 k2_f2 k2_f3 k2_f4 k2_f5 k2_f6 k2_f7 k1_0 k1_1 k1_f0 k1_f1 c1 k1 k2 lk1 lk2 hb1
    have q2_0 := q2.cell 0; have q2_f0 := q2.frozen 0; have q2_1 := q2.cell 1; have q2_f1 := q2.frozen 1; have q2_2 := q2.cell 2; have q2_f2 := q2.frozen 2; have q2_3 := q2.cell 3; have q2_f3 := q2.frozen 3; have q2_4 := q2.cell 4; have q2_f4 := q2.frozen 4; have q2_5 := q2.cell 5; have q2_f5 := q2.frozen 5; have q2_6 := q2.cell 6; have q2_f6 := q2.frozen 6; have q2_7 := q2.cell 7; have q2_f7 := q2.frozen 7; simp only [List.set_cons_zero, List.set_cons_succ, List.getElem?_cons_zero, List.getElem?_cons_succ] at q2_0 q2_1 q2_2 q2_3 q2_4 q2_5 q2_6 q2_7
    have c1 := lo_cell q2 hk4
    have lk2 := q2.lt
    go_wp2_with fail
    by_cases hbig : 9223372036854775808 < draw
    · refine wp_region_m [(3, only (.bool true)), (18, only (.int .i64 (lo k + r))), (26, only (.bool true)), (38, only (.int .i64 (lo k + s))), (44, only (.bool true))] (by kernel_rfl) (by kernel_rfl) (by kernel_rfl) (by kernel_rfl) (sts_cons (sts_only _) (sts_cons (sts_only _) (sts_cons (sts_only _) (sts_cons (sts_only _) (sts_cons (sts_only _) sts_nil))))) (fun kq => ?_); (try dsimp only [List.append])
      (repeat (refine wpM_via (by kernel_rfl) ?_; go_big_quiet_step (fail); refine wpQuiet_nil ?_))
      (refine wpM_only _ (.bool true) (by kernel_rfl) (by kernel_rfl) rfl (later_some _) ?_ ?_; (focus (intro x hx hk; obtain ⟨px, rfl⟩ := hx; go_simp; (first | with_reducible refine mUpon_enter ?_ | with_reducible refine mUpon_value ?_); go_at_call 12; exact (jitter_Within_is HW1.out _).mo)); intro K hK; go_big_quiet_op; refine hK _ ?_; clear hK K)
      (repeat (refine wpM_via (by kernel_rfl) ?_; go_big_quiet_step (fail); refine wpQuiet_nil ?_))
      (refine wpM_only _ (.int .i64 (lo k + r)) (by kernel_rfl) (by kernel_rfl) rfl (later_some _) ?_ ?_; (focus (intro x hx hk; obtain ⟨px, rfl⟩ := hx; go_simp; (first | with_reducible refine mUpon_enter ?_ | with_reducible refine mUpon_value ?_); go_at_call 10; exact (jitter_Hint_is (by omega) (by omega) HH2.out _).mo)); intro K hK; go_big_quiet_op; refine hK _ ?_; clear hK K)
      (repeat (refine wpM_via (by kernel_rfl) ?_; go_big_quiet_step (fail); refine wpQuiet_nil ?_))
      (refine wpM_only _ (.bool true) (by kernel_rfl) (by kernel_rfl) rfl (later_some _) ?_ ?_; (focus (intro x hx hk; obtain ⟨px, rfl⟩ := hx; go_simp; (first | with_reducible refine mUpon_enter ?_ | with_reducible refine mUpon_value ?_); go_at_call 12; exact (jitter_Within_is HW2.out _).mo)); intro K hK; go_big_quiet_op; refine hK _ ?_; clear hK K)
      (repeat (refine wpM_via (by kernel_rfl) ?_; go_big_quiet_step (fail); refine wpQuiet_nil ?_))
      (refine wpM_only _ (.bool true) (by kernel_rfl) (by kernel_rfl) rfl (later_some _) ?_ ?_; (focus (intro x hx hk; obtain ⟨px, rfl⟩ := hx; go_simp; (first | with_reducible refine mUpon_enter ?_ | with_reducible refine mUpon_value ?_); go_at_call 5; exact (awake17 _).mo)); intro K hK; go_big_quiet_op; refine hK _ ?_; clear hK K)
      (repeat (refine wpM_via (by kernel_rfl) ?_; go_big_quiet_step (fail); refine wpQuiet_nil ?_))
      refine wpM_nil ?_; intro wq hwq hfq; have hbq := below_of_class hwq
      go_wp2
      go_ret
      exact ⟨rfl, by (repeat (first | with_reducible exact Below.refl _ _ | with_reducible assumption | with_reducible refine Below.drew ?_ | with_reducible refine Below.drewN ?_ _ | with_reducible refine Below.alloc1 ?_ _ | with_reducible refine Below.setCell1 ?_ (by first | omega | (simp; done) | (simp; omega)) _ | with_reducible refine Below.step ?_ (by with_reducible assumption)))⟩
    · have hbg : decide (9223372036854775808 < draw) = false := by simpa using hbig
      have s7 : IntKind.u64.wrap (draw + W) = draw + W := by rw [IntKind.wrap_u64]; omega
      refine wp_region_m [(3, only (.bool true)), (18, only (.int .i64 (lo k + r))), (26, only (.bool true)), (38, only (.int .i64 (lo k + s))), (44, only (.bool true))] (by kernel_rfl) (by kernel_rfl) (by kernel_rfl) (by kernel_rfl) (sts_cons (sts_only _) (sts_cons (sts_only _) (sts_cons (sts_only _) (sts_cons (sts_only _) (sts_cons (sts_only _) sts_nil))))) (fun kq => ?_); (try dsimp only [List.append])
      (repeat (refine wpM_via (by kernel_rfl) ?_; go_big_quiet_step (fail); refine wpQuiet_nil ?_))
      (refine wpM_only _ (.bool true) (by kernel_rfl) (by kernel_rfl) rfl (later_some _) ?_ ?_; (focus (intro x hx hk; obtain ⟨px, rfl⟩ := hx; go_simp; (first | with_reducible refine mUpon_enter ?_ | with_reducible refine mUpon_value ?_); go_at_call 12; exact (jitter_Within_is HW1.out _).mo)); intro K hK; go_big_quiet_op; refine hK _ ?_; clear hK K)
      (repeat (refine wpM_via (by kernel_rfl) ?_; go_big_quiet_step (fail); refine wpQuiet_nil ?_))
      (refine wpM_only _ (.int .i64 (lo k + r)) (by kernel_rfl) (by kernel_rfl) rfl (later_some _) ?_ ?_; (focus (intro x hx hk; obtain ⟨px, rfl⟩ := hx; go_simp; (first | with_reducible refine mUpon_enter ?_ | with_reducible refine mUpon_value ?_); go_at_call 10; exact (jitter_Hint_is (by omega) (by omega) HH2.out _).mo)); intro K hK; go_big_quiet_op; refine hK _ ?_; clear hK K)
      (repeat (refine wpM_via (by kernel_rfl) ?_; go_big_quiet_step (fail); refine wpQuiet_nil ?_))
      (refine wpM_only _ (.bool true) (by kernel_rfl) (by kernel_rfl) rfl (later_some _) ?_ ?_; (focus (intro x hx hk; obtain ⟨px, rfl⟩ := hx; go_simp; (first | with_reducible refine mUpon_enter ?_ | with_reducible refine mUpon_value ?_); go_at_call 12; exact (jitter_Within_is HW2.out _).mo)); intro K hK; go_big_quiet_op; refine hK _ ?_; clear hK K)
      (repeat (refine wpM_via (by kernel_rfl) ?_; go_big_quiet_step (fail); refine wpQuiet_nil ?_))
      (refine wpM_only _ (.int .i64 (lo k + s)) (by kernel_rfl) (by kernel_rfl) rfl (later_some _) ?_ ?_; (focus (intro x hx hk; obtain ⟨px, rfl⟩ := hx; go_simp; (first | with_reducible refine mUpon_enter ?_ | with_reducible refine mUpon_value ?_); go_at_call 10; exact (jitter_Hint_is (by omega) (by omega) HH3.out _).mo)); intro K hK; go_big_quiet_op; refine hK _ ?_; clear hK K)
      (repeat (refine wpM_via (by kernel_rfl) ?_; go_big_quiet_step (fail); refine wpQuiet_nil ?_))
      (refine wpM_only _ (.bool true) (by kernel_rfl) (by kernel_rfl) rfl (later_some _) ?_ ?_; (focus (intro x hx hk; obtain ⟨px, rfl⟩ := hx; go_simp; (first | with_reducible refine mUpon_enter ?_ | with_reducible refine mUpon_value ?_); go_at_call 5; exact (awake17 _).mo)); intro K hK; go_big_quiet_op; refine hK _ ?_; clear hK K)
      (repeat (refine wpM_via (by kernel_rfl) ?_; go_big_quiet_step (fail); refine wpQuiet_nil ?_))
      refine wpM_nil ?_; intro wq hwq hfq; have hbq := below_of_class hwq
      go_wp2
      go_ret
      exact ⟨rfl, by (repeat (first | with_reducible exact Below.refl _ _ | with_reducible assumption | with_reducible refine Below.drew ?_ | with_reducible refine Below.drewN ?_ _ | with_reducible refine Below.alloc1 ?_ _ | with_reducible refine Below.setCell1 ?_ (by first | omega | (simp; done) | (simp; omega)) _ | with_reducible refine Below.step ?_ (by with_reducible assumption)))⟩
  · have hm : jMay lo hi k = false := by simp [jMay, hc]
    have hh : jHint lo hi k draw = 0 := by simp [jHint, hm]
    have hv : jCheck lo hi = 8 ∨ jCheck lo hi = 10 := by have := jCheck_cases lo hi; omega
    have HH := hide hh
    clear hh hm hc
    rcases hv with h1 | h1
    all_goals
      have H1 := hide h1
      clear h1
      go_enter Try.func4, Try.ntmps4
      go_wp2_with fail
      refine (jitter_Check_is H1.out _).mono ?_; rintro e x0 ⟨rfl, hx0⟩; obtain ⟨hc_hx0, hf_hx0⟩ := bcell hx0; have hz_hx0 := hx0.size; (try simp at hz_hx0)
      go_wp2_with fail
      refine (jitter_Hint_is hd.1 hd.2 HH.out _).mono ?_; rintro e x1 ⟨rfl, hx1⟩; obtain ⟨hc_hx1, hf_hx1⟩ := bcell hx1; have hz_hx1 := hx1.size; (try simp at hz_hx1)
      go_wp2_with fail
      refine (awake17 _).mono ?_; rintro e x2 ⟨rfl, hx2⟩
      go_wp2_with fail
      go_ret
      exact ⟨rfl, by (repeat (first | with_reducible exact Below.refl _ _ | with_reducible assumption | with_reducible refine Below.drew ?_ | with_reducible refine Below.drewN ?_ _ | with_reducible refine Below.alloc1 ?_ _ | with_reducible refine Below.setCell1 ?_ (by first | omega | (simp; done) | (simp; omega)) _ | with_reducible refine Below.step ?_ (by with_reducible assumption)))⟩
end Go.Proofs.Ytcgmaimfnepefaa

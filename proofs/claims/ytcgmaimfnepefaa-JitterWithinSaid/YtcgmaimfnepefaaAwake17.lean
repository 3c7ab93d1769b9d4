/- callboylaw17.awake answers true. -/
import Derived.Test.YtcgmaimfnepefaaJit4
import Derived.Test.YtcgmaimfnepefaaSame
import Derived.Test.YtcgmaimfnepefaaRel2
namespace Go.Proofs.Ytcgmaimfnepefaa
open Go.RowKit
set_option linter.unusedSimpArgs false
set_option linter.unusedVariables false

abbrev usV : Value := .agg #[.int .i64 1, .int .i64 5, .int .i64 20, .int .i64 60, .int .i64 4, .int .i64 20, .int .i64 60, .int .i64 240]
abbrev usC : List Value := [.int .i64 1, .int .i64 5, .int .i64 20, .int .i64 60, .int .i64 4, .int .i64 20, .int .i64 60, .int .i64 240]
def f4 (a b c d : Int) : Nat → Int
  | 0 => a
  | 1 => b
  | 2 => c
  | _ => d
theorem aUsual (w : World) : Calls Try.prog 13 #[] w fun e w' => e = .returned usV ∧ Below w.heap.size w w' := jitter_Usual_any w
theorem aHint1 (w : World) : Calls Try.prog 10 #[usV, .int .i64 1, .int .u64 17] w fun e w' => e = .returned (.int .i64 6) ∧ Below w.heap.size w w' := (jitter_Hint_any uLo uHi 1 17 (by omega) (by omega) w).lit (by kernel_rfl)
theorem aHint4 (w : World) : Calls Try.prog 10 #[usV, .int .i64 4, .int .u64 17] w fun e w' => e = .returned (.int .i64 0) ∧ Below w.heap.size w w' := (jitter_Hint_any uLo uHi 4 17 (by omega) (by omega) w).lit (by kernel_rfl)
theorem aWidth (w : World) : Calls Try.prog 11 #[usV, .int .i64 0] w fun e w' => e = .returned (.int .i64 4) ∧ Below w.heap.size w w' := (jitter_Width_any uLo uHi 0 w).lit (by kernel_rfl)
theorem aWithin2 (w : World) : Calls Try.prog 12 #[usV, .int .i64 2, .int .i64 20] w fun e w' => e = .returned (.bool true) ∧ Below w.heap.size w w' := (jitter_Within_any uLo uHi 2 20 w).lit (by kernel_rfl)
theorem aWithin61 (w : World) : Calls Try.prog 12 #[usV, .int .i64 2, .int .i64 61] w fun e w' => e = .returned (.bool false) ∧ Below w.heap.size w w' := (jitter_Within_any uLo uHi 2 61 w).lit (by kernel_rfl)
def h4 : Int := (jHints uLo uHi 3 9 5).2[4]?.getD 0
theorem aWithin3 (w : World) : Calls Try.prog 12 #[usV, .int .i64 3, .int .i64 h4] w fun e w' => e = .returned (.bool true) ∧ Below w.heap.size w w' := (jitter_Within_any uLo uHi 3 h4 w).lit (by kernel_rfl)
theorem aCheck (w : World) : Calls Try.prog 9 #[usV] w fun e w' => e = .returned (.int .i64 0) ∧ Below w.heap.size w w' := (jitter_Check_any uLo uHi w).lit (by kernel_rfl)
theorem aCheck0 (w : World) : Calls Try.prog 9 #[.agg #[.int .i64 0, .int .i64 0, .int .i64 0, .int .i64 0, .int .i64 0, .int .i64 0, .int .i64 0, .int .i64 0]] w fun e w' => e = .returned (.int .i64 8) ∧ Below w.heap.size w w' :=
  (jitter_Check_any (fun _ => 0) (fun _ => 0) w).lit (by kernel_rfl)
theorem aHints (w : World) : Calls Try.prog 14 #[usV, .int .i64 3, .int .u64 9, .int .i64 5] w fun e w' => ∃ A c, ∃ l : List Int, e = .returned (.slice A 5 c) ∧ Rd w' w'.heap.size A (l.map (Value.int .i64)) ∧ l.length = 5 ∧ l[4]? = some h4 ∧ Fr w.heap.size A ∧ Below w.heap.size w w' :=
  (jitter_Hints_any uLo uHi 3 9 5 (by omega) (by omega) (by omega) (by decide +kernel) w).mono fun e w' ⟨A, c, he, hr, hf, hb⟩ => ⟨A, c, _, he, hr, jHints_length _ _ _ _ _, by
    have := jHints_length uLo uHi 3 9 5
    unfold h4
    cases h : (jHints uLo uHi 3 9 5).2[4]? with
    | none => rw [List.getElem?_eq_none_iff] at h; omega
    | some x => rfl, hf, hb⟩
theorem aSpread (A : Option Addr) (c : Nat) (w : World) (ha : Rd w w.heap.size A (ints [1, 3, 3, 9])) :
    Calls Try.prog 7 #[usV, .int .i64 0, .slice A 4 c] w fun e w' => ∃ g : Nat, e = .returned (.slice (some ⟨g, 0, none⟩) 4 4) ∧ Bk w' g 3 (ints [1, 0, 2, 0]) ∧ w.heap.size ≤ g ∧ Below w.heap.size w w' :=
  (jitter_Spread_yes (lo := uLo) (hi := uHi) (level := 0) (k := 0) (by decide +kernel) (by omega) rfl A c [1, 3, 3, 9] (by decide) w ha).mono fun e w' ⟨g, W, he, hW, hk, hg, hb⟩ => by
    have e1 : W = 4 := by simp only [uHi, uLo] at hW; omega
    subst e1
    have e2 : jSp (uLo 0) (uHi 0) 4 [1, 3, 3, 9] = [1, 0, 2, 0] := by decide +kernel
    rw [e2] at hk
    exact ⟨g, he, hk, hg, hb⟩
theorem aSame (A B : Option Addr) (c d : Nat) (w : World) (ha : Rd w w.heap.size A (ints [1, 0, 2, 0])) (hb : Rd w w.heap.size B (ints [1, 0, 2, 0])) :
    Calls Try.prog 6 #[.slice A 4 c, .slice B 4 d] w fun e w' => e = .returned (.bool true) ∧ ∃ n, w.drewN n = w' := (SameInts_any A B c d [1, 0, 2, 0] [1, 0, 2, 0] w (by decide) ha hb).lit (by kernel_rfl)

set_option maxHeartbeats 4000000 in
theorem awake17 (w : World) : Calls Try.prog 5 #[] w fun e w' => e = .returned (.bool true) ∧ Below w.heap.size w w' := by
  go_enter Try.func5, Try.ntmps5
  go_wp2_with fail
  refine (aUsual _).mono ?_; rintro e x0 ⟨rfl, hx0⟩; obtain ⟨hc_hx0, hf_hx0⟩ := bcell hx0; have hz_hx0 := hx0.size; (try simp at hz_hx0)
  go_wp2_with fail
  refine (aHints _).mono ?_; rintro e x1 ⟨A, c, l, rfl, hrd, hlen, hl4, hfr, hx1⟩
  have k1 : Bk x1 x0.heap.size 29 usC := (Bk.new' x0 _ usC _ rfl).step hx1
  have k1_0 := k1.cell 0; have k1_f0 := k1.frozen 0; have k1_1 := k1.cell 1; have k1_f1 := k1.frozen 1; have k1_2 := k1.cell 2; have k1_f2 := k1.frozen 2; have k1_3 := k1.cell 3; have k1_f3 := k1.frozen 3; have k1_4 := k1.cell 4; have k1_f4 := k1.frozen 4; have k1_5 := k1.cell 5; have k1_f5 := k1.frozen 5; have k1_6 := k1.cell 6; have k1_f6 := k1.frozen 6; have k1_7 := k1.cell 7; have k1_f7 := k1.frozen 7; simp only [List.set_cons_zero, List.set_cons_succ, List.getElem?_cons_zero, List.getElem?_cons_succ] at k1_0 k1_1 k1_2 k1_3 k1_4 k1_5 k1_6 k1_7
  have lk1 := k1.lt
  have hrd4 : ∃ ad, A = some ad ∧ ad.block < x1.heap.size ∧ x1.cell? (ad.add 4) = some (.int .i64 h4) := by
    obtain ⟨ad, e, hb, hc⟩ := hrd (by intro h; rw [List.map_eq_nil_iff] at h; subst h; simp at hlen)
    exact ⟨ad, e, hb, hc 4 _ (by rw [List.getElem?_map, hl4]; rfl)⟩
  obtain ⟨ad, rfl, hadb, hc4⟩ := hrd4
  have hbx : Below w.heap.size w x1 := by (repeat (first | with_reducible exact Below.refl _ _ | with_reducible assumption | with_reducible refine Below.drew ?_ | with_reducible refine Below.drewN ?_ _ | with_reducible refine Below.alloc1 ?_ _ | with_reducible refine Below.setCell1 ?_ (by first | omega | (simp; done) | (simp; omega)) _ | with_reducible refine Below.step ?_ (by with_reducible assumption)))
  clear hc_hx0 hf_hx0 hrd hlen hl4 hfr hx0 hx1 hz_hx0
  go_wp2_with fail
  have hc5 : x1.cell? ⟨ad.block, ad.off + 4, none⟩ = some (.int .i64 h4) := by have := hc4; simpa [Addr.add] using this
  refine wp_region_m [(1, only (.int .i64 6)), (5, only (.int .i64 0)), (10, only (.int .i64 4)), (15, only (.bool true)), (19, only (.bool false)), (32, only (.bool true)), (36, only (.int .i64 0)), (41, only (.int .i64 8)), (46, RowAt 4 (ints [1, 3, 3, 9])), (47, RowAt 4 (ints [1, 0, 2, 0])), (48, RowAt 4 (ints [1, 0, 2, 0])), (49, only (.bool true))] (by kernel_rfl) (by kernel_rfl) (by kernel_rfl) (by kernel_rfl) (sts_cons (sts_only _) (sts_cons (sts_only _) (sts_cons (sts_only _) (sts_cons (sts_only _) (sts_cons (sts_only _) (sts_cons (sts_only _) (sts_cons (sts_only _) (sts_cons (sts_only _) (sts_cons (sts_row _ _) (sts_cons (sts_row _ _) (sts_cons (sts_row _ _) (sts_cons (sts_only _) sts_nil)))))))))))) (fun kq => ?_); (try dsimp only [List.append])
  (repeat (refine wpM_via (by kernel_rfl) ?_; go_big_quiet_step (fail); refine wpQuiet_nil ?_))
  (refine wpM_only _ (.int .i64 6) (by kernel_rfl) (by kernel_rfl) rfl (later_some _) ?_ ?_; (focus (intro x hx hk; obtain ⟨px, rfl⟩ := hx; go_simp; (first | with_reducible refine mUpon_enter ?_ | with_reducible refine mUpon_value ?_); go_at_call 10; exact (aHint1 _).mo)); intro K hK; go_big_quiet_op; refine hK _ ?_; clear hK K)
  (repeat (refine wpM_via (by kernel_rfl) ?_; go_big_quiet_step (fail); refine wpQuiet_nil ?_))
  (refine wpM_only _ (.int .i64 0) (by kernel_rfl) (by kernel_rfl) rfl (later_some _) ?_ ?_; (focus (intro x hx hk; obtain ⟨px, rfl⟩ := hx; go_simp; (first | with_reducible refine mUpon_enter ?_ | with_reducible refine mUpon_value ?_); go_at_call 10; exact (aHint4 _).mo)); intro K hK; go_big_quiet_op; refine hK _ ?_; clear hK K)
  (repeat (refine wpM_via (by kernel_rfl) ?_; go_big_quiet_step (fail); refine wpQuiet_nil ?_))
  (refine wpM_only _ (.int .i64 4) (by kernel_rfl) (by kernel_rfl) rfl (later_some _) ?_ ?_; (focus (intro x hx hk; obtain ⟨px, rfl⟩ := hx; go_simp; (first | with_reducible refine mUpon_enter ?_ | with_reducible refine mUpon_value ?_); go_at_call 11; exact (aWidth _).mo)); intro K hK; go_big_quiet_op; refine hK _ ?_; clear hK K)
  (repeat (refine wpM_via (by kernel_rfl) ?_; go_big_quiet_step (fail); refine wpQuiet_nil ?_))
  (refine wpM_only _ (.bool true) (by kernel_rfl) (by kernel_rfl) rfl (later_some _) ?_ ?_; (focus (intro x hx hk; obtain ⟨px, rfl⟩ := hx; go_simp; (first | with_reducible refine mUpon_enter ?_ | with_reducible refine mUpon_value ?_); go_at_call 12; exact (aWithin2 _).mo)); intro K hK; go_big_quiet_op; refine hK _ ?_; clear hK K)
  (repeat (refine wpM_via (by kernel_rfl) ?_; go_big_quiet_step (fail); refine wpQuiet_nil ?_))
  (refine wpM_only _ (.bool false) (by kernel_rfl) (by kernel_rfl) rfl (later_some _) ?_ ?_; (focus (intro x hx hk; obtain ⟨px, rfl⟩ := hx; go_simp; (first | with_reducible refine mUpon_enter ?_ | with_reducible refine mUpon_value ?_); go_at_call 12; exact (aWithin61 _).mo)); intro K hK; go_big_quiet_op; refine hK _ ?_; clear hK K)
  (repeat (refine wpM_via (by kernel_rfl) ?_; go_big_quiet_step (fail); refine wpQuiet_nil ?_))
  (refine wpM_only _ (.bool true) (by kernel_rfl) (by kernel_rfl) rfl (later_some _) ?_ ?_; (focus (intro x hx hk; obtain ⟨px, rfl⟩ := hx; go_simp; (first | with_reducible refine mUpon_enter ?_ | with_reducible refine mUpon_value ?_); go_at_call 12; exact (aWithin3 _).mo)); intro K hK; go_big_quiet_op; refine hK _ ?_; clear hK K)
  (repeat (refine wpM_via (by kernel_rfl) ?_; go_big_quiet_step (fail); refine wpQuiet_nil ?_))
  (refine wpM_only _ (.int .i64 0) (by kernel_rfl) (by kernel_rfl) rfl (later_some _) ?_ ?_; (focus (intro x hx hk; obtain ⟨px, rfl⟩ := hx; go_simp; (first | with_reducible refine mUpon_enter ?_ | with_reducible refine mUpon_value ?_); go_at_call 9; exact (aCheck _).mo)); intro K hK; go_big_quiet_op; refine hK _ ?_; clear hK K)
  (repeat (refine wpM_via (by kernel_rfl) ?_; go_big_quiet_step (fail); refine wpQuiet_nil ?_))
  (refine wpM_only _ (.int .i64 8) (by kernel_rfl) (by kernel_rfl) rfl (later_some _) ?_ ?_; (focus (intro x hx hk; obtain ⟨px, rfl⟩ := hx; go_simp; (first | with_reducible refine mUpon_enter ?_ | with_reducible refine mUpon_value ?_); go_at_call 9; exact (aCheck0 _).mo)); intro K hK; go_big_quiet_op; refine hK _ ?_; clear hK K)
  (repeat (refine wpM_via (by kernel_rfl) ?_; go_big_quiet_step (fail); refine wpQuiet_nil ?_))
  (refine wpM_spec _ (RowAt 4 (ints [1, 3, 3, 9])) (by kernel_rfl) (by kernel_rfl) rfl (later_some _) ?_ ?_; (focus (intro x hx hk; obtain ⟨px, rfl⟩ := hx; go_simp; (first | with_reducible refine mUpon_enter ?_ | with_reducible refine mUpon_value ?_); exact row_new (by simp [Go.Sort.grow]) rfl)); intro v hv K hK; obtain ⟨A2, c2, rfl⟩ := hv; go_big_quiet_op; refine hK _ ?_; clear hK K)
  (repeat (refine wpM_via (by kernel_rfl) ?_; go_big_quiet_step (fail); refine wpQuiet_nil ?_))
  (refine wpM_spec _ (RowAt 4 (ints [1, 0, 2, 0])) (by kernel_rfl) (by kernel_rfl) rfl (later_some _) ?_ ?_; (focus (intro x hx hk; obtain ⟨px, rfl⟩ := hx; go_simp; (first | with_reducible refine mUpon_enter ?_ | with_reducible refine mUpon_value ?_); go_at_call 7; exact ((aSpread _ _ _ (row_of (hk.1 (by kernel_rfl)))).mono fun e w' ⟨g, he, hB, _, hb⟩ => ⟨_, _, he, hB.rd, hb⟩).mrow)); intro v hv K hK; obtain ⟨A3, c3, rfl⟩ := hv; go_big_quiet_op; refine hK _ ?_; clear hK K)
  (repeat (refine wpM_via (by kernel_rfl) ?_; go_big_quiet_step (fail); refine wpQuiet_nil ?_))
  (refine wpM_spec _ (RowAt 4 (ints [1, 0, 2, 0])) (by kernel_rfl) (by kernel_rfl) rfl (later_some _) ?_ ?_; (focus (intro x hx hk; obtain ⟨px, rfl⟩ := hx; go_simp; (first | with_reducible refine mUpon_enter ?_ | with_reducible refine mUpon_value ?_); exact row_new (by simp [Go.Sort.grow]) rfl)); intro v hv K hK; obtain ⟨A4, c4, rfl⟩ := hv; go_big_quiet_op; refine hK _ ?_; clear hK K)
  (repeat (refine wpM_via (by kernel_rfl) ?_; go_big_quiet_step (fail); refine wpQuiet_nil ?_))
  (refine wpM_only _ (.bool true) (by kernel_rfl) (by kernel_rfl) rfl (later_some _) ?_ ?_; (focus (intro x hx hk; obtain ⟨px, rfl⟩ := hx; go_simp; (first | with_reducible refine mUpon_enter ?_ | with_reducible refine mUpon_value ?_); go_at_call 6; exact (aSame _ _ _ _ _ (row_of (hk.2.1 (by kernel_rfl))) (row_of (hk.1 (by kernel_rfl)))).mod)); intro K hK; go_big_quiet_op; refine hK _ ?_; clear hK K)
  (repeat (refine wpM_via (by kernel_rfl) ?_; go_big_quiet_step (fail); refine wpQuiet_nil ?_))
  refine wpM_nil ?_; intro wq hwq hfq; have hbq := below_of_class hwq
  go_wp2
  go_ret
  exact ⟨rfl, by (repeat (first | with_reducible exact Below.refl _ _ | with_reducible assumption | with_reducible refine Below.drew ?_ | with_reducible refine Below.drewN ?_ _ | with_reducible refine Below.alloc1 ?_ _ | with_reducible refine Below.setCell1 ?_ (by first | omega | (simp; done) | (simp; omega)) _ | with_reducible refine Below.step ?_ (by with_reducible assumption)))⟩
end Go.Proofs.Ytcgmaimfnepefaa

/- The walk of LevelRuns. -/
import Derived.Test.YtbajakifkidccaaAwake16
import Derived.Test.YtbajakifkidccaaRef16c
namespace Go.Proofs.Ytbajakifkidccaa
open Go.RowKit Go.Sort
set_option linter.unusedSimpArgs false
set_option linter.unusedVariables false

def vRuns (up dn : Nat → Int) (hold : Int) (l : List Int) : List Int := if vCheck up dn hold = 0 then (vRun up dn hold l).2 else []
theorem level_Run_row (up dn : Nat → Int) (hold : Int) (A : Option Addr) (c : Nat) (l : List Int) (hl : l.length ≤ 1000000) (w : World) (hA : Rd w w.heap.size A (l.map (Value.int .i64))) :
    Calls Try.prog 19 #[lcV up dn hold, .slice A l.length c] w fun e w' => ∃ B d, e = .returned (.slice B (vRuns up dn hold l).length d) ∧ Rd w' w'.heap.size B (ints (vRuns up dn hold l)) ∧ Below w.heap.size w w' := by
  by_cases h0 : vCheck up dn hold = 0
  · have e : vRuns up dn hold l = (vRun up dn hold l).2 := by unfold vRuns; rw [if_pos h0]
    rw [e, vRun_length]
    exact level_Run_yes h0 A c l hl w hA
  · have e : vRuns up dn hold l = [] := by unfold vRuns; rw [if_neg h0]
    rw [e]
    exact (level_Run_no h0 A _ c w).mono fun e w' ⟨he, hb⟩ => ⟨none, 0, he, Rd.nil, hb⟩
theorem r16_Run_row (up dn : Nat → Int) (hold : Int) (A : Option Addr) (c : Nat) (l : List Int) (hl : l.length ≤ 1000000) (w : World) (hA : Rd w w.heap.size A (l.map (Value.int .i64))) :
    Calls Try.prog 20 #[lcV up dn hold, .slice A l.length c] w fun e w' => ∃ B d, e = .returned (.slice B (vRuns up dn hold l).length d) ∧ Rd w' w'.heap.size B (ints (vRuns up dn hold l)) ∧ Below w.heap.size w w' := by
  by_cases h0 : vCheck up dn hold = 0
  · have e : vRuns up dn hold l = (vRun up dn hold l).2 := by unfold vRuns; rw [if_pos h0]
    rw [e, vRun_length]
    exact r16_Run_yes h0 A c l hl w hA
  · have e : vRuns up dn hold l = [] := by unfold vRuns; rw [if_neg h0]
    rw [e]
    exact (r16_Run_no h0 A c l hl w).mono fun e w' ⟨he, hb⟩ => ⟨none, 0, he, Rd.nil, hb⟩
theorem Same_ints (A B : Option Addr) (c d : Nat) (l : List Int) (hl : l.length ≤ maxLen) (w : World) (ha : Rd w w.heap.size A (ints l)) (hb : Rd w w.heap.size B (ints l)) :
    Calls Try.prog 18 #[.slice A l.length c, .slice B l.length d] w fun e w' => e = .returned (.bool true) ∧ ∃ n, w.drewN n = w' := (SameInts_any A B c d l l w hl ha hb).lit (by simp)

set_option maxRecDepth 100000 in
set_option maxHeartbeats 8000000 in
theorem LevelRuns_walk (up dn : Nat → Int) (hold : Int) (A : Option Addr) (c : Nat) (l : List Int) (n0 n1 : Int) (hl : l.length ≤ maxLen) (w : World) (hA : Rd w w.heap.size A (l.map (Value.int .i64))) :
    Calls Try.prog 4 #[lcV up dn hold, .slice A l.length c, .agg #[.int .i64 n0, .int .i64 n1]] w fun e w' => e = .returned (.bool true) ∧ Below w.heap.size w w' := by
  unfold maxLen at hl
  by_cases h100 : l.length ≤ 100
  · go_enter Try.func4, Try.ntmps4
    go_wp2_with fail
    generalize hW : World.alloc (World.alloc w _) _ = w1
    have hb1 : Below w.heap.size w w1 := by subst hW; (repeat (first | with_reducible exact Below.refl _ _ | with_reducible assumption | with_reducible refine Below.drew ?_ | with_reducible refine Below.drewN ?_ _ | with_reducible refine Below.alloc1 ?_ _ | with_reducible refine Below.setCell1 ?_ (by first | omega | (simp; done) | (simp; omega)) _ | with_reducible refine Below.step ?_ (by with_reducible assumption)))
    have k0 : Bk w1 w.heap.size 24 (lcC up dn hold) := by subst hW; (repeat (first | with_reducible exact Bk.new' _ _ _ _ (by simp; done) | with_reducible assumption | with_reducible refine Bk.alloc ?_ _ | with_reducible refine Bk.drew ?_ | with_reducible refine Bk.drewN ?_ _ | with_reducible refine Bk.step ?_ (by with_reducible assumption) | with_reducible refine Bk.far ?_ (by first | omega | (simp; done) | (simp; omega)) _))
    have k2 : Bk w1 (w.heap.size + 1) 27 [.int .i64 n0, .int .i64 n1] := by subst hW; (repeat (first | with_reducible exact Bk.new' _ _ _ _ (by simp; done) | with_reducible assumption | with_reducible refine Bk.alloc ?_ _ | with_reducible refine Bk.drew ?_ | with_reducible refine Bk.drewN ?_ _ | with_reducible refine Bk.step ?_ (by with_reducible assumption) | with_reducible refine Bk.far ?_ (by first | omega | (simp; done) | (simp; omega)) _))
    have ha1 : Rd w1 w1.heap.size A (l.map (Value.int .i64)) := by subst hW; exact (hA.alloc1 _).alloc1 _
    clear hW hA
    have k0_0 := k0.cell 0; have k0_f0 := k0.frozen 0; have k0_1 := k0.cell 1; have k0_f1 := k0.frozen 1; have k0_2 := k0.cell 2; have k0_f2 := k0.frozen 2; have k0_3 := k0.cell 3; have k0_f3 := k0.frozen 3; have k0_4 := k0.cell 4; have k0_f4 := k0.frozen 4; have k0_5 := k0.cell 5; have k0_f5 := k0.frozen 5; have k0_6 := k0.cell 6; have k0_f6 := k0.frozen 6; simp only [List.set_cons_zero, List.set_cons_succ, List.getElem?_cons_zero, List.getElem?_cons_succ] at k0_0 k0_1 k0_2 k0_3 k0_4 k0_5 k0_6; have lt_k0 := k0.lt; have k2_0 := k2.cell 0; have k2_f0 := k2.frozen 0; have k2_1 := k2.cell 1; have k2_f1 := k2.frozen 1; simp only [List.set_cons_zero, List.set_cons_succ, List.getElem?_cons_zero, List.getElem?_cons_succ] at k2_0 k2_1; have lt_k2 := k2.lt
    generalize hx : vRuns up dn hold l = xs
    have hxl : xs.length ≤ maxLen := by
      rw [← hx]; unfold vRuns maxLen; split
      · rw [vRun_length]; omega
      · simp
    have HX := hide hx
    clear hx
    refine wp_region_m [(2, RowAt xs.length (ints xs)), (5, RowAt xs.length (ints xs)), (6, only (.bool true)), (12, only (.bool (vAllows n0 n1))), (17, only (.bool (vAllows n0 n1))), (23, only (.string (vName n0))), (26, only (.string (vName n0))), (30, only (.bool true))] (by kernel_rfl) (by kernel_rfl) (by kernel_rfl) (by kernel_rfl) (sts_cons (sts_row _ _) (sts_cons (sts_row _ _) (sts_cons (sts_only _) (sts_cons (sts_only _) (sts_cons (sts_only _) (sts_cons (sts_only _) (sts_cons (sts_only _) (sts_cons (sts_only _) sts_nil)))))))) (fun kq => ?_); (try dsimp only [List.append])
    (repeat (refine wpM_via (by kernel_rfl) ?_; go_big_quiet_step (fail); refine wpQuiet_nil ?_))
    (refine wpM_spec _ (RowAt xs.length (ints xs)) (by kernel_rfl) (by kernel_rfl) rfl (later_some _) ?_ ?_; (focus (intro x hx hk; obtain ⟨px, rfl⟩ := hx; go_simp; (first | with_reducible refine mUpon_enter ?_ | with_reducible refine mUpon_value ?_); go_at_call 19; have h := level_Run_row up dn hold A c l (by omega) (grow (redrawn w1 px.d) px.os) (ha1.step (below_regrown _ _ _)); rw [HX.out] at h; exact h.mrow)); intro v hv K hK; obtain ⟨A2, c2, rfl⟩ := hv; go_big_quiet_op; refine hK _ ?_; clear hK K)
    (repeat (refine wpM_via (by kernel_rfl) ?_; go_big_quiet_step (fail); refine wpQuiet_nil ?_))
    (refine wpM_spec _ (RowAt xs.length (ints xs)) (by kernel_rfl) (by kernel_rfl) rfl (later_some _) ?_ ?_; (focus (intro x hx hk; obtain ⟨px, rfl⟩ := hx; go_simp; (first | with_reducible refine mUpon_enter ?_ | with_reducible refine mUpon_value ?_); go_at_call 20; have h := r16_Run_row up dn hold A c l (by omega) (grow (redrawn w1 px.d) px.os) (ha1.step (below_regrown _ _ _)); rw [HX.out] at h; exact h.mrow)); intro v hv K hK; obtain ⟨A3, c3, rfl⟩ := hv; go_big_quiet_op; refine hK _ ?_; clear hK K)
    (repeat (refine wpM_via (by kernel_rfl) ?_; go_big_quiet_step (fail); refine wpQuiet_nil ?_))
    (refine wpM_only _ (.bool true) (by kernel_rfl) (by kernel_rfl) rfl (later_some _) ?_ ?_; (focus (intro x hx hk; obtain ⟨px, rfl⟩ := hx; go_simp; (first | with_reducible refine mUpon_enter ?_ | with_reducible refine mUpon_value ?_); go_at_call 18; exact (Same_ints _ _ _ _ xs hxl _ (row_of (hk.2.1 (by kernel_rfl))) (row_of (hk.1 (by kernel_rfl)))).mod)); intro K hK; go_big_quiet_op; refine hK _ ?_; clear hK K)
    (repeat (refine wpM_via (by kernel_rfl) ?_; go_big_quiet_step (fail); refine wpQuiet_nil ?_))
    (refine wpM_only _ (.bool (vAllows n0 n1)) (by kernel_rfl) (by kernel_rfl) rfl (later_some _) ?_ ?_; (focus (intro x hx hk; obtain ⟨px, rfl⟩ := hx; go_simp; (first | with_reducible refine mUpon_enter ?_ | with_reducible refine mUpon_value ?_); go_at_call 21; exact (level_Allows_any n0 n1 _).mos)); intro K hK; go_big_quiet_op; refine hK _ ?_; clear hK K)
    (repeat (refine wpM_via (by kernel_rfl) ?_; go_big_quiet_step (fail); refine wpQuiet_nil ?_))
    (refine wpM_only _ (.bool (vAllows n0 n1)) (by kernel_rfl) (by kernel_rfl) rfl (later_some _) ?_ ?_; (focus (intro x hx hk; obtain ⟨px, rfl⟩ := hx; go_simp; (first | with_reducible refine mUpon_enter ?_ | with_reducible refine mUpon_value ?_); go_at_call 22; exact (r16_Allows_any n0 n1 _).mos)); intro K hK; go_big_quiet_op; refine hK _ ?_; clear hK K)
    (repeat (refine wpM_via (by kernel_rfl) ?_; go_big_quiet_step (fail); refine wpQuiet_nil ?_))
    (refine wpM_only _ (.string (vName n0)) (by kernel_rfl) (by kernel_rfl) rfl (later_some _) ?_ ?_; (focus (intro x hx hk; obtain ⟨px, rfl⟩ := hx; go_simp; (first | with_reducible refine mUpon_enter ?_ | with_reducible refine mUpon_value ?_); go_at_call 23; exact (level_Name_any n0 _).mos)); intro K hK; go_big_quiet_op; refine hK _ ?_; clear hK K)
    (repeat (refine wpM_via (by kernel_rfl) ?_; go_big_quiet_step (fail); refine wpQuiet_nil ?_))
    (refine wpM_only _ (.string (vName n0)) (by kernel_rfl) (by kernel_rfl) rfl (later_some _) ?_ ?_; (focus (intro x hx hk; obtain ⟨px, rfl⟩ := hx; go_simp; (first | with_reducible refine mUpon_enter ?_ | with_reducible refine mUpon_value ?_); go_at_call 24; exact (r16_Name_any n0 _).mos)); intro K hK; go_big_quiet_op; refine hK _ ?_; clear hK K)
    (repeat (refine wpM_via (by kernel_rfl) ?_; go_big_quiet_step (fail); refine wpQuiet_nil ?_))
    (refine wpM_only _ (.bool true) (by kernel_rfl) (by kernel_rfl) rfl (later_some _) ?_ ?_; (focus (intro x hx hk; obtain ⟨px, rfl⟩ := hx; go_simp; (first | with_reducible refine mUpon_enter ?_ | with_reducible refine mUpon_value ?_); go_at_call 17; exact (awake16 _).mo)); intro K hK; go_big_quiet_op; refine hK _ ?_; clear hK K)
    (repeat (refine wpM_via (by kernel_rfl) ?_; go_big_quiet_step (fail); refine wpQuiet_nil ?_))
    refine wpM_nil ?_; intro wq hwq hfq; have hbq := below_of_class hwq; clear hwq kq; (try dsimp only [List.drop])
    go_wp2
    go_ret
    exact ⟨rfl, by (repeat (first | with_reducible exact Below.refl _ _ | with_reducible assumption | with_reducible refine Below.drew ?_ | with_reducible refine Below.drewN ?_ _ | with_reducible refine Below.alloc1 ?_ _ | with_reducible refine Below.setCell1 ?_ (by first | omega | (simp; done) | (simp; omega)) _ | with_reducible refine Below.step ?_ (by with_reducible assumption)))⟩
  · go_enter Try.func4, Try.ntmps4
    go_wp2_with (go_at_call 17; refine (awake16 _).mono ?_; rintro e x1 ⟨rfl, hx1⟩)
    go_ret
    exact ⟨rfl, by (repeat (first | with_reducible exact Below.refl _ _ | with_reducible assumption | with_reducible refine Below.drew ?_ | with_reducible refine Below.drewN ?_ _ | with_reducible refine Below.alloc1 ?_ _ | with_reducible refine Below.setCell1 ?_ (by first | omega | (simp; done) | (simp; omega)) _ | with_reducible refine Below.step ?_ (by with_reducible assumption)))⟩
end Go.Proofs.Ytbajakifkidccaa

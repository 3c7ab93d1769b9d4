/- The walks of the laws of callboylaw17. -/
import Derived.Test.YtcgmaimfnepefaaAwake17
import Derived.Test.YtcgmaimfnepefaaRef17b
namespace Go.Proofs.Ytcgmaimfnepefaa
open Go.RowKit Go.Sort
set_option linter.unusedSimpArgs false
set_option linter.unusedVariables false

def jSpr (lo hi : Nat → Int) (level : Int) (l : List Int) : List Int := if jMay lo hi level then jSp (lo level.toNat) (hi level.toNat) (hi level.toNat - lo level.toNat + 1).toNat l else []
theorem jitter_Spread_row (lo hi : Nat → Int) (level : Int) (A : Option Addr) (c : Nat) (l : List Int) (hlen : l.length ≤ 65536) (w : World) (ha : Rd w w.heap.size A (l.map (Value.int .i64))) :
    Calls Try.prog 7 #[confV lo hi, .int .i64 level, .slice A l.length c] w fun e w' => ∃ A c, e = .returned (.slice A (jSpr lo hi level l).length c) ∧ Rd w' w'.heap.size A (ints (jSpr lo hi level l)) ∧ Below w.heap.size w w' := by
  cases hm : jMay lo hi level
  · refine (jitter_Spread_no hm _ _ _ _).mono fun e w' ⟨he, hb⟩ => ?_
    have e1 : jSpr lo hi level l = [] := by simp [jSpr, hm]
    rw [e1]
    exact ⟨none, 0, he, Rd.nil, hb⟩
  · obtain ⟨k, rfl, hk, hc⟩ := jMay_k hm
    refine (jitter_Spread_yes hc hk rfl A c l hlen w ha).mono fun e w' ⟨g, W, he, hW, hB, _, hb⟩ => ?_
    have e1 : jSpr lo hi k l = jSp (lo k) (hi k) W l := by
      unfold jSpr; rw [hm, if_pos rfl, Int.toNat_natCast, show (hi k - lo k + 1).toNat = W by omega]
    rw [e1, jSp_length]
    exact ⟨_, _, he, hB.rd, hb⟩
theorem r17_Spread_row (lo hi : Nat → Int) (level : Int) (A : Option Addr) (c : Nat) (l : List Int) (hlen : l.length ≤ 65536) (w : World) (ha : Rd w w.heap.size A (l.map (Value.int .i64))) :
    Calls Try.prog 8 #[confV lo hi, .int .i64 level, .slice A l.length c] w fun e w' => ∃ A c, e = .returned (.slice A (jSpr lo hi level l).length c) ∧ Rd w' w'.heap.size A (ints (jSpr lo hi level l)) ∧ Below w.heap.size w w' := by
  cases hm : jMay lo hi level
  · refine (r17_Spread_no hm _ _ _ _).mono fun e w' ⟨he, hb⟩ => ?_
    have e1 : jSpr lo hi level l = [] := by simp [jSpr, hm]
    rw [e1]
    exact ⟨none, 0, he, Rd.nil, hb⟩
  · obtain ⟨k, rfl, hk, hc⟩ := jMay_k hm
    refine (r17_Spread_yes hc hk A c l hlen w ha).mono fun e w' ⟨g, W, he, hW, hB, _, hb⟩ => ?_
    have e1 : jSpr lo hi k l = jSp (lo k) (hi k) W l := by
      unfold jSpr; rw [hm, if_pos rfl, Int.toNat_natCast, show (hi k - lo k + 1).toNat = W by omega]
    rw [e1, jSp_length]
    exact ⟨_, _, he, hB.rd, hb⟩
theorem jSpr_le (lo hi : Nat → Int) (level : Int) (l : List Int) : (jSpr lo hi level l).length ≤ maxLen := by
  unfold jSpr
  cases hm : jMay lo hi level
  · simp
  · obtain ⟨k, rfl, hk, hc⟩ := jMay_k hm
    have := jCheck_t hc hk
    rw [if_pos rfl, jSp_length, Int.toNat_natCast]
    unfold maxLen; omega
theorem Same_ints (A B : Option Addr) (c d : Nat) (l : List Int) (hl : l.length ≤ maxLen) (w : World) (ha : Rd w w.heap.size A (ints l)) (hb : Rd w w.heap.size B (ints l)) :
    Calls Try.prog 6 #[.slice A l.length c, .slice B l.length d] w fun e w' => e = .returned (.bool true) ∧ ∃ n, w.drewN n = w' := (SameInts_any A B c d l l w hl ha hb).lit (by simp)

set_option maxHeartbeats 4000000 in
theorem JitterSpreads_walk (lo hi : Nat → Int) (level : Int) (A : Option Addr) (c : Nat) (l : List Int) (hl : l.length ≤ maxLen) (w : World) (ha : Rd w w.heap.size A (l.map (Value.int .i64))) :
    Calls Try.prog 3 #[confV lo hi, .int .i64 level, .slice A l.length c] w fun e w' => e = .returned (.bool true) ∧ Below w.heap.size w w' := by
  unfold maxLen at hl
  by_cases h100 : l.length ≤ 100
  · go_enter Try.func3, Try.ntmps3
    go_wp2_with fail
    generalize hW : World.alloc w _ = w1
    have hb1 : Below w.heap.size w w1 := by subst hW; (repeat (first | with_reducible exact Below.refl _ _ | with_reducible assumption | with_reducible refine Below.drew ?_ | with_reducible refine Below.drewN ?_ _ | with_reducible refine Below.alloc1 ?_ _ | with_reducible refine Below.setCell1 ?_ (by first | omega | (simp; done) | (simp; omega)) _ | with_reducible refine Below.step ?_ (by with_reducible assumption)))
    have k0 : Bk w1 w.heap.size 24 (confC lo hi) := by subst hW; (repeat (first | with_reducible exact Bk.new' _ _ _ _ (by simp; done) | with_reducible assumption | with_reducible refine Bk.alloc ?_ _ | with_reducible refine Bk.drew ?_ | with_reducible refine Bk.drewN ?_ _ | with_reducible refine Bk.step ?_ (by with_reducible assumption) | with_reducible refine Bk.far ?_ (by first | omega | (simp; done) | (simp; omega)) _))
    have ha1 : Rd w1 w1.heap.size A (l.map (Value.int .i64)) := by subst hW; exact ha.alloc1 _
    have lk := k0.lt
    clear hW ha
    have k0_0 := k0.cell 0; have k0_f0 := k0.frozen 0; have k0_1 := k0.cell 1; have k0_f1 := k0.frozen 1; have k0_2 := k0.cell 2; have k0_f2 := k0.frozen 2; have k0_3 := k0.cell 3; have k0_f3 := k0.frozen 3; have k0_4 := k0.cell 4; have k0_f4 := k0.frozen 4; have k0_5 := k0.cell 5; have k0_f5 := k0.frozen 5; have k0_6 := k0.cell 6; have k0_f6 := k0.frozen 6; have k0_7 := k0.cell 7; have k0_f7 := k0.frozen 7; simp only [List.set_cons_zero, List.set_cons_succ, List.getElem?_cons_zero, List.getElem?_cons_succ] at k0_0 k0_1 k0_2 k0_3 k0_4 k0_5 k0_6 k0_7
    generalize hx : jSpr lo hi level l = xs
    have hxl : xs.length ≤ maxLen := by rw [← hx]; exact jSpr_le lo hi level l
    have HX := hide hx
    clear hx
    refine wp_region_m [(3, RowAt xs.length (ints xs)), (7, RowAt xs.length (ints xs)), (8, only (.bool true)), (10, only (.bool true))] (by kernel_rfl) (by kernel_rfl) (by kernel_rfl) (by kernel_rfl) (sts_cons (sts_row _ _) (sts_cons (sts_row _ _) (sts_cons (sts_only _) (sts_cons (sts_only _) sts_nil)))) (fun kq => ?_); (try dsimp only [List.append])
    (repeat (refine wpM_via (by kernel_rfl) ?_; go_big_quiet_step (fail); refine wpQuiet_nil ?_))
    (refine wpM_spec _ (RowAt xs.length (ints xs)) (by kernel_rfl) (by kernel_rfl) rfl (later_some _) ?_ ?_; (focus (intro x hx hk; obtain ⟨px, rfl⟩ := hx; go_simp; (first | with_reducible refine mUpon_enter ?_ | with_reducible refine mUpon_value ?_); go_at_call 7; have h := jitter_Spread_row lo hi level A c l (by omega) (grow (redrawn w1 px.d) px.os) (ha1.step (below_regrown _ _ _)); rw [HX.out] at h; exact h.mrow)); intro v hv K hK; obtain ⟨A2, c2, rfl⟩ := hv; go_big_quiet_op; refine hK _ ?_; clear hK K)
    (repeat (refine wpM_via (by kernel_rfl) ?_; go_big_quiet_step (fail); refine wpQuiet_nil ?_))
    (refine wpM_spec _ (RowAt xs.length (ints xs)) (by kernel_rfl) (by kernel_rfl) rfl (later_some _) ?_ ?_; (focus (intro x hx hk; obtain ⟨px, rfl⟩ := hx; go_simp; (first | with_reducible refine mUpon_enter ?_ | with_reducible refine mUpon_value ?_); go_at_call 8; have h := r17_Spread_row lo hi level A c l (by omega) (grow (redrawn w1 px.d) px.os) (ha1.step (below_regrown _ _ _)); rw [HX.out] at h; exact h.mrow)); intro v hv K hK; obtain ⟨A3, c3, rfl⟩ := hv; go_big_quiet_op; refine hK _ ?_; clear hK K)
    (repeat (refine wpM_via (by kernel_rfl) ?_; go_big_quiet_step (fail); refine wpQuiet_nil ?_))
    (refine wpM_only _ (.bool true) (by kernel_rfl) (by kernel_rfl) rfl (later_some _) ?_ ?_; (focus (intro x hx hk; obtain ⟨px, rfl⟩ := hx; go_simp; (first | with_reducible refine mUpon_enter ?_ | with_reducible refine mUpon_value ?_); go_at_call 6; exact (Same_ints _ _ _ _ xs hxl _ (row_of (hk.2.1 (by kernel_rfl))) (row_of (hk.1 (by kernel_rfl)))).mod)); intro K hK; go_big_quiet_op; refine hK _ ?_; clear hK K)
    (repeat (refine wpM_via (by kernel_rfl) ?_; go_big_quiet_step (fail); refine wpQuiet_nil ?_))
    (refine wpM_only _ (.bool true) (by kernel_rfl) (by kernel_rfl) rfl (later_some _) ?_ ?_; (focus (intro x hx hk; obtain ⟨px, rfl⟩ := hx; go_simp; (first | with_reducible refine mUpon_enter ?_ | with_reducible refine mUpon_value ?_); go_at_call 5; exact (awake17 _).mo)); intro K hK; go_big_quiet_op; refine hK _ ?_; clear hK K)
    (repeat (refine wpM_via (by kernel_rfl) ?_; go_big_quiet_step (fail); refine wpQuiet_nil ?_))
    refine wpM_nil ?_; intro wq hwq hfq; have hbq := below_of_class hwq
    go_wp2
    go_ret
    exact ⟨rfl, by (repeat (first | with_reducible exact Below.refl _ _ | with_reducible assumption | with_reducible refine Below.drew ?_ | with_reducible refine Below.drewN ?_ _ | with_reducible refine Below.alloc1 ?_ _ | with_reducible refine Below.setCell1 ?_ (by first | omega | (simp; done) | (simp; omega)) _ | with_reducible refine Below.step ?_ (by with_reducible assumption)))⟩
  · go_enter Try.func3, Try.ntmps3
    go_wp2_with (go_at_call 5; refine (awake17 _).mono ?_; rintro e x1 ⟨rfl, hx1⟩)
    go_ret
    exact ⟨rfl, by (repeat (first | with_reducible exact Below.refl _ _ | with_reducible assumption | with_reducible refine Below.drew ?_ | with_reducible refine Below.drewN ?_ _ | with_reducible refine Below.alloc1 ?_ _ | with_reducible refine Below.setCell1 ?_ (by first | omega | (simp; done) | (simp; omega)) _ | with_reducible refine Below.step ?_ (by with_reducible assumption)))⟩
end Go.Proofs.Ytcgmaimfnepefaa

/- Package wheel: the comparison of sorted, sorted. -/
import Derived.Test.YtbljiohdfjmhfaaWh4
import Derived.Test.YtbljiohdfjmhfaaReD
import Derived.Test.YtbljiohdfjmhfaaSame
import Derived.Test.YtbljiohdfjmhfaaSort
namespace Go.Proofs.Ytbljiohdfjmhfaa.Dn
open Go.RowKit Go.Sort
set_option linter.unusedSimpArgs false
set_option linter.unusedVariables false

def orI (a b : Int) : Int := if a = 0 then b else a
theorem or2 (A : Option Addr) (c : Nat) (a b : Int) (w : World) (h : Rd w w.heap.size A (ints [a, b])) :
    Calls Try.prog 33 #[.slice A 2 c] w fun e w' => e = .returned (.int .i64 (orI a b)) ∧ w = w' := by
  have h0 := h.at_ (k := 0) (by simp)
  have h1 := h.at_ (k := 1) (by simp)
  obtain ⟨ad, rfl, _, c0⟩ := h0
  obtain ⟨ad', e, _, c1⟩ := h1
  injection e with e; subst e
  have hk : ∀ k : Nat, k < 2 → w.cell? (ad.add k) = some (.int .i64 (if k = 0 then a else b)) := fun k hk => by
    match k, hk with
    | 0, _ => simpa using c0
    | 1, _ => simpa using c1
  clear c0 c1 h
  go_enter Try.func33, Try.ntmps33
  go_wp2
  go_loopw [8] (fun i wr => ∃ k : Nat, k ≤ 2 ∧ i = .int .i64 k ∧ (1 ≤ k → a = 0) ∧ (2 ≤ k → b = 0) ∧ w = wr) (fun i _ => 2 - (intOf i).toNat)
  case atStart => exact ⟨0, by omega, rfl, by omega, by omega, rfl⟩
  case round =>
    obtain ⟨k, hk2, rfl, ha, hb, rfl⟩ := hrel
    have HA := hide ha
    have HB := hide hb
    clear ha hb
    by_cases hlt : k < 2
    · have hc := hk k hlt
      clear hk
      have hx := hide (rfl : (if k = 0 then a else b) = (if k = 0 then a else b))
      generalize hX : (if k = 0 then a else b) = x at hc
      clear hx
      have HX := hide hX
      clear hX
      have hlt' : (k : Int) < 2 := by omega
      by_cases hz : x = 0
      · have hne : (x != 0) = false := by simpa using hz
        go_wp2
        go_roundw
        case rel =>
          have := HX.out
          exact ⟨k + 1, by omega, by go_num, fun _ => by
            rcases Nat.eq_zero_or_pos k with h | h
            · rw [if_pos h] at this; omega
            · exact HA.out h, fun h => by rw [if_neg (by omega)] at this; omega, by first | rfl | trivial⟩
        case measure => simp [intOf]; omega
      · have hne : (x != 0) = true := by simpa using hz
        go_wp2
        go_ret
        refine ⟨ret_int ?_, rfl⟩
        have := HX.out
        unfold orI
        rcases Nat.eq_zero_or_pos k with h | h
        · rw [if_pos h] at this; subst this; rw [if_neg hz]
        · rw [if_neg (by omega)] at this; rw [if_pos (HA.out h)]; exact this.symm
    · have hlt' : ¬ ((k : Int) < 2) := by omega
      clear hk
      go_wp2
      go_ret
      refine ⟨ret_int ?_, rfl⟩
      unfold orI
      rw [if_pos (HA.out (by omega)), HB.out (by omega)]

abbrev DK := Fin 256 × Int
def enD (x : DK) : List Value := [.int .i64 x.1.val, .int .i64 x.2]
def cfD (x y : DK) : Int := orI (Lib.compareInt x.2 y.2) ((x.1.val : Int) - y.1.val)
theorem cmp_any (x y : DK) (W : World) : Calls Try.prog 32 #[.agg #[.int .i64 x.1.val, .int .i64 x.2], .agg #[.int .i64 y.1.val, .int .i64 y.2]] W fun e w' => e = .returned (.int .i64 (cfD x y)) ∧ ∃ q os', w' = grow (W.drewN q) os' := by
  have hcon := fun W' => AnyG.cmp_Compare_int Try.cmpL x.2 y.2 W'
  change ∀ W', Calls Try.prog 34 _ _ _ at hcon
  obtain ⟨⟨a, ha⟩, at_⟩ := x
  obtain ⟨⟨b, hb⟩, bt⟩ := y
  unfold cfD
  simp only at hcon ⊢
  generalize Lib.compareInt at_ bt = r at hcon ⊢
  have hp : ((a : Int) - b) = ((a : Int) - b) := rfl
  go_enter Try.func32, Try.ntmps32
  go_wp2_with fail
  generalize hV : World.alloc (World.alloc W _) _ = w1
  have hb1 : Later W w1 := by subst hV; exact later_of ⟨by (repeat (first | with_reducible exact Below.refl _ _ | with_reducible assumption | with_reducible refine Below.drew ?_ | with_reducible refine Below.drewN ?_ _ | with_reducible refine Below.alloc1 ?_ _ | with_reducible refine Below.setCell1 ?_ (by first | omega | (simp; done) | (simp; omega)) _ | with_reducible refine Below.step ?_ (by with_reducible assumption))), Nat.le_refl _⟩
  have k0 : Bk w1 W.heap.size 62 [.int .i64 a, .int .i64 at_] := by subst hV; (repeat (first | with_reducible exact Bk.new' _ _ _ _ (by simp; done) | with_reducible assumption | with_reducible refine Bk.alloc ?_ _ | with_reducible refine Bk.drew ?_ | with_reducible refine Bk.drewN ?_ _ | with_reducible refine Bk.step ?_ (by with_reducible assumption) | with_reducible refine Bk.far ?_ (by first | omega | (simp; done) | (simp; omega)) _))
  have k1 : Bk w1 (W.heap.size + 1) 62 [.int .i64 b, .int .i64 bt] := by subst hV; (repeat (first | with_reducible exact Bk.new' _ _ _ _ (by simp; done) | with_reducible assumption | with_reducible refine Bk.alloc ?_ _ | with_reducible refine Bk.drew ?_ | with_reducible refine Bk.drewN ?_ _ | with_reducible refine Bk.step ?_ (by with_reducible assumption) | with_reducible refine Bk.far ?_ (by first | omega | (simp; done) | (simp; omega)) _))
  clear hV
  have k0_0 := k0.cell 0; have k0_f0 := k0.frozen 0; have k0_1 := k0.cell 1; have k0_f1 := k0.frozen 1; simp only [List.set_cons_zero, List.set_cons_succ, List.getElem?_cons_zero, List.getElem?_cons_succ] at k0_0 k0_1; have lt_k0 := k0.lt; have k1_0 := k1.cell 0; have k1_f0 := k1.frozen 0; have k1_1 := k1.cell 1; have k1_f1 := k1.frozen 1; simp only [List.set_cons_zero, List.set_cons_succ, List.getElem?_cons_zero, List.getElem?_cons_succ] at k1_0 k1_1; have lt_k1 := k1.lt
  refine wp_region_m [(4, only (.int .i64 r)), (10, RowAt 2 (ints [r, (a : Int) - b])), (11, only (.int .i64 (orI r ((a : Int) - b))))] (by kernel_rfl) (by kernel_rfl) (by kernel_rfl) (by kernel_rfl) (sts_cons (sts_only _) (sts_cons (sts_row _ _) (sts_cons (sts_only _) sts_nil))) (fun kq => ?_); (try dsimp only [List.append])
  (repeat (refine wpM_via (by kernel_rfl) ?_; go_big_quiet_step (fail); refine wpQuiet_nil ?_))
  (refine wpM_only _ (.int .i64 r) (by kernel_rfl) (by kernel_rfl) rfl (later_some _) ?_ ?_; (focus (intro x hx hk; obtain ⟨px, rfl⟩ := hx; go_simp; (first | with_reducible refine mUpon_enter ?_ | with_reducible refine mUpon_value ?_); go_at_call 34; exact mos ((hcon _).mono fun e w' h => ⟨h.1, h.2.symm⟩))); intro K hK; go_big_quiet_op; refine hK _ ?_; clear hK K)
  (repeat (refine wpM_via (by kernel_rfl) ?_; go_big_quiet_step (fail); refine wpQuiet_nil ?_))
  (refine wpM_spec _ (RowAt 2 (ints [r, (a : Int) - b])) (by kernel_rfl) (by kernel_rfl) rfl (later_some _) ?_ ?_; (focus (intro x hx hk; obtain ⟨px, rfl⟩ := hx; go_simp; (first | with_reducible refine mUpon_enter ?_ | with_reducible refine mUpon_value ?_); exact row_new (by simp [Go.Sort.grow]) rfl)); intro v hv K hK; obtain ⟨A2, c2, rfl⟩ := hv; go_big_quiet_op; refine hK _ ?_; clear hK K)
  (repeat (refine wpM_via (by kernel_rfl) ?_; go_big_quiet_step (fail); refine wpQuiet_nil ?_))
  (refine wpM_only _ (.int .i64 (orI r ((a : Int) - b))) (by kernel_rfl) (by kernel_rfl) rfl (later_some _) ?_ ?_; (focus (intro x hx hk; obtain ⟨px, rfl⟩ := hx; go_simp; (first | with_reducible refine mUpon_enter ?_ | with_reducible refine mUpon_value ?_); go_at_call 33; exact mos (or2 _ _ _ _ _ (row_of (hk.1 (by kernel_rfl)))))); intro K hK; go_big_quiet_op; refine hK _ ?_; clear hK K)
  (repeat (refine wpM_via (by kernel_rfl) ?_; go_big_quiet_step (fail); refine wpQuiet_nil ?_))
  refine wpM_nil ?_; intro wq hwq hfq; have hbq := later_below hwq
  go_wp2
  go_ret
  refine ⟨rfl, ?_⟩
  obtain ⟨p, hp⟩ := later_up _ _ hb1 hbq
  refine ⟨p.d - W.drawn, p.os, ?_⟩
  rw [hp]
  unfold grow redrawn World.drewN
  simp only
  rw [Nat.add_sub_of_le p.h]
end Go.Proofs.Ytbljiohdfjmhfaa.Dn

/- callboyref18: in, Check, Fine. -/
import Derived.Test.YtolpiaehleefbaaAdm3
import Derived.Test.YtolpiaehleefbaaAdm4
import Derived.Test.YtolpiaehleefbaaRef17c
import Derived.Test.YtolpiaehleefbaaRef16b
import Derived.Test.YtolpiaehleefbaaRef14c
import Derived.Test.YtolpiaehleefbaaRef14d
namespace Go.Proofs.Ytolpiaehleefbaa
open Go.RowKit Go.Sort
set_option linter.unusedSimpArgs false
set_option linter.unusedVariables false

theorem r18_in_any (n a b : Int) (w : World) :
    Calls Try.prog 48 #[.int .i64 n, .int .i64 a, .int .i64 b] w fun e w' => e = .returned (.bool (vIn n a b)) ∧ w = w' := by
  by_cases h1 : a ≤ n <;> by_cases h2 : n ≤ b
  all_goals
    go_enter Try.func48, Try.ntmps48
    go_wp2
    go_ret
    exact ⟨ret_bool (by simp [vIn, *]), rfl⟩
set_option maxRecDepth 100000 in
set_option maxHeartbeats 8000000 in
theorem r18_Check_any (c : AC) (w : World) : Calls Try.prog 23 #[c.V] w fun e w' => e = .returned (.int .i64 (aCheck c)) ∧ Below w.heap.size w w' := by
  have h1 := fun W => r13_Check_any c.ab c.ar W
  have h2 := fun W => r13_Check_any c.eb c.er W
  have h3 := fun W => r16_Check_any c.up c.dn c.hold W
  have h4 := fun W => r17_Check_any c.lo c.hi W
  have HC := hide (show aCheck c = if bCheck c.ab c.ar ≠ 0 then bCheck c.ab c.ar else if bCheck c.eb c.er ≠ 0 then bCheck c.eb c.er else if vCheck c.up c.dn c.hold ≠ 0 then vCheck c.up c.dn c.hold else jCheck c.lo c.hi from rfl)
  generalize bCheck c.ab c.ar = v1 at *
  generalize bCheck c.eb c.er = v2 at *
  generalize vCheck c.up c.dn c.hold = v3 at *
  generalize jCheck c.lo c.hi = v4 at *
  unfold AC.V
  generalize aCheck c = R at *
  obtain ⟨ab, ar, eb, er, up, dn, hold, lo, hi⟩ := c
  dsimp only at *
  go_enter Try.func23, Try.ntmps23
  go_upto_region 1 with fail
  generalize hV : World.alloc w _ = w1
  have hb1 : Below w.heap.size w w1 := by subst hV; (repeat (first | with_reducible exact Below.refl _ _ | with_reducible assumption | with_reducible refine Below.drew ?_ | with_reducible refine Below.drewN ?_ _ | with_reducible refine Below.alloc1 ?_ _ | with_reducible refine Below.setCell1 ?_ (by first | omega | (simp; done) | (simp; omega)) _ | with_reducible refine Below.step ?_ (by with_reducible assumption)))
  have k0 : Bk w1 w.heap.size 31 (acC ab ar eb er up dn hold lo hi) := by subst hV; (repeat (first | with_reducible exact Bk.new' _ _ _ _ (by simp; done) | with_reducible assumption | with_reducible refine Bk.alloc ?_ _ | with_reducible refine Bk.drew ?_ | with_reducible refine Bk.drewN ?_ _ | with_reducible refine Bk.step ?_ (by with_reducible assumption) | with_reducible refine Bk.far ?_ (by first | omega | (simp; done) | (simp; omega)) _))
  clear hV
  have k0_0 := k0.cell 0; have k0_f0 := k0.frozen 0; have k0_1 := k0.cell 1; have k0_f1 := k0.frozen 1; have k0_2 := k0.cell 2; have k0_f2 := k0.frozen 2; have k0_3 := k0.cell 3; have k0_f3 := k0.frozen 3; have k0_4 := k0.cell 4; have k0_f4 := k0.frozen 4; have k0_5 := k0.cell 5; have k0_f5 := k0.frozen 5; have k0_6 := k0.cell 6; have k0_f6 := k0.frozen 6; have k0_7 := k0.cell 7; have k0_f7 := k0.frozen 7; have k0_8 := k0.cell 8; have k0_f8 := k0.frozen 8; have k0_9 := k0.cell 9; have k0_f9 := k0.frozen 9; have k0_10 := k0.cell 10; have k0_f10 := k0.frozen 10; have k0_11 := k0.cell 11; have k0_f11 := k0.frozen 11; have k0_12 := k0.cell 12; have k0_f12 := k0.frozen 12; have k0_13 := k0.cell 13; have k0_f13 := k0.frozen 13; have k0_14 := k0.cell 14; have k0_f14 := k0.frozen 14; have k0_15 := k0.cell 15; have k0_f15 := k0.frozen 15; have k0_16 := k0.cell 16; have k0_f16 := k0.frozen 16; have k0_17 := k0.cell 17; have k0_f17 := k0.frozen 17; have k0_18 := k0.cell 18; have k0_f18 := k0.frozen 18; simp only [List.set_cons_zero, List.set_cons_succ, List.getElem?_cons_zero, List.getElem?_cons_succ] at k0_0 k0_1 k0_2 k0_3 k0_4 k0_5 k0_6 k0_7 k0_8 k0_9 k0_10 k0_11 k0_12 k0_13 k0_14 k0_15 k0_16 k0_17 k0_18; have lt_k0 := k0.lt
  refine wp_region_m [(2, only (.int .i64 v1)), (5, only (.int .i64 v2)), (8, only (.int .i64 v3)), (11, only (.int .i64 v4)), (12, RowAt 4 (ints [v1, v2, v3, v4]))] (by kernel_rfl) (by kernel_rfl) (by kernel_rfl) (by kernel_rfl) (sts_cons (sts_only _) (sts_cons (sts_only _) (sts_cons (sts_only _) (sts_cons (sts_only _) (sts_cons (sts_row _ _) sts_nil))))) (fun kq => ?_); (try dsimp only [List.append])
  (repeat (refine wpM_via (by kernel_rfl) ?_; go_big_quiet_step (fail); refine wpQuiet_nil ?_))
  (refine wpM_only _ (.int .i64 v1) (by kernel_rfl) (by kernel_rfl) rfl (later_some _) ?_ ?_; (focus (intro x hx hk; obtain ⟨px, rfl⟩ := hx; go_simp; (first | with_reducible refine mUpon_enter ?_ | with_reducible refine mUpon_value ?_); go_at_call 62; exact (h1 _).mo)); intro K hK; go_big_quiet_op; refine hK _ ?_; clear hK K)
  (repeat (refine wpM_via (by kernel_rfl) ?_; go_big_quiet_step (fail); refine wpQuiet_nil ?_))
  (refine wpM_only _ (.int .i64 v2) (by kernel_rfl) (by kernel_rfl) rfl (later_some _) ?_ ?_; (focus (intro x hx hk; obtain ⟨px, rfl⟩ := hx; go_simp; (first | with_reducible refine mUpon_enter ?_ | with_reducible refine mUpon_value ?_); go_at_call 62; exact (h2 _).mo)); intro K hK; go_big_quiet_op; refine hK _ ?_; clear hK K)
  (repeat (refine wpM_via (by kernel_rfl) ?_; go_big_quiet_step (fail); refine wpQuiet_nil ?_))
  (refine wpM_only _ (.int .i64 v3) (by kernel_rfl) (by kernel_rfl) rfl (later_some _) ?_ ?_; (focus (intro x hx hk; obtain ⟨px, rfl⟩ := hx; go_simp; (first | with_reducible refine mUpon_enter ?_ | with_reducible refine mUpon_value ?_); go_at_call 63; exact (h3 _).mo)); intro K hK; go_big_quiet_op; refine hK _ ?_; clear hK K)
  (repeat (refine wpM_via (by kernel_rfl) ?_; go_big_quiet_step (fail); refine wpQuiet_nil ?_))
  (refine wpM_only _ (.int .i64 v4) (by kernel_rfl) (by kernel_rfl) rfl (later_some _) ?_ ?_; (focus (intro x hx hk; obtain ⟨px, rfl⟩ := hx; go_simp; (first | with_reducible refine mUpon_enter ?_ | with_reducible refine mUpon_value ?_); go_at_call 64; exact (h4 _).mo)); intro K hK; go_big_quiet_op; refine hK _ ?_; clear hK K)
  (repeat (refine wpM_via (by kernel_rfl) ?_; go_big_quiet_step (fail); refine wpQuiet_nil ?_))
  (refine wpM_spec _ (RowAt 4 (ints [v1, v2, v3, v4])) (by kernel_rfl) (by kernel_rfl) rfl (later_some _) ?_ ?_; (focus (intro x hx hk; obtain ⟨px, rfl⟩ := hx; go_simp; (first | with_reducible refine mUpon_enter ?_ | with_reducible refine mUpon_value ?_); exact row_new (by simp [Go.Sort.grow]) rfl)); intro v hv K hK; obtain ⟨A, cA, rfl⟩ := hv; go_big_quiet_op; refine hK _ ?_; clear hK K)
  (repeat (refine wpM_via (by kernel_rfl) ?_; go_big_quiet_step (fail); refine wpQuiet_nil ?_))
  refine wpM_nil ?_; intro wq hwq hfq; have hbq := below_of_class hwq; clear hwq kq; (try dsimp only [List.drop])
  have hrow := row_of hfq.1
  (try clear k0_0 k0_f0 k0_1 k0_f1 k0_2 k0_f2 k0_3 k0_f3 k0_4 k0_f4 k0_5 k0_f5 k0_6 k0_f6 k0_7 k0_f7 k0_8 k0_f8 k0_9 k0_f9 k0_10 k0_f10 k0_11 k0_f11 k0_12 k0_f12 k0_13 k0_f13 k0_14 k0_f14 k0_15 k0_f15 k0_16 k0_f16 k0_17 k0_f17 k0_18 k0_f18 lt_k0)
  replace hb1 : Below w.heap.size w wq := hb1.step hbq
  clear hfq hbq k0 h1 h2 h3 h4
  obtain ⟨ad, rfl, hab, hcs⟩ := hrow (by simp)
  have c0 := hcs 0 (.int .i64 v1) rfl
  have c1 := hcs 1 (.int .i64 v2) rfl
  have c2 := hcs 2 (.int .i64 v3) rfl
  have c3 := hcs 3 (.int .i64 v4) rfl
  have LL : (ints [v1, v2, v3, v4]).length = 4 := rfl
  clear hcs hrow LL
  obtain ⟨f, hf⟩ : ∃ f : Nat → Int, f = fun j => if j = 0 then v1 else if j = 1 then v2 else if j = 2 then v3 else v4 := ⟨_, rfl⟩
  have hcell : ∀ j, j < 4 → wq.cell? (ad.add j) = some (.int .i64 (f j)) := by
    intro j hj
    have : j = 0 ∨ j = 1 ∨ j = 2 ∨ j = 3 := by omega
    rcases this with rfl | rfl | rfl | rfl <;> simp only [hf] <;> assumption
  have HF := hide (show R = if f 0 ≠ 0 then f 0 else if f 1 ≠ 0 then f 1 else if f 2 ≠ 0 then f 2 else f 3 from by rw [HC.out, hf]; rfl)
  clear hf c0 c1 c2 c3 HC
  go_wp2_with fail
  go_loopw [4] (fun iv wr => ∃ k : Nat, k ≤ 4 ∧ iv = .int .i64 k ∧ Hid (∀ j, j < k → f j = 0) ∧ wr = wq) (fun iv _ => 4 - (intOf iv).toNat)
  case atStart => exact ⟨0, by omega, rfl, fun j hj => absurd hj (Nat.not_lt_zero _), rfl⟩
  case round =>
    obtain ⟨k, hk, rfl, HZ, rfl⟩ := hrel
    by_cases hlt : k < 4
    · have hki : (k : Int) < 4 := by omega
      have ck := hcell k hlt
      clear hcell
      by_cases hz : f k = 0
      · have HZ2 : Hid (∀ j, j < k + 1 → f j = 0) := fun j hj => by
          rcases Nat.lt_or_eq_of_le (Nat.le_of_lt_succ hj) with h | h
          · exact HZ.out j h
          · subst h; exact hz
        rw [hz] at ck
        clear hz
        go_wp2
        go_roundw
        case rel => exact ⟨k + 1, by omega, by go_num, HZ2, by trivial⟩
        case measure => simp [intOf]; omega
      · have hr : R = f k := by
          rw [HF.out]
          have h := HZ.out
          have : k = 0 ∨ k = 1 ∨ k = 2 ∨ k = 3 := by omega
          rcases this with rfl | rfl | rfl | rfl
          · rw [if_pos hz]
          · rw [if_neg (by simp [h 0 (by omega)]), if_pos hz]
          · rw [if_neg (by simp [h 0 (by omega)]), if_neg (by simp [h 1 (by omega)]), if_pos hz]
          · rw [if_neg (by simp [h 0 (by omega)]), if_neg (by simp [h 1 (by omega)]), if_neg (by simp [h 2 (by omega)])]
        have hne : (f k != 0) = true := by simpa using hz
        have HR := hide hr
        clear hr
        generalize f k = fk at *
        clear hz
        go_wp2
        go_ret
        exact ⟨ret_int HR.out.symm, hb1⟩
    · clear hcell
      have hk4 : k = 4 := by omega
      have hr : R = 0 := by
        have h := HZ.out
        rw [HF.out, if_neg (by simp [h 0 (by omega)]), if_neg (by simp [h 1 (by omega)]), if_neg (by simp [h 2 (by omega)]), h 3 (by omega)]
      have hki : (4 : Int) ≤ (k : Int) := by omega
      have HR := hide hr
      clear hr hk4
      go_wp2
      go_ret
      exact ⟨ret_int HR.out.symm, hb1⟩
set_option maxRecDepth 100000 in
set_option maxHeartbeats 8000000 in
theorem r18_Fine_any (c : AC) (x : AS) (A : Option Addr) (d : Nat) (w : World) (hl : x.es.length ≤ 1000) (ha : Rd w w.heap.size A (enR x.es)) :
    Calls Try.prog 21 #[c.V, x.V A d] w fun e w' => e = .returned (.int .i64 (aFine c x)) ∧ Below w.heap.size w w' := by
  have h0 := fun W => r18_Check_any c W
  have h1 := fun W => r18_in_any x.le 0 1099511627776 W
  have h2 := fun W => r18_in_any x.se 0 1099511627776 W
  have h3 := fun W => r16_Fine_any x.l x.s x.v W
  have h4 := fun W => r13_Fine_any c.ab c.ar x.t x.a W
  have h5 := fun (W : World) (h : Below w.heap.size w W) => r14_Check_any A d c.eb c.er x.es W hl ((ha.below h).more h.size)
  have HC := hide (show aFine c x = if aCheck c ≠ 0 then aCheck c else if (vIn x.le 0 1099511627776 && vIn x.se 0 1099511627776 && vFine x.l x.s x.v && bFine c.ab c.ar x.t x.a) = false then 8 else eCheck c.eb c.er x.es from rfl)
  generalize aCheck c = v0 at *
  generalize vIn x.le 0 1099511627776 = b1 at *
  generalize vIn x.se 0 1099511627776 = b2 at *
  generalize vFine x.l x.s x.v = b3 at *
  generalize bFine c.ab c.ar x.t x.a = b4 at *
  generalize eCheck c.eb c.er x.es = v5 at *
  generalize aFine c x = R at *
  unfold AC.V AS.V at *
  generalize x.es.length = n at *
  clear hl ha
  obtain ⟨ab, ar, eb, er, up, dn, hold, lo, hi⟩ := c
  obtain ⟨t, a, es, l, s, v, le, se⟩ := x
  dsimp only at *
  go_enter Try.func21, Try.ntmps21
  go_upto_region 1 with fail
  generalize hV : World.alloc (World.alloc w _) _ = w1
  have hb1 : Below w.heap.size w w1 := by subst hV; (repeat (first | with_reducible exact Below.refl _ _ | with_reducible assumption | with_reducible refine Below.drew ?_ | with_reducible refine Below.drewN ?_ _ | with_reducible refine Below.alloc1 ?_ _ | with_reducible refine Below.setCell1 ?_ (by first | omega | (simp; done) | (simp; omega)) _ | with_reducible refine Below.step ?_ (by with_reducible assumption)))
  have k0 : Bk w1 w.heap.size 31 (acC ab ar eb er up dn hold lo hi) := by subst hV; (repeat (first | with_reducible exact Bk.new' _ _ _ _ (by simp; done) | with_reducible assumption | with_reducible refine Bk.alloc ?_ _ | with_reducible refine Bk.drew ?_ | with_reducible refine Bk.drewN ?_ _ | with_reducible refine Bk.step ?_ (by with_reducible assumption) | with_reducible refine Bk.far ?_ (by first | omega | (simp; done) | (simp; omega)) _))
  have k1 : Bk w1 (w.heap.size + 1) 38 (azC t a A n d l s v le se) := by subst hV; (repeat (first | with_reducible exact Bk.new' _ _ _ _ (by simp; done) | with_reducible assumption | with_reducible refine Bk.alloc ?_ _ | with_reducible refine Bk.drew ?_ | with_reducible refine Bk.drewN ?_ _ | with_reducible refine Bk.step ?_ (by with_reducible assumption) | with_reducible refine Bk.far ?_ (by first | omega | (simp; done) | (simp; omega)) _))
  clear hV
  go_wp2_with (first | (refine wpList_load_row rfl 31 _ rfl _ rfl _ _ (0, 0) _ k0 Try.underlying31 rfl (by kernel_rfl) ?_) | (refine wpList_load_row rfl 38 _ rfl _ rfl _ _ (0, 0) _ k1 Try.underlying38 rfl (by kernel_rfl) ?_))
  refine (h0 _).mono ?_; rintro e x0 ⟨rfl, hx⟩
  replace k0 := k0.step hx
  replace k1 := k1.step hx
  replace hb1 : Below w.heap.size w x0 := hb1.step hx
  clear hx
  by_cases e0 : v0 = 0
  · subst e0
    have HC2 := HC.out
    rw [if_neg (by simp)] at HC2
    replace HC := hide HC2
    clear HC2
    have k0_0 := k0.cell 0; have k0_f0 := k0.frozen 0; have k0_1 := k0.cell 1; have k0_f1 := k0.frozen 1; have k0_2 := k0.cell 2; have k0_f2 := k0.frozen 2; have k0_3 := k0.cell 3; have k0_f3 := k0.frozen 3; simp only [List.set_cons_zero, List.set_cons_succ, List.getElem?_cons_zero, List.getElem?_cons_succ] at k0_0 k0_1 k0_2 k0_3; have lt_k0 := k0.lt; have k1_0 := k1.cell 0; have k1_f0 := k1.frozen 0; have k1_1 := k1.cell 1; have k1_f1 := k1.frozen 1; have k1_2 := k1.cell 2; have k1_f2 := k1.frozen 2; have k1_3 := k1.cell 3; have k1_f3 := k1.frozen 3; have k1_4 := k1.cell 4; have k1_f4 := k1.frozen 4; have k1_5 := k1.cell 5; have k1_f5 := k1.frozen 5; have k1_6 := k1.cell 6; have k1_f6 := k1.frozen 6; have k1_7 := k1.cell 7; have k1_f7 := k1.frozen 7; simp only [List.set_cons_zero, List.set_cons_succ, List.getElem?_cons_zero, List.getElem?_cons_succ] at k1_0 k1_1 k1_2 k1_3 k1_4 k1_5 k1_6 k1_7; have lt_k1 := k1.lt
    go_wp2_with fail
    refine (h4 _).mono ?_; rintro e x1 ⟨rfl, hx⟩
    replace k0 := k0.step hx; (try clear k0_0 k0_f0 k0_1 k0_f1 k0_2 k0_f2 k0_3 k0_f3); have k0_0 := k0.cell 0; have k0_f0 := k0.frozen 0; have k0_1 := k0.cell 1; have k0_f1 := k0.frozen 1; have k0_2 := k0.cell 2; have k0_f2 := k0.frozen 2; have k0_3 := k0.cell 3; have k0_f3 := k0.frozen 3; simp only [List.set_cons_zero, List.set_cons_succ, List.getElem?_cons_zero, List.getElem?_cons_succ] at k0_0 k0_1 k0_2 k0_3; (try clear lt_k0); have lt_k0 := k0.lt; replace k1 := k1.step hx; (try clear k1_0 k1_f0 k1_1 k1_f1 k1_2 k1_f2 k1_3 k1_f3 k1_4 k1_f4 k1_5 k1_f5 k1_6 k1_f6 k1_7 k1_f7); have k1_0 := k1.cell 0; have k1_f0 := k1.frozen 0; have k1_1 := k1.cell 1; have k1_f1 := k1.frozen 1; have k1_2 := k1.cell 2; have k1_f2 := k1.frozen 2; have k1_3 := k1.cell 3; have k1_f3 := k1.frozen 3; have k1_4 := k1.cell 4; have k1_f4 := k1.frozen 4; have k1_5 := k1.cell 5; have k1_f5 := k1.frozen 5; have k1_6 := k1.cell 6; have k1_f6 := k1.frozen 6; have k1_7 := k1.cell 7; have k1_f7 := k1.frozen 7; simp only [List.set_cons_zero, List.set_cons_succ, List.getElem?_cons_zero, List.getElem?_cons_succ] at k1_0 k1_1 k1_2 k1_3 k1_4 k1_5 k1_6 k1_7; (try clear lt_k1); have lt_k1 := k1.lt
    replace hb1 : Below w.heap.size w x1 := hb1.step hx
    clear hx
    cases b4 with
    | false => as_aux_lemma =>
        have HR := hide (show R = 8 from by rw [HC.out]; simp)
        go_wp2
        go_ret
        exact ⟨ret_int HR.out.symm, hb1⟩
    | true =>
      go_wp2_with fail
      refine (h3 _).mono ?_; rintro e x2 ⟨rfl, hx⟩
      replace k0 := k0.step hx; (try clear k0_0 k0_f0 k0_1 k0_f1 k0_2 k0_f2 k0_3 k0_f3); have k0_0 := k0.cell 0; have k0_f0 := k0.frozen 0; have k0_1 := k0.cell 1; have k0_f1 := k0.frozen 1; have k0_2 := k0.cell 2; have k0_f2 := k0.frozen 2; have k0_3 := k0.cell 3; have k0_f3 := k0.frozen 3; simp only [List.set_cons_zero, List.set_cons_succ, List.getElem?_cons_zero, List.getElem?_cons_succ] at k0_0 k0_1 k0_2 k0_3; (try clear lt_k0); have lt_k0 := k0.lt; replace k1 := k1.step hx; (try clear k1_0 k1_f0 k1_1 k1_f1 k1_2 k1_f2 k1_3 k1_f3 k1_4 k1_f4 k1_5 k1_f5 k1_6 k1_f6 k1_7 k1_f7); have k1_0 := k1.cell 0; have k1_f0 := k1.frozen 0; have k1_1 := k1.cell 1; have k1_f1 := k1.frozen 1; have k1_2 := k1.cell 2; have k1_f2 := k1.frozen 2; have k1_3 := k1.cell 3; have k1_f3 := k1.frozen 3; have k1_4 := k1.cell 4; have k1_f4 := k1.frozen 4; have k1_5 := k1.cell 5; have k1_f5 := k1.frozen 5; have k1_6 := k1.cell 6; have k1_f6 := k1.frozen 6; have k1_7 := k1.cell 7; have k1_f7 := k1.frozen 7; simp only [List.set_cons_zero, List.set_cons_succ, List.getElem?_cons_zero, List.getElem?_cons_succ] at k1_0 k1_1 k1_2 k1_3 k1_4 k1_5 k1_6 k1_7; (try clear lt_k1); have lt_k1 := k1.lt
      replace hb1 : Below w.heap.size w x2 := hb1.step hx
      clear hx
      cases b3 with
      | false => as_aux_lemma =>
          have HR := hide (show R = 8 from by rw [HC.out]; simp)
          go_wp2
          go_ret
          exact ⟨ret_int HR.out.symm, hb1⟩
      | true =>
        go_wp2_with fail
        refine (h1 _).mono ?_; rintro e x3 ⟨rfl, rfl⟩
        cases b1 with
        | false => as_aux_lemma =>
            have HR := hide (show R = 8 from by rw [HC.out]; simp)
            go_wp2
            go_ret
            exact ⟨ret_int HR.out.symm, hb1⟩
        | true =>
          go_wp2_with fail
          refine (h2 _).mono ?_; rintro e x4 ⟨rfl, rfl⟩
          cases b2 with
          | false => as_aux_lemma =>
              have HR := hide (show R = 8 from by rw [HC.out]; simp)
              go_wp2
              go_ret
              exact ⟨ret_int HR.out.symm, hb1⟩
          | true =>
            have HR := hide (show R = v5 from by rw [HC.out]; simp)
            go_wp2_with fail
            refine (h5 _ hb1).mono ?_; rintro e x5 ⟨rfl, hx⟩
            (try clear k0_0 k0_f0 k0_1 k0_f1 k0_2 k0_f2 k0_3 k0_f3 lt_k0) ; (try clear k1_0 k1_f0 k1_1 k1_f1 k1_2 k1_f2 k1_3 k1_f3 k1_4 k1_f4 k1_5 k1_f5 k1_6 k1_f6 k1_7 k1_f7 lt_k1)
            go_wp2
            go_ret
            exact ⟨ret_int HR.out.symm, hb1.step hx⟩
  · have hne : (v0 != 0) = true := by simpa using e0
    have HR := hide (show R = v0 from by rw [HC.out, if_pos e0])
    clear e0
    go_wp2_with (first | (refine wpList_load_row rfl 31 _ rfl _ rfl _ _ (0, 0) _ k0 Try.underlying31 rfl (by kernel_rfl) ?_))
    refine (h0 _).mono ?_; rintro e x1 ⟨rfl, hx⟩
    go_wp2
    go_ret
    exact ⟨ret_int HR.out.symm, hb1.step hx⟩
end Go.Proofs.Ytolpiaehleefbaa

/- callboyref28: waiting. -/
import Derived.Test.YteblbleehnkcmaaRef28j
namespace Go.Proofs.Yteblbleehnkcmaa
open Go.RowKit Go.Sort
set_option linter.unusedSimpArgs false
set_option linter.unusedVariables false

theorem dOp_zero {l : List (List Int)} : dOp l = 0 ↔ ∀ x ∈ l, x = [] := by
  unfold dOp
  constructor
  · intro h x hx
    apply Classical.byContradiction
    intro hne
    have : x ∈ l.filter fun x => decide (x ≠ []) := List.mem_filter.2 ⟨hx, by simpa using hne⟩
    have h2 := List.length_pos_of_mem this
    omega
  · intro h
    rw [List.filter_eq_nil_iff.2]
    · rfl
    · intro x hx; simp [h x hx]
set_option maxRecDepth 100000 in
set_option maxHeartbeats 8000000 in
theorem ref_waiting_any (A B C : Option Addr) (c d e : Nat) (fl : List Fl) (at_ : Int) (mid : Bool) (ld : List Ld) (went : List Int) (wt : List (List Int)) (w : World) (hf : fl.length ≤ 1000) (hl : ld.length ≤ 1000) (hx : ∀ x ∈ ld, x.xs.length ≤ 1000) (hg : went.length = fl.length) (hw : wt.length = fl.length)
    (hrel : ∀ i (h1 : i < fl.length) (h2 : i < wt.length) (h3 : i < went.length), 0 ≤ went[i] ∧ wt[i] = (dWait ld fl[i].id).xs.drop went[i].toNat)
    (ha : Rd w w.heap.size A (flR fl)) (hd : Lds w w.heap.size B ld) (hc : Rd w w.heap.size C (ints went)) :
    Calls Try.prog 33 #[rsV A fl.length c at_ mid, .slice B ld.length d, .slice C went.length e] w fun e w' => e = .returned (.bool (!decide (dOp wt = 0))) ∧ Below w.heap.size w w' := by
  have hS := fun (W : World) (id : Int) (h : Below w.heap.size w W) => ref_sizes_any B d ld id W hl ((hd.below h).more h.size)
  have HX := hide hx
  have HREL := hide hrel
  have HT := hide (show (∀ i (h : i < wt.length), wt[i] = []) → decide (dOp wt = 0) = true from fun h => decide_eq_true (dOp_zero.2 fun x hx => by obtain ⟨i, hi, rfl⟩ := List.getElem_of_mem hx; exact h i hi))
  have HF := hide (show ∀ i (h : i < wt.length), wt[i] ≠ [] → decide (dOp wt = 0) = false from fun i h hne => decide_eq_false fun h0 => hne (dOp_zero.1 h0 _ (List.getElem_mem h)))
  have hgl : fl.length ≤ went.length ∧ fl.length ≤ wt.length ∧ wt.length ≤ fl.length := by omega
  clear hx hrel hg hw
  generalize decide (dOp wt = 0) = R at *
  go_enter Try.func33, Try.ntmps33
  go_wp2_with fail
  generalize hV : World.alloc w _ = w1
  have hb1 : Below w.heap.size w w1 := by subst hV; (repeat (first | with_reducible exact Below.refl _ _ | with_reducible assumption | with_reducible refine Below.drew ?_ | with_reducible refine Below.drewN ?_ _ | with_reducible refine Below.alloc1 ?_ _ | with_reducible refine Below.setCell1 ?_ (by first | omega | (simp; done) | (simp; omega)) _ | with_reducible refine Below.step ?_ (by with_reducible assumption)))
  have k0 : Bk w1 w.heap.size 24 (dsC A fl.length c at_ mid) := by subst hV; (repeat (first | with_reducible exact Bk.new' _ _ _ _ (by simp; done) | with_reducible assumption | with_reducible refine Bk.alloc ?_ _ | with_reducible refine Bk.drew ?_ | with_reducible refine Bk.drewN ?_ _ | with_reducible refine Bk.step ?_ (by with_reducible assumption) | with_reducible refine Bk.far ?_ (by first | omega | (simp; done) | (simp; omega)) _))
  clear hV
  go_loopw [7] (fun i wr => ∃ k : Nat, k ≤ fl.length ∧ i = .int .i64 k ∧ Hid (∀ j (h : j < wt.length), j < k → wt[j] = []) ∧ Bk wr w.heap.size 24 (dsC A fl.length c at_ mid) ∧ Below w.heap.size w wr) (fun i _ => fl.length - (intOf i).toNat)
  case atStart => exact ⟨0, Nat.zero_le _, rfl, fun j _ h => absurd h (Nat.not_lt_zero _), k0, hb1⟩
  case round =>
    clear k0 hb1
    obtain ⟨k, hk, rfl, HK, k0, hb⟩ := hrel
    have k0_0 := k0.cell 0; have k0_f0 := k0.frozen 0; have k0_1 := k0.cell 1; have k0_f1 := k0.frozen 1; have k0_2 := k0.cell 2; have k0_f2 := k0.frozen 2; simp only [List.set_cons_zero, List.set_cons_succ, List.getElem?_cons_zero, List.getElem?_cons_succ] at k0_0 k0_1 k0_2; have lt_k0 := k0.lt
    by_cases hlt : k < fl.length
    · have hlg : k < went.length := by omega
      have hlw : k < wt.length := by omega
      obtain ⟨ad, rfl, hadb, c1, _, _⟩ := (ha.below hb).fl hlt
      obtain ⟨cd, rfl, hcdb, c3⟩ := Rd.in (hc.below hb) hlg
      obtain ⟨hg0, hgw⟩ := HREL.out k hlt hlw hlg
      have HKF := hide (HF.out k hlw)
      have HKN := hide (fun (h : wt[k] = []) => show ∀ j (h : j < wt.length), j < k + 1 → wt[j] = [] from fun j hj hjk => by
        rcases Nat.lt_succ_iff_lt_or_eq.1 hjk with h9 | rfl
        · exact HK.out j hj h9
        · exact h)
      have HGW := hide hgw
      clear hgw
      have hxl : (dWait ld fl[k].id).xs.length ≤ 1000 := by
        rcases dWait_mem ld fl[k].id with e | e
        · rw [e]; simp
        · exact HX.out _ e
      have hSk := fun W h => hS W fl[k].id h
      generalize fl[k].id = id at *
      generalize went[k] = g at *
      generalize wt[k] = y at *
      generalize dWait ld id = x at *
      have cq1 : ∀ d os, (grow (redrawn wr d) os).cell? (ad.add (k * 3)) = some (.int .i64 id) := fun d os => ((below_regrown wr d os).cell (by rw [add_block]; have := hb.size; omega)).trans c1
      have cq3 : ∀ d os, (grow (redrawn wr d) os).cell? (cd.add k) = some (.int .i64 g) := fun d os => ((below_regrown wr d os).cell (by rw [add_block]; have := hb.size; omega)).trans c3
      clear hS
      go_wp2_with fail
      refine wp_region_m [(7, only (.slice x.A x.xs.length x.c))] (by kernel_rfl) (by kernel_rfl) (by kernel_rfl) (by kernel_rfl) (sts_cons (sts_only _) sts_nil) (fun kq => ?_); (try dsimp only [List.append])
      (repeat (refine wpM_via (by kernel_rfl) ?_; go_big_quiet_step (fail); refine wpQuiet_nil ?_))
      (refine wpM_only _ (.slice x.A x.xs.length x.c) (by kernel_rfl) (by kernel_rfl) rfl (later_some _) ?_ ?_; (focus (intro x hx hk; obtain ⟨px, rfl⟩ := hx; go_simp; (first | with_reducible refine mUpon_enter ?_ | with_reducible refine mUpon_value ?_); go_at_call 35; exact (hSk _ (hb.step (below_regrown wr _ _))).mo)); intro K hK; go_big_quiet_op; refine hK _ ?_; clear hK K)
      (repeat (refine wpM_via (by kernel_rfl) ?_; go_big_quiet_step (fail); refine wpQuiet_nil ?_))
      refine wpM_nil ?_; intro wq hwq hfq; have hbq := below_of_class hwq; clear hwq kq; (try dsimp only [List.drop])
      clear hSk c1 c3 hfq cq1 cq3
      replace k0 := k0.step hbq; (try clear k0_0 k0_f0 k0_1 k0_f1 k0_2 k0_f2); have k0_0 := k0.cell 0; have k0_f0 := k0.frozen 0; have k0_1 := k0.cell 1; have k0_f1 := k0.frozen 1; have k0_2 := k0.cell 2; have k0_f2 := k0.frozen 2; simp only [List.set_cons_zero, List.set_cons_succ, List.getElem?_cons_zero, List.getElem?_cons_succ] at k0_0 k0_1 k0_2; (try clear lt_k0); have lt_k0 := k0.lt
      replace hb : Below w.heap.size w wq := hb.step hbq
      clear hbq
      by_cases hgt : g < (x.xs.length : Int)
      · have hne : y ≠ [] := by
          rw [HGW.out]; intro e
          have := List.drop_eq_nil_iff.1 e
          omega
        have HR := hide (HKF.out hne)
        clear HKF HKN HGW hne
        go_wp2
        go_ret
        exact ⟨ret_bool (by rw [HR.out]; rfl), by (repeat (first | with_reducible exact Below.refl _ _ | with_reducible assumption | with_reducible refine Below.drew ?_ | with_reducible refine Below.drewN ?_ _ | with_reducible refine Below.alloc1 ?_ _ | with_reducible refine Below.setCell1 ?_ (by first | omega | (simp; done) | (simp; omega)) _ | with_reducible refine Below.step ?_ (by with_reducible assumption)))⟩
      · have hle : (x.xs.length : Int) ≤ g := by omega
        have hy : y = [] := by rw [HGW.out]; exact List.drop_eq_nil_of_le (by omega)
        have HN := hide (HKN.out hy)
        clear HKF HKN HGW hy hgt
        go_wp2
        go_roundw
        case rel => exact ⟨k + 1, by omega, by go_num, HN, k0, hb⟩
        case measure => simp [intOf]; omega
    · have HR := hide (HT.out fun j hj => HK.out j hj (by omega))
      go_wp2
      go_ret
      exact ⟨ret_bool (by rw [HR.out]; rfl), by (repeat (first | with_reducible exact Below.refl _ _ | with_reducible assumption | with_reducible refine Below.drew ?_ | with_reducible refine Below.drewN ?_ _ | with_reducible refine Below.alloc1 ?_ _ | with_reducible refine Below.setCell1 ?_ (by first | omega | (simp; done) | (simp; omega)) _ | with_reducible refine Below.step ?_ (by with_reducible assumption)))⟩
end Go.Proofs.Yteblbleehnkcmaa

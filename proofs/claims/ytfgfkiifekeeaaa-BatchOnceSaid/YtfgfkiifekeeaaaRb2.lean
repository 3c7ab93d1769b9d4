/- The reference of package batch: Check. -/
import Derived.Test.YtfgfkiifekeeaaaRb1
namespace Go.Proofs.Ytfgfkiifekeeaaa
open Go.RowKit Go.Shelf Go.Sort
set_option linter.unusedSimpArgs false
set_option linter.unusedVariables false

theorem place_in {l : List Pb} {k : Nat} (hk : k < l.length) (h : l[k] ∈ l.take k) : idxI (fun x => decide (x = l[k])) l ≠ (k : Int) := by
  intro e
  rcases idxI_two (fun x => decide (x = l[k])) l with ⟨e1, h1⟩ | ⟨j, hj, e1, h1, _⟩
  · omega
  · obtain rfl : j = k := by omega
    have := h1 _ h
    simp at this
theorem place_out {l : List Pb} {k : Nat} (hk : k < l.length) (h : l[k] ∉ l.take k) : idxI (fun x => decide (x = l[k])) l = (k : Int) :=
  idxI_at hk (fun x hx => by rw [decide_eq_false_iff_not]; intro e; exact h (e ▸ hx)) (by simp)
theorem place_mem (l : List Pb) (v : Pb) : decide (0 ≤ idxI (fun x => decide (x = v)) l) = decide (v ∈ l) := by
  rw [idxI_any, Bool.eq_iff_iff, decide_eq_true_eq, List.any_eq_true]
  exact ⟨fun ⟨x, hx, h⟩ => by rw [decide_eq_true_eq] at h; rw [← h]; exact hx, fun h => ⟨v, h, by simp⟩⟩
theorem fine_take {l : List Pb} {k : Nat} (hk : k < l.length) (h : ∀ x ∈ l.take k, bFine x = true) (h1 : bFine l[k] = true) : ∀ x ∈ l.take (k + 1), bFine x = true := by
  intro x hx
  rw [take_snocL l k hk, List.mem_append] at hx
  rcases hx with hx | hx
  · exact h x hx
  · simp only [List.mem_singleton] at hx; rw [hx]; exact h1
set_option maxRecDepth 1000000 in
set_option maxHeartbeats 8000000 in
theorem ref30_Check_any (A : Option Addr) (c : Nat) (l : List Pb) (a s : Int) (w : World) (hl : l.length ≤ 1000) (hS : ∀ x ∈ l, Sm x) (ha : Rd w w.heap.size A (pbs l)) :
    Calls Try.prog 21 #[bsV A l.length c a s] w fun e w' => e = .returned (.int .i64 (bCheck ⟨l, a, s⟩)) ∧ Below w.heap.size w w' := by
  obtain ⟨R, hR⟩ : ∃ R, R = bCheck ⟨l, a, s⟩ := ⟨_, rfl⟩
  rw [← hR]
  unfold bCheck at hR
  dsimp only at hR
  by_cases h2 : 64 < l.length
  · have g2 : (64 : Int) < (l.length : Int) := by omega
    replace hR := hide (hR.trans (if_pos h2))
    clear h2
    go_enter Try.func21, Try.ntmps21
    go_wp2_with fail
    go_ret
    exact ⟨ret_int hR.out.symm, by (repeat (first | with_reducible exact Below.refl _ _ | with_reducible assumption | with_reducible refine Below.drew ?_ | with_reducible refine Below.drewN ?_ _ | with_reducible refine Below.alloc1 ?_ _ | with_reducible refine Below.setCell1 ?_ (by first | omega | (simp; done) | (simp; omega)) _ | with_reducible refine Below.step ?_ (by with_reducible assumption)))⟩
  replace hR := hide (hR.trans (if_neg h2))
  have g2 : (l.length : Int) ≤ 64 := by omega
  clear h2
  have hF := fun (k : Nat) (hk : k < l.length) (W : World) => ref30_fine_any l[k] (hS _ (List.getElem_mem hk)) W
  have hP := fun (k : Nat) (hk : k < l.length) (W : World) (h : Below w.heap.size w W) => ref30_place_any A c l l[k] W (by unfold maxLen; omega) ((ha.below h).more h.size)
  go_enter Try.func21, Try.ntmps21
  go_wp2_with fail
  generalize hV : World.alloc w _ = w1
  have hb : Below w.heap.size w w1 := by subst hV; (repeat (first | with_reducible exact Below.refl _ _ | with_reducible assumption | with_reducible refine Below.drew ?_ | with_reducible refine Below.drewN ?_ _ | with_reducible refine Below.alloc1 ?_ _ | with_reducible refine Below.setCell1 ?_ (by first | omega | (simp; done) | (simp; omega)) _ | with_reducible refine Below.step ?_ (by with_reducible assumption)))
  have k0 : Bk w1 w.heap.size 24 (bsC A l.length c a s) := by subst hV; (repeat (first | with_reducible exact Bk.new' _ _ _ _ (by simp; done) | with_reducible assumption | with_reducible refine Bk.alloc ?_ _ | with_reducible refine Bk.drew ?_ | with_reducible refine Bk.drewN ?_ _ | with_reducible refine Bk.step ?_ (by with_reducible assumption) | with_reducible refine Bk.far ?_ (by first | omega | (simp; done) | (simp; omega)) _))
  clear hV
  have k0_0 := k0.cell 0; have k0_f0 := k0.frozen 0; have k0_1 := k0.cell 1; have k0_f1 := k0.frozen 1; have k0_2 := k0.cell 2; have k0_f2 := k0.frozen 2; simp only [List.set_cons_zero, List.set_cons_succ, List.getElem?_cons_zero, List.getElem?_cons_succ] at k0_0 k0_1 k0_2; have lt_k0 := k0.lt
  go_loopw [3] (fun i wr => ∃ k : Nat, k ≤ l.length ∧ i = .int .i64 k ∧ Hid (∀ x ∈ l.take k, bFine x = true) ∧ Bk wr w.heap.size 24 (bsC A l.length c a s) ∧ Below w.heap.size w wr) (fun i _ => l.length - (intOf i).toNat)
  case atStart => exact ⟨0, Nat.zero_le _, rfl, by simp [Hid], k0, hb⟩
  case round =>
    (try clear k0_0 k0_f0 k0_1 k0_f1 k0_2 k0_f2 lt_k0)
    clear k0 hb
    obtain ⟨k, hk, rfl, HF, k0, hb⟩ := hrel
    have k0_0 := k0.cell 0; have k0_f0 := k0.frozen 0; have k0_1 := k0.cell 1; have k0_f1 := k0.frozen 1; have k0_2 := k0.cell 2; have k0_f2 := k0.frozen 2; simp only [List.set_cons_zero, List.set_cons_succ, List.getElem?_cons_zero, List.getElem?_cons_succ] at k0_0 k0_1 k0_2; have lt_k0 := k0.lt
    by_cases hlt : k < l.length
    · obtain ⟨ad, rfl, hadb, c1, c2⟩ := (ha.below hb).pb hlt
      have h1 := hF k hlt
      have HT := hide (fine_take hlt HF.out)
      have hall : Hid (bFine l[k] = false → l.all bFine = false) := fun h => by
        rw [Bool.eq_false_iff]; intro h3; rw [List.all_eq_true] at h3
        have := h3 _ (List.getElem_mem hlt)
        rw [h] at this; cases this
      clear hF hP
      generalize hx : l[k] = x at *
      replace hx := hide hx
      generalize bFine x = F at *
      go_wp2_with fail
      refine (h1 _).mono ?_; rintro e w2 ⟨rfl, hy⟩
      replace hb := hb.step hy
      replace k0 := k0.step hy
      clear hy h1
      cases F with
      | false =>
        have hR2 : R = 11 := hR.out.trans (if_pos (hall.out rfl))
        subst hR2
        go_wp2
        go_ret
        exact ⟨rfl, hb⟩
      | true =>
        have HN := hide (HT.out rfl)
        go_wp2
        go_roundw
        case rel => exact ⟨k + 1, by omega, by go_num, HN, k0, hb⟩
        case measure => simp [intOf]; omega
    · have hkl : k = l.length := by omega
      have hall : l.all bFine = true := by
        rw [List.all_eq_true]
        have := HF.out
        rwa [hkl, List.take_length] at this
      have hR2 := hide (hR.out.trans (if_neg (by rw [hall]; decide)))
      clear hR HF hall hF
      replace hR := hR2
      clear hR2 hlt
      obtain ⟨wo, rfl⟩ : ∃ wo : World, wo = wr := ⟨_, rfl⟩
      go_wp2_with fail
      go_loopw [4] (fun i wx => ∃ k : Nat, k ≤ l.length ∧ i = .int .i64 k ∧ Hid ((l.take k).Nodup) ∧ Bk wx w.heap.size 24 (bsC A l.length c a s) ∧ Below w.heap.size w wx) (fun i _ => l.length - (intOf i).toNat)
      case atStart => exact ⟨0, Nat.zero_le _, rfl, by simp [Hid], k0, hb⟩
      case round =>
        (try clear k0_0 k0_f0 k0_1 k0_f1 k0_2 k0_f2 lt_k0)
        clear k0 hb hkl hk
        obtain ⟨k, hk, rfl, HN, k0, hb⟩ := hrel
        have k0_0 := k0.cell 0; have k0_f0 := k0.frozen 0; have k0_1 := k0.cell 1; have k0_f1 := k0.frozen 1; have k0_2 := k0.cell 2; have k0_f2 := k0.frozen 2; simp only [List.set_cons_zero, List.set_cons_succ, List.getElem?_cons_zero, List.getElem?_cons_succ] at k0_0 k0_1 k0_2; have lt_k0 := k0.lt
        by_cases hlt : k < l.length
        · obtain ⟨ad, rfl, hadb, c1, c2⟩ := (ha.below hb).pb hlt
          have HC := hP k hlt
          have HS := hide (nodup_snoc l k hlt)
          have hin1 := hide (place_in hlt)
          have hin2 := hide (place_out hlt)
          generalize idxI (fun x => decide (x = l[k])) l = q at *
          generalize hx : l[k] = x at *
          replace hx := hide hx
          clear hP
          have cq1 : ∀ d os, (grow (redrawn wr d) os).cell? (ad.add (k * 2)) = some (.string x.who) := fun d os => ((below_regrown wr d os).cell (by rw [add_block]; have := hb.size; omega)).trans c1
          have cq2 : ∀ d os, (grow (redrawn wr d) os).cell? { block := (ad.add (k * 2)).block, off := (ad.add (k * 2)).off + 1 } = some (.string x.user) := fun d os => ((below_regrown wr d os).cell (by show (ad.add (k * 2)).block < _; rw [add_block]; have := hb.size; omega)).trans c2
          go_upto_region 11 with fail
          by_cases hin : x ∈ l.take k
          · have hq : (q != (k : Int)) = true := by rw [bne_iff_ne]; exact hin1.out hin
            have hR2 : R = 13 := hR.out.trans (if_pos (fun hnd => by
              have := nodup_take l (k + 1) hnd
              rw [HS.out] at this
              exact this.2 hin))
            clear hR HS hin HN hin1 hin2
            (refine wp_region_qb (by kernel_rfl) (by kernel_rfl) (fun kq => ?_); (try dsimp only [List.append]); (repeat (go_big_quiet_step (((go_at_call 32; exact (HC _ (hb.step (below_regrown _ _ _))).qb))))); refine wpQuiet_nil ?_; intro wq hwq; have hbq := below_of_class hwq; clear hwq kq)
            replace hb := hb.step hbq
            subst hR2
            go_wp2
            go_ret
            exact ⟨rfl, hb⟩
          · have hq : (q != (k : Int)) = false := by rw [bne_eq_false_iff_eq]; exact hin2.out hin
            have HN2 : Hid ((l.take (k + 1)).Nodup) := HS.out.2 ⟨HN.out, hin⟩
            clear HS hin HN hin1 hin2
            (refine wp_region_qb (by kernel_rfl) (by kernel_rfl) (fun kq => ?_); (try dsimp only [List.append]); (repeat (go_big_quiet_step (((go_at_call 32; exact (HC _ (hb.step (below_regrown _ _ _))).qb))))); refine wpQuiet_nil ?_; intro wq hwq; have hbq := below_of_class hwq; clear hwq kq)
            replace hb := hb.step hbq
            replace k0 := k0.step hbq
            clear hbq HC
            go_wp2
            go_roundw
            case rel => exact ⟨k + 1, by omega, by go_num, HN2, k0, hb⟩
            case measure => simp [intOf]; omega
        · have hkl : k = l.length := by omega
          have hR2 := hide (hR.out.trans (if_neg (fun h => h (by have := HN.out; rwa [hkl, List.take_length] at this))))
          clear HN hR hP
          by_cases a0 : 0 ≤ a
          case neg =>
            have hR3 : R = 8 := hR2.out.trans (if_pos (by rw [show bIn a = false by unfold bIn; rw [decide_eq_false a0]; rfl]; rfl))
            have a0' : a < 0 := by omega
            clear hR2 a0
            subst hR3
            go_wp2
            go_ret
            exact ⟨rfl, hb⟩
          by_cases a1 : a ≤ 1099511627776
          case neg =>
            have hR3 : R = 8 := hR2.out.trans (if_pos (by rw [show bIn a = false by unfold bIn; rw [decide_eq_false a1, Bool.and_false]]; rfl))
            have a1' : 1099511627776 < a := by omega
            clear hR2 a1
            subst hR3
            go_wp2
            go_ret
            exact ⟨rfl, hb⟩
          by_cases s0 : 0 ≤ s
          case neg =>
            have hR3 : R = 8 := hR2.out.trans (if_pos (by rw [show bIn s = false by unfold bIn; rw [decide_eq_false s0]; rfl]; simp))
            have s0' : s < 0 := by omega
            clear hR2 s0
            subst hR3
            go_wp2
            go_ret
            exact ⟨rfl, hb⟩
          by_cases s1 : s ≤ 1099511627776
          case neg =>
            have hR3 : R = 8 := hR2.out.trans (if_pos (by rw [show bIn s = false by unfold bIn; rw [decide_eq_false s1, Bool.and_false]]; simp))
            have s1' : 1099511627776 < s := by omega
            clear hR2 s1
            subst hR3
            go_wp2
            go_ret
            exact ⟨rfl, hb⟩
          have hR3 : R = 0 := hR2.out.trans (if_neg (by unfold bIn; simp [a0, a1, s0, s1]))
          clear hR2
          subst hR3
          go_wp2
          go_ret
          exact ⟨rfl, hb⟩
end Go.Proofs.Ytfgfkiifekeeaaa

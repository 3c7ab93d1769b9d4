/- callboyref14: may, Check, Clean. -/
import Derived.Test.YtolpiaehleefbaaSrc8
import Derived.Test.YtolpiaehleefbaaRef13b
import Derived.Test.YtolpiaehleefbaaA2
namespace Go.Proofs.Ytolpiaehleefbaa
open Go.RowKit Go.Sort
set_option linter.unusedSimpArgs false
set_option linter.unusedVariables false

theorem r14_may_any (n : Int) (w : World) : Calls Try.prog 85 #[.int .i64 n] w fun e w' => e = .returned (.bool (sMay n)) ∧ w = w' := by
  by_cases h1 : 0 ≤ n <;> by_cases h2 : n ≤ 65535
  all_goals
    go_enter Try.func85, Try.ntmps85
    go_wp2
    go_ret
    exact ⟨ret_bool (by simp [sMay, *]), rfl⟩
set_option maxRecDepth 100000 in
set_option maxHeartbeats 8000000 in
theorem r14_Check_any (A : Option Addr) (c : Nat) (b r : Int) (l : List En) (w : World) (hl : l.length ≤ 1000) (ha : Rd w w.heap.size A (enR l)) :
    Calls Try.prog 58 #[.agg #[.int .i64 b, .int .i64 r], .slice A l.length c] w fun e w' => e = .returned (.int .i64 (eCheck b r l)) ∧ Below w.heap.size w w' := by
  have hB := fun W => r13_Check_any b r W
  by_cases h1 : bCheck b r = 0
  · have hr1 : eCheck b r l = if 8 < l.length then 5 else if l.any (eBad b r) = true then 8 else if eOrd l = false then 10 else 0 := by unfold eCheck; rw [if_neg (by simp [h1])]
    rw [h1] at hB
    clear h1
    by_cases h2 : 8 < l.length
    · have g2 : (8 : Int) < (l.length : Int) := by omega
      rw [if_pos h2] at hr1
      go_enter Try.func58, Try.ntmps58
      go_wp2_with fail
      refine (hB _).mono ?_; rintro e x0 ⟨rfl, hx0⟩
      go_wp2
      go_ret
      first | exact ⟨ret_int hr1.symm, by (repeat (first | with_reducible exact Below.refl _ _ | with_reducible assumption | with_reducible refine Below.drew ?_ | with_reducible refine Below.drewN ?_ _ | with_reducible refine Below.alloc1 ?_ _ | with_reducible refine Below.setCell1 ?_ (by first | omega | (simp; done) | (simp; omega)) _ | with_reducible refine Below.step ?_ (by with_reducible assumption)))⟩ | exact ⟨rfl, by (repeat (first | with_reducible exact Below.refl _ _ | with_reducible assumption | with_reducible refine Below.drew ?_ | with_reducible refine Below.drewN ?_ _ | with_reducible refine Below.alloc1 ?_ _ | with_reducible refine Below.setCell1 ?_ (by first | omega | (simp; done) | (simp; omega)) _ | with_reducible refine Below.step ?_ (by with_reducible assumption)))⟩
    · have g2 : (l.length : Int) ≤ 8 := by omega
      rw [if_neg h2] at hr1
      have HR := hide hr1
      clear hr1 h2
      go_enter Try.func58, Try.ntmps58
      go_wp2_with fail
      generalize hV : World.alloc w _ = w1
      have hb1 : Below w.heap.size w w1 := by subst hV; (repeat (first | with_reducible exact Below.refl _ _ | with_reducible assumption | with_reducible refine Below.drew ?_ | with_reducible refine Below.drewN ?_ _ | with_reducible refine Below.alloc1 ?_ _ | with_reducible refine Below.setCell1 ?_ (by first | omega | (simp; done) | (simp; omega)) _ | with_reducible refine Below.step ?_ (by with_reducible assumption)))
      have k0 : Bk w1 w.heap.size 23 [.int .i64 b, .int .i64 r] := by subst hV; (repeat (first | with_reducible exact Bk.new' _ _ _ _ (by simp; done) | with_reducible assumption | with_reducible refine Bk.alloc ?_ _ | with_reducible refine Bk.drew ?_ | with_reducible refine Bk.drewN ?_ _ | with_reducible refine Bk.step ?_ (by with_reducible assumption) | with_reducible refine Bk.far ?_ (by first | omega | (simp; done) | (simp; omega)) _))
      clear hV
      refine (hB _).mono ?_; rintro e x0 ⟨rfl, hx0⟩
      replace k0 := k0.step hx0
      replace hb1 : Below w.heap.size w x0 := hb1.step hx0
      clear hx0 hB
      go_wp2_with fail
      go_loopw [5] (fun i wr => ∃ k : Nat, k ≤ l.length ∧ i = .int .i64 k ∧ (∀ x ∈ l.take k, eBad b r x = false) ∧ Bk wr w.heap.size 23 [.int .i64 b, .int .i64 r] ∧ Below w.heap.size w wr) (fun i _ => l.length - (intOf i).toNat)
      case atStart => exact ⟨0, Nat.zero_le _, rfl, by simp, k0, hb1⟩
      case round =>
        clear k0 hb1
        obtain ⟨k, hk, rfl, ht, k0, hb⟩ := hrel
        have HT := hide ht
        clear ht
        have k0_0 := k0.cell 0; have k0_f0 := k0.frozen 0; have k0_1 := k0.cell 1; have k0_f1 := k0.frozen 1; simp only [List.set_cons_zero, List.set_cons_succ, List.getElem?_cons_zero, List.getElem?_cons_succ] at k0_0 k0_1; have lt_k0 := k0.lt
        by_cases hlt : k < l.length
        · obtain ⟨ad, rfl, hadb, c1, c2, c3⟩ := (ha.below hb).en hlt
          have HN := hide (fun h => none_take (p := eBad b r) hlt HT.out h)
          have HB := hide (fun (h : eBad b r l[k] = true) => show eCheck b r l = 8 from by rw [HR.out, if_pos (List.any_eq_true.2 ⟨_, List.getElem_mem hlt, h⟩)])
          clear HT HR
          generalize l[k] = x at *
          have cq1 : ∀ d os, (grow (redrawn wr d) os).cell? (ad.add (k * 3)) = some (.int .i64 x.s) := fun d os => ((below_regrown wr d os).cell (by rw [add_block]; omega)).trans c1
          have cq2 : ∀ d os, (grow (redrawn wr d) os).cell? ⟨(ad.add (k * 3)).block, (ad.add (k * 3)).off + 1, none⟩ = some (.int .i64 x.t) := fun d os => ((below_regrown wr d os).cell (by dsimp only; rw [add_block]; omega)).trans c2
          have cq3 : ∀ d os, (grow (redrawn wr d) os).cell? ⟨(ad.add (k * 3)).block, (ad.add (k * 3)).off + 2, none⟩ = some (.int .i64 x.a) := fun d os => ((below_regrown wr d os).cell (by dsimp only; rw [add_block]; omega)).trans c3
          have h1 := fun W => r14_may_any x.s W
          have h2 := fun W => r13_Fine_any b r x.t x.a W
          have hf : ∀ p q, sMay x.s = p → bFine b r x.t x.a = q → eBad b r x = (!p || !q) := by rintro p q rfl rfl; rfl
          generalize sMay x.s = p at *
          generalize bFine b r x.t x.a = q at *
          have hf := hf _ _ rfl rfl
          have HF := hide hf
          clear hf
          go_wp2_with fail
          cases p with
          | false =>
            have hr := HB.out (by rw [HF.out]; rfl)
            (refine wp_region_qb (by kernel_rfl) (by kernel_rfl) (fun kq => ?_); (try dsimp only [List.append]); (repeat (go_big_quiet_step (((go_at_call 85; exact (h1 _).qs))))); refine wpQuiet_nil ?_; intro wq hwq; have hbq := below_of_class hwq; clear hwq kq)
            go_wp2
            go_ret
            exact ⟨ret_int hr.symm, by (repeat (first | with_reducible exact Below.refl _ _ | with_reducible assumption | with_reducible refine Below.drew ?_ | with_reducible refine Below.drewN ?_ _ | with_reducible refine Below.alloc1 ?_ _ | with_reducible refine Below.setCell1 ?_ (by first | omega | (simp; done) | (simp; omega)) _ | with_reducible refine Below.step ?_ (by with_reducible assumption)))⟩
          | true =>
            cases q with
            | false =>
              have hr := HB.out (by rw [HF.out]; rfl)
              (refine wp_region_qb (by kernel_rfl) (by kernel_rfl) (fun kq => ?_); (try dsimp only [List.append]); (repeat (go_big_quiet_step ((first | (go_at_call 85; exact (h1 _).qs) | (go_at_call 56; exact (h2 _).qb))))); refine wpQuiet_nil ?_; intro wq hwq; have hbq := below_of_class hwq; clear hwq kq)
              go_wp2
              go_ret
              exact ⟨ret_int hr.symm, by (repeat (first | with_reducible exact Below.refl _ _ | with_reducible assumption | with_reducible refine Below.drew ?_ | with_reducible refine Below.drewN ?_ _ | with_reducible refine Below.alloc1 ?_ _ | with_reducible refine Below.setCell1 ?_ (by first | omega | (simp; done) | (simp; omega)) _ | with_reducible refine Below.step ?_ (by with_reducible assumption)))⟩
            | true =>
              have hn := HN.out (by rw [HF.out]; rfl)
              (refine wp_region_qb (by kernel_rfl) (by kernel_rfl) (fun kq => ?_); (try dsimp only [List.append]); (repeat (go_big_quiet_step ((first | (go_at_call 85; exact (h1 _).qs) | (go_at_call 56; exact (h2 _).qb))))); refine wpQuiet_nil ?_; intro wq hwq; have hbq := below_of_class hwq; clear hwq kq)
              (try clear k0_0 k0_f0 k0_1 k0_f1 lt_k0)
              replace k0 := k0.step hbq
              replace hb : Below w.heap.size w wq := hb.step hbq
              go_wp2
              go_roundw
              case rel => exact ⟨k + 1, by omega, by go_num, hn, k0, hb⟩
              case measure => simp [intOf]; omega
        · have ho' : l.any (eBad b r) = false := by
            rw [List.any_eq_false]; intro x hx
            have := HT.out x (by rw [List.take_of_length_le (by omega)]; exact hx)
            simp [this]
          have hr2 := HR.out
          rw [if_neg (by rw [ho']; simp)] at hr2
          replace HR := hide hr2
          clear hr2 HT ho'
          go_wp2_with fail
          (try clear k0_0 k0_f0 k0_1 k0_f1 lt_k0)
          go_loopw [6] (fun i wr => ∃ k : Nat, i = .int .i64 ((k : Int) + 1) ∧ k ≤ 8 ∧ Hid (eOrd l = eOrd (l.drop k)) ∧ Below w.heap.size w wr) (fun i _ => l.length - (intOf i).toNat)
          case atStart => exact ⟨0, rfl, Nat.zero_le _, rfl, hb⟩
          case round =>
            clear hb k0 hk hlt
            obtain ⟨k, rfl, hk8, HO, hb⟩ := hrel
            by_cases hlt : k + 1 < l.length
            · obtain ⟨ad, rfl, hadb, c1, c2, c3⟩ := (ha.below hb).en (k := k) (by omega)
              obtain ⟨ad', e', _, d1, d2, d3⟩ := (ha.below hb).en hlt
              cases e'
              clear c2 c3 d2 d3
              have hs := eOrd_step hlt
              rw [← HO.out] at hs
              obtain ⟨m, hm⟩ : ∃ m, m = k + 1 := ⟨_, rfl⟩
              simp only [← hm] at hs d1
              have hml : (m : Int) < (l.length : Int) := by omega
              have hkl : (k : Int) < (l.length : Int) := by omega
              have hmk : (k : Int) + 1 = (m : Int) := by omega
              have hmk2 : (m : Int) - 1 = (k : Int) := by omega
              have hm2 : m < l.length := by omega
              rw [hmk]
              generalize l[k] = x at *
              generalize l[m] = y at *
              clear hm hlt
              by_cases hxy : x.s < y.s
              · have hn : ¬ y.s ≤ x.s := by omega
                rw [decide_eq_true hxy, Bool.true_and] at hs
                have HS := hide hs
                clear hs
                go_wp2
                go_quiet (fail)
                go_wp2
                go_roundw
                case rel => exact ⟨m, rfl, by omega, HS, by (repeat (first | with_reducible exact Below.refl _ _ | with_reducible assumption | with_reducible refine Below.drew ?_ | with_reducible refine Below.drewN ?_ _ | with_reducible refine Below.alloc1 ?_ _ | with_reducible refine Below.setCell1 ?_ (by first | omega | (simp; done) | (simp; omega)) _ | with_reducible refine Below.step ?_ (by with_reducible assumption)))⟩
                case measure => simp [intOf]; omega
              · have hn : y.s ≤ x.s := by omega
                rw [decide_eq_false hxy, Bool.false_and] at hs
                have hr : eCheck b r l = 10 := by rw [HR.out, if_pos hs]
                clear hs
                go_wp2
                go_quiet (fail)
                go_wp2
                go_ret
                exact ⟨ret_int hr.symm, by (repeat (first | with_reducible exact Below.refl _ _ | with_reducible assumption | with_reducible refine Below.drew ?_ | with_reducible refine Below.drewN ?_ _ | with_reducible refine Below.alloc1 ?_ _ | with_reducible refine Below.setCell1 ?_ (by first | omega | (simp; done) | (simp; omega)) _ | with_reducible refine Below.step ?_ (by with_reducible assumption)))⟩
            · have hr : eCheck b r l = 0 := by rw [HR.out, if_neg (by rw [HO.out, eOrd_last (by omega)]; simp)]
              have hn : (l.length : Int) ≤ (k : Int) + 1 := by omega
              go_wp2
              go_ret
              exact ⟨ret_int hr.symm, by (repeat (first | with_reducible exact Below.refl _ _ | with_reducible assumption | with_reducible refine Below.drew ?_ | with_reducible refine Below.drewN ?_ _ | with_reducible refine Below.alloc1 ?_ _ | with_reducible refine Below.setCell1 ?_ (by first | omega | (simp; done) | (simp; omega)) _ | with_reducible refine Below.step ?_ (by with_reducible assumption)))⟩
  · have hne : (bCheck b r != 0) = true := by simpa using h1
    have hr1 : eCheck b r l = bCheck b r := by unfold eCheck; rw [if_pos h1]
    generalize bCheck b r = e0 at *
    go_enter Try.func58, Try.ntmps58
    go_wp2_with fail
    generalize hV : World.alloc w _ = w1
    have hb1 : Below w.heap.size w w1 := by subst hV; (repeat (first | with_reducible exact Below.refl _ _ | with_reducible assumption | with_reducible refine Below.drew ?_ | with_reducible refine Below.drewN ?_ _ | with_reducible refine Below.alloc1 ?_ _ | with_reducible refine Below.setCell1 ?_ (by first | omega | (simp; done) | (simp; omega)) _ | with_reducible refine Below.step ?_ (by with_reducible assumption)))
    have k0 : Bk w1 w.heap.size 23 [.int .i64 b, .int .i64 r] := by subst hV; (repeat (first | with_reducible exact Bk.new' _ _ _ _ (by simp; done) | with_reducible assumption | with_reducible refine Bk.alloc ?_ _ | with_reducible refine Bk.drew ?_ | with_reducible refine Bk.drewN ?_ _ | with_reducible refine Bk.step ?_ (by with_reducible assumption) | with_reducible refine Bk.far ?_ (by first | omega | (simp; done) | (simp; omega)) _))
    clear hV
    refine (hB _).mono ?_; rintro e x0 ⟨rfl, hx0⟩
    replace k0 := k0.step hx0
    replace hb1 : Below w.heap.size w x0 := hb1.step hx0
    have k0_0 := k0.cell 0; have k0_f0 := k0.frozen 0; have k0_1 := k0.cell 1; have k0_f1 := k0.frozen 1; simp only [List.set_cons_zero, List.set_cons_succ, List.getElem?_cons_zero, List.getElem?_cons_succ] at k0_0 k0_1; have lt_k0 := k0.lt
    go_wp2_with fail
    refine (hB _).mono ?_; rintro e x1 ⟨rfl, hx1⟩
    replace hb1 : Below w.heap.size w x1 := hb1.step hx1
    go_wp2
    go_ret
    exact ⟨ret_int hr1.symm, hb1⟩
theorem ren_info : (Try.prog.info? 144).map (fun i => (i.zero, i.size, i.bytes)) = some (some (enV ⟨0, 0, 0⟩), 3, 24) := by kernel_rfl
end Go.Proofs.Ytolpiaehleefbaa

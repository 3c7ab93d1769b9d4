/- callboyref28: Check. -/
import Derived.Test.YteblbleehnkcmaaRef28
namespace Go.Proofs.Yteblbleehnkcmaa
open Go.RowKit Go.Sort
set_option linter.unusedSimpArgs false
set_option linter.unusedVariables false

set_option maxRecDepth 100000 in
set_option maxHeartbeats 8000000 in
theorem ref_Check_any (A : Option Addr) (c : Nat) (l : List Fl) (at_ : Int) (mid : Bool) (w : World) (hl : l.length ≤ 1000) (ha : Rd w w.heap.size A (flR l)) :
    Calls Try.prog 23 #[rsV A l.length c at_ mid] w fun e w' => e = .returned (.int .i64 (dCheck l at_ mid)) ∧ Below w.heap.size w w' := by
  have hF := fun (W : World) (id : Int) (h : Below w.heap.size w W) => ref_place_any A c l at_ mid id W hl ((ha.below h).more h.size)
  by_cases h16 : 16 < l.length
  · have hr : dCheck l at_ mid = 5 := by unfold dCheck; rw [if_pos h16]
    have g16 : (16 : Int) < l.length := by omega
    go_enter Try.func23, Try.ntmps23
    go_wp2
    go_ret
    first | exact ⟨ret_int hr.symm, by (repeat (first | with_reducible exact Below.refl _ _ | with_reducible assumption | with_reducible refine Below.drew ?_ | with_reducible refine Below.drewN ?_ _ | with_reducible refine Below.alloc1 ?_ _ | with_reducible refine Below.setCell1 ?_ (by first | omega | (simp; done) | (simp; omega)) _ | with_reducible refine Below.step ?_ (by with_reducible assumption)))⟩ | exact ⟨rfl, by (repeat (first | with_reducible exact Below.refl _ _ | with_reducible assumption | with_reducible refine Below.drew ?_ | with_reducible refine Below.drewN ?_ _ | with_reducible refine Below.alloc1 ?_ _ | with_reducible refine Below.setCell1 ?_ (by first | omega | (simp; done) | (simp; omega)) _ | with_reducible refine Below.step ?_ (by with_reducible assumption)))⟩
  · have g16 : (l.length : Int) ≤ 16 := by omega
    have hr1 : dCheck l at_ mid = if l.any fWrong = true then 8 else if dOnce l = false then 13 else if dPlace l.length at_ mid = false then 9 else 0 := by unfold dCheck; rw [if_neg h16]
    have HR := hide hr1
    clear hr1 h16
    go_enter Try.func23, Try.ntmps23
    go_wp2_with fail
    generalize hV : World.alloc w _ = w1
    have hb1 : Below w.heap.size w w1 := by subst hV; (repeat (first | with_reducible exact Below.refl _ _ | with_reducible assumption | with_reducible refine Below.drew ?_ | with_reducible refine Below.drewN ?_ _ | with_reducible refine Below.alloc1 ?_ _ | with_reducible refine Below.setCell1 ?_ (by first | omega | (simp; done) | (simp; omega)) _ | with_reducible refine Below.step ?_ (by with_reducible assumption)))
    have k0 : Bk w1 w.heap.size 24 (dsC A l.length c at_ mid) := by subst hV; (repeat (first | with_reducible exact Bk.new' _ _ _ _ (by simp; done) | with_reducible assumption | with_reducible refine Bk.alloc ?_ _ | with_reducible refine Bk.drew ?_ | with_reducible refine Bk.drewN ?_ _ | with_reducible refine Bk.step ?_ (by with_reducible assumption) | with_reducible refine Bk.far ?_ (by first | omega | (simp; done) | (simp; omega)) _))
    clear hV
    go_loopw [3] (fun i wr => ∃ k : Nat, k ≤ l.length ∧ i = .int .i64 k ∧ (∀ x ∈ l.take k, fWrong x = false) ∧ Bk wr w.heap.size 24 (dsC A l.length c at_ mid) ∧ Below w.heap.size w wr) (fun i _ => l.length - (intOf i).toNat)
    case atStart => exact ⟨0, Nat.zero_le _, rfl, by simp, k0, hb1⟩
    case round =>
      clear k0 hb1
      obtain ⟨k, hk, rfl, ht, j0, hbr⟩ := hrel
      have HT := hide ht
      clear ht
      have j0_0 := j0.cell 0; have j0_f0 := j0.frozen 0; have j0_1 := j0.cell 1; have j0_f1 := j0.frozen 1; have j0_2 := j0.cell 2; have j0_f2 := j0.frozen 2; simp only [List.set_cons_zero, List.set_cons_succ, List.getElem?_cons_zero, List.getElem?_cons_succ] at j0_0 j0_1 j0_2; have lt_j0 := j0.lt
      by_cases hlt : k < l.length
      · obtain ⟨ad, rfl, hadb, c1, c2, c3⟩ := (ha.below hbr).fl hlt
        have HN := hide (fun h => none_take (p := fWrong) hlt HT.out h)
        have HB := hide (fun (h : fWrong l[k] = true) => show dCheck l at_ mid = 8 from by rw [HR.out, if_pos (List.any_eq_true.2 ⟨_, List.getElem_mem hlt, h⟩)])
        clear HT HR hF
        generalize l[k] = x at *
        have h1 := fun W => ref_in_any x.id 0 255 W
        have h2 := fun W => ref_in_any x.wt 1 8 W
        have h3 := fun W => ref_in_any x.df 0 1073741824 W
        have hf : ∀ a b c, dIn x.id 0 255 = a → dIn x.wt 1 8 = b → dIn x.df 0 1073741824 = c → fWrong x = (!a || !b || !c) := by rintro a b c rfl rfl rfl; rfl
        generalize dIn x.id 0 255 = b1 at *
        generalize dIn x.wt 1 8 = b2 at *
        generalize dIn x.df 0 1073741824 = b3 at *
        have hf := hf _ _ _ rfl rfl rfl
        have HFW := hide hf
        clear hf
        go_wp2_with fail
        generalize hV : World.alloc wr _ = w2
        have hy : Below wr.heap.size wr w2 := by subst hV; (repeat (first | with_reducible exact Below.refl _ _ | with_reducible assumption | with_reducible refine Below.drew ?_ | with_reducible refine Below.drewN ?_ _ | with_reducible refine Below.alloc1 ?_ _ | with_reducible refine Below.setCell1 ?_ (by first | omega | (simp; done) | (simp; omega)) _ | with_reducible refine Below.step ?_ (by with_reducible assumption)))
        have kx : Bk w2 wr.heap.size 73 (flC x) := by subst hV; (repeat (first | with_reducible exact Bk.new' _ _ _ _ (by simp; done) | with_reducible assumption | with_reducible refine Bk.alloc ?_ _ | with_reducible refine Bk.drew ?_ | with_reducible refine Bk.drewN ?_ _ | with_reducible refine Bk.step ?_ (by with_reducible assumption) | with_reducible refine Bk.far ?_ (by first | omega | (simp; done) | (simp; omega)) _))
        replace hbr : Below w.heap.size w w2 := hbr.step hy
        clear hV
        replace j0 := j0.step hy; (try clear j0_0 j0_f0 j0_1 j0_f1 j0_2 j0_f2); have j0_0 := j0.cell 0; have j0_f0 := j0.frozen 0; have j0_1 := j0.cell 1; have j0_f1 := j0.frozen 1; have j0_2 := j0.cell 2; have j0_f2 := j0.frozen 2; simp only [List.set_cons_zero, List.set_cons_succ, List.getElem?_cons_zero, List.getElem?_cons_succ] at j0_0 j0_1 j0_2; (try clear lt_j0); have lt_j0 := j0.lt
        clear hy c1 c2 c3
        have kx_0 := kx.cell 0; have kx_f0 := kx.frozen 0; have kx_1 := kx.cell 1; have kx_f1 := kx.frozen 1; have kx_2 := kx.cell 2; have kx_f2 := kx.frozen 2; simp only [List.set_cons_zero, List.set_cons_succ, List.getElem?_cons_zero, List.getElem?_cons_succ] at kx_0 kx_1 kx_2; have lt_kx := kx.lt
        refine (h1 _).mono ?_; rintro e w3 ⟨rfl, rfl⟩
        cases b1 with
        | false =>
          have hr := HB.out (by rw [HFW.out]; simp)
          go_wp2
          go_ret
          exact ⟨ret_int hr.symm, by (repeat (first | with_reducible exact Below.refl _ _ | with_reducible assumption | with_reducible refine Below.drew ?_ | with_reducible refine Below.drewN ?_ _ | with_reducible refine Below.alloc1 ?_ _ | with_reducible refine Below.setCell1 ?_ (by first | omega | (simp; done) | (simp; omega)) _ | with_reducible refine Below.step ?_ (by with_reducible assumption)))⟩
        | true =>
          go_wp2_with fail
          refine (h2 _).mono ?_; rintro e w3 ⟨rfl, rfl⟩
          cases b2 with
          | false =>
            have hr := HB.out (by rw [HFW.out]; simp)
            go_wp2
            go_ret
            exact ⟨ret_int hr.symm, by (repeat (first | with_reducible exact Below.refl _ _ | with_reducible assumption | with_reducible refine Below.drew ?_ | with_reducible refine Below.drewN ?_ _ | with_reducible refine Below.alloc1 ?_ _ | with_reducible refine Below.setCell1 ?_ (by first | omega | (simp; done) | (simp; omega)) _ | with_reducible refine Below.step ?_ (by with_reducible assumption)))⟩
          | true =>
            go_wp2_with fail
            refine (h3 _).mono ?_; rintro e w3 ⟨rfl, rfl⟩
            cases b3 with
            | false =>
              have hr := HB.out (by rw [HFW.out]; simp)
              go_wp2
              go_ret
              exact ⟨ret_int hr.symm, by (repeat (first | with_reducible exact Below.refl _ _ | with_reducible assumption | with_reducible refine Below.drew ?_ | with_reducible refine Below.drewN ?_ _ | with_reducible refine Below.alloc1 ?_ _ | with_reducible refine Below.setCell1 ?_ (by first | omega | (simp; done) | (simp; omega)) _ | with_reducible refine Below.step ?_ (by with_reducible assumption)))⟩
            | true =>
              have hn := HN.out (by rw [HFW.out]; simp)
              go_wp2
              go_roundw
              case rel => exact ⟨k + 1, by omega, by go_num, hn, j0, by (repeat (first | with_reducible exact Below.refl _ _ | with_reducible assumption | with_reducible refine Below.drew ?_ | with_reducible refine Below.drewN ?_ _ | with_reducible refine Below.alloc1 ?_ _ | with_reducible refine Below.setCell1 ?_ (by first | omega | (simp; done) | (simp; omega)) _ | with_reducible refine Below.step ?_ (by with_reducible assumption)))⟩
              case measure => simp [intOf]; omega
      · have ho' : l.any fWrong = false := by
          rw [List.any_eq_false]; intro x hx; have := HT.out x (by rw [List.take_of_length_le (by omega)]; exact hx); simp [this]
        have hr2 := HR.out
        rw [if_neg (by rw [ho']; simp)] at hr2
        replace HR := hide hr2
        clear hr2 HT ho'
        go_wp2
        (try clear j0_0 j0_f0 j0_1 j0_f1 j0_2 j0_f2 lt_j0)
        go_loopw [5] (fun i wr => ∃ k : Nat, k ≤ l.length ∧ i = .int .i64 k ∧ (∀ j, (hj : j < l.length) → j < k → dFind l l[j].id = j) ∧ Bk wr w.heap.size 24 (dsC A l.length c at_ mid) ∧ Below w.heap.size w wr) (fun i _ => l.length - (intOf i).toNat)
        case atStart => exact ⟨0, Nat.zero_le _, rfl, fun j _ h => absurd h (Nat.not_lt_zero _), j0, hbr⟩
        case round =>
          clear j0 hbr
          obtain ⟨k, hk, rfl, ht, j0, hbr⟩ := hrel
          have HT := hide ht
          clear ht
          have j0_0 := j0.cell 0; have j0_f0 := j0.frozen 0; have j0_1 := j0.cell 1; have j0_f1 := j0.frozen 1; have j0_2 := j0.cell 2; have j0_f2 := j0.frozen 2; simp only [List.set_cons_zero, List.set_cons_succ, List.getElem?_cons_zero, List.getElem?_cons_succ] at j0_0 j0_1 j0_2; have lt_j0 := j0.lt
          by_cases hlt : k < l.length
          · obtain ⟨ad, rfl, hadb, c1, c2, c3⟩ := (ha.below hbr).fl hlt
            have HB := hide (dOnce_bad hlt)
            have HN := hide (fun (h : dFind l l[k].id = k) => show ∀ j, (hj : j < l.length) → j < k + 1 → dFind l l[j].id = j from fun j hj hjk => by
              rcases Nat.lt_succ_iff_lt_or_eq.1 hjk with h9 | rfl
              · exact HT.out j hj h9
              · exact h)
            clear HT
            generalize l[k] = x at *
            have hFx := fun W h => hF W x.id h
            clear hF
            go_wp2_with fail
            have cq : ∀ d os, (grow (redrawn wr d) os).cell? (ad.add (k * 3)) = some (.int .i64 x.id) := fun d os => ((below_regrown wr d os).cell (by rw [add_block]; omega)).trans c1
            refine wp_region_m [(7, only (.int .i64 (dFind l x.id)))] (by kernel_rfl) (by kernel_rfl) (by kernel_rfl) (by kernel_rfl) (sts_cons (sts_only _) sts_nil) (fun kq => ?_); (try dsimp only [List.append])
            (repeat (refine wpM_via (by kernel_rfl) ?_; go_big_quiet_step (fail); refine wpQuiet_nil ?_))
            (refine wpM_only _ (.int .i64 (dFind l x.id)) (by kernel_rfl) (by kernel_rfl) rfl (later_some _) ?_ ?_; (focus (intro x hx hk; obtain ⟨px, rfl⟩ := hx; go_simp; (first | with_reducible refine mUpon_enter ?_ | with_reducible refine mUpon_value ?_); go_at_call 40; exact (hFx _ (hbr.step (below_regrown wr _ _))).mo)); intro K hK; go_big_quiet_op; refine hK _ ?_; clear hK K)
            (repeat (refine wpM_via (by kernel_rfl) ?_; go_big_quiet_step (fail); refine wpQuiet_nil ?_))
            refine wpM_nil ?_; intro wq hwq hfq; have hbq := below_of_class hwq; clear hwq kq; (try dsimp only [List.drop])
            clear hFx c1 c2 c3 hfq cq
            replace j0 := j0.step hbq; (try clear j0_0 j0_f0 j0_1 j0_f1 j0_2 j0_f2); have j0_0 := j0.cell 0; have j0_f0 := j0.frozen 0; have j0_1 := j0.cell 1; have j0_f1 := j0.frozen 1; have j0_2 := j0.cell 2; have j0_f2 := j0.frozen 2; simp only [List.set_cons_zero, List.set_cons_succ, List.getElem?_cons_zero, List.getElem?_cons_succ] at j0_0 j0_1 j0_2; (try clear lt_j0); have lt_j0 := j0.lt
            replace hbr : Below w.heap.size w wq := hbr.step hbq
            clear hbq
            by_cases hd : dFind l x.id = k
            · have hn := hide (HN.out hd)
              have d1 : (dFind l x.id != (k : Int)) = false := by rw [bne_eq_false_iff_eq]; exact hd
              clear HN HB hd
              go_wp2
              go_roundw
              case rel => exact ⟨k + 1, by omega, by go_num, hn.out, j0, hbr⟩
              case measure => simp [intOf]; omega
            · have hr : dCheck l at_ mid = 13 := by rw [HR.out, if_pos (HB.out hd)]
              have d1 : (dFind l x.id != (k : Int)) = true := by rw [bne_iff_ne]; exact hd
              clear HN HB hd
              go_wp2
              go_ret
              first | exact ⟨ret_int hr.symm, by (repeat (first | with_reducible exact Below.refl _ _ | with_reducible assumption | with_reducible refine Below.drew ?_ | with_reducible refine Below.drewN ?_ _ | with_reducible refine Below.alloc1 ?_ _ | with_reducible refine Below.setCell1 ?_ (by first | omega | (simp; done) | (simp; omega)) _ | with_reducible refine Below.step ?_ (by with_reducible assumption)))⟩ | exact ⟨rfl, by (repeat (first | with_reducible exact Below.refl _ _ | with_reducible assumption | with_reducible refine Below.drew ?_ | with_reducible refine Below.drewN ?_ _ | with_reducible refine Below.alloc1 ?_ _ | with_reducible refine Below.setCell1 ?_ (by first | omega | (simp; done) | (simp; omega)) _ | with_reducible refine Below.step ?_ (by with_reducible assumption)))⟩
          · have h1 := dOnce_end (l := l) (fun j hj => HT.out j hj (by omega))
            have hr2 := HR.out
            rw [if_neg (by rw [h1]; simp)] at hr2
            replace HR := hide hr2
            clear HT hF h1 HR
            have HR := hide hr2
            clear hr2
            by_cases hz : l.length = 0
            · obtain rfl : l = [] := List.length_eq_zero_iff.1 hz
              have hin := fun W => ref_in_any at_ 0 0 W
              have hpl : ∀ b, dIn at_ 0 0 = b → dPlace 0 at_ mid = (b && !mid) := by rintro b rfl; show (dIn at_ 0 0 && !(mid && decide (0 = 0))) = _; simp
              generalize dIn at_ 0 0 = bi at *
              have hp := hpl _ rfl
              have hr2 := HR.out
              rw [List.length_nil, hp] at hr2
              replace HR := hide hr2
              clear hr2 hp hpl hz hlt
              go_wp2_with fail
              refine (hin _).mono ?_; rintro e x3 ⟨rfl, rfl⟩
              cases bi <;> cases mid
              all_goals
                have hr2 := HR.out
                try simp at hr2
                go_wp2
                go_ret
                first | exact ⟨ret_int hr2.symm, by (repeat (first | with_reducible exact Below.refl _ _ | with_reducible assumption | with_reducible refine Below.drew ?_ | with_reducible refine Below.drewN ?_ _ | with_reducible refine Below.alloc1 ?_ _ | with_reducible refine Below.setCell1 ?_ (by first | omega | (simp; done) | (simp; omega)) _ | with_reducible refine Below.step ?_ (by with_reducible assumption)))⟩ | exact ⟨rfl, by (repeat (first | with_reducible exact Below.refl _ _ | with_reducible assumption | with_reducible refine Below.drew ?_ | with_reducible refine Below.drewN ?_ _ | with_reducible refine Below.alloc1 ?_ _ | with_reducible refine Below.setCell1 ?_ (by first | omega | (simp; done) | (simp; omega)) _ | with_reducible refine Below.step ?_ (by with_reducible assumption)))⟩
            · have g1 : (1 : Int) ≤ l.length := by omega
              have gm : (if (1 : Int) < (l.length : Int) then (l.length : Int) - 1 else 0) = (l.length : Int) - 1 := by split <;> omega
              have d0 : ((l.length : Int) == 0) = false := by rw [beq_eq_false_iff_ne]; omega
              have hin := fun W => ref_in_any at_ 0 ((l.length : Int) - 1) W
              have hpl : ∀ b, dIn at_ 0 ((l.length : Int) - 1) = b → dPlace l.length at_ mid = b := by rintro b rfl; unfold dPlace; rw [Int.max_eq_left g1, decide_eq_false hz]; simp
              generalize dIn at_ 0 ((l.length : Int) - 1) = bi at *
              have hp := hpl _ rfl
              have hr2 := HR.out
              rw [hp] at hr2
              replace HR := hide hr2
              clear hr2 hp hpl hz
              go_wp2_with fail
              refine (hin _).mono ?_; rintro e x3 ⟨rfl, rfl⟩
              cases bi <;> cases mid
              all_goals
                have hr2 := HR.out
                try simp at hr2
                go_wp2
                go_ret
                first | exact ⟨ret_int hr2.symm, by (repeat (first | with_reducible exact Below.refl _ _ | with_reducible assumption | with_reducible refine Below.drew ?_ | with_reducible refine Below.drewN ?_ _ | with_reducible refine Below.alloc1 ?_ _ | with_reducible refine Below.setCell1 ?_ (by first | omega | (simp; done) | (simp; omega)) _ | with_reducible refine Below.step ?_ (by with_reducible assumption)))⟩ | exact ⟨rfl, by (repeat (first | with_reducible exact Below.refl _ _ | with_reducible assumption | with_reducible refine Below.drew ?_ | with_reducible refine Below.drewN ?_ _ | with_reducible refine Below.alloc1 ?_ _ | with_reducible refine Below.setCell1 ?_ (by first | omega | (simp; done) | (simp; omega)) _ | with_reducible refine Below.step ?_ (by with_reducible assumption)))⟩
end Go.Proofs.Yteblbleehnkcmaa

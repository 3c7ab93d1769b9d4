/- AddrTells: the walk. -/
import Derived.Test.YtmncjoihhdefcaaAwake09
import Derived.Deep.DeepCutAuto
namespace Go.Proofs.Ytmncjoihhdefcaa
open Go.RowKit Go.Shelf
set_option linter.unusedSimpArgs false
set_option linter.unusedVariables false

set_option maxRecDepth 1000000 in
set_option maxHeartbeats 8000000 in
theorem AddrTells_walk (n h r n2 h2 r2 : ByteArray) (w : World) (hm : MW w) :
    Calls Try.prog 4 #[aV n h r, aV n2 h2 r2] w fun e w' => e = .returned (.bool true) ∧ Below w.heap.size w w' := by
  unfold aV
  by_cases z0 : 50 < n.size
  · have hI : (50 : Int) < (n.size : Int) := by omega
    go_enter Try.func4, Try.ntmps4
    go_wp2_with fail
    refine (awake09 _ (hm.step (by (repeat (first | with_reducible exact Below.refl _ _ | with_reducible assumption | with_reducible refine Below.drew ?_ | with_reducible refine Below.drewN ?_ _ | with_reducible refine Below.alloc1 ?_ _ | with_reducible refine Below.setCell1 ?_ (by first | omega | (simp; done) | (simp; omega)) _ | with_reducible refine Below.step ?_ (by with_reducible assumption)))))).mono ?_; rintro e w1 ⟨rfl, hb⟩
    go_wp2_with fail
    go_ret
    exact ⟨rfl, (show Below w.heap.size w _ by (repeat (first | with_reducible exact Below.refl _ _ | with_reducible assumption | with_reducible refine Below.drew ?_ | with_reducible refine Below.drewN ?_ _ | with_reducible refine Below.alloc1 ?_ _ | with_reducible refine Below.setCell1 ?_ (by first | omega | (simp; done) | (simp; omega)) _ | with_reducible refine Below.step ?_ (by with_reducible assumption)))).step hb⟩
  have i0 : (n.size : Int) ≤ 50 := by omega
  by_cases z1 : 50 < h.size
  · have hI : (50 : Int) < (h.size : Int) := by omega
    go_enter Try.func4, Try.ntmps4
    go_wp2_with fail
    refine (awake09 _ (hm.step (by (repeat (first | with_reducible exact Below.refl _ _ | with_reducible assumption | with_reducible refine Below.drew ?_ | with_reducible refine Below.drewN ?_ _ | with_reducible refine Below.alloc1 ?_ _ | with_reducible refine Below.setCell1 ?_ (by first | omega | (simp; done) | (simp; omega)) _ | with_reducible refine Below.step ?_ (by with_reducible assumption)))))).mono ?_; rintro e w1 ⟨rfl, hb⟩
    go_wp2_with fail
    go_ret
    exact ⟨rfl, (show Below w.heap.size w _ by (repeat (first | with_reducible exact Below.refl _ _ | with_reducible assumption | with_reducible refine Below.drew ?_ | with_reducible refine Below.drewN ?_ _ | with_reducible refine Below.alloc1 ?_ _ | with_reducible refine Below.setCell1 ?_ (by first | omega | (simp; done) | (simp; omega)) _ | with_reducible refine Below.step ?_ (by with_reducible assumption)))).step hb⟩
  have i1 : (h.size : Int) ≤ 50 := by omega
  by_cases z2 : 50 < r.size
  · have hI : (50 : Int) < (r.size : Int) := by omega
    go_enter Try.func4, Try.ntmps4
    go_wp2_with fail
    refine (awake09 _ (hm.step (by (repeat (first | with_reducible exact Below.refl _ _ | with_reducible assumption | with_reducible refine Below.drew ?_ | with_reducible refine Below.drewN ?_ _ | with_reducible refine Below.alloc1 ?_ _ | with_reducible refine Below.setCell1 ?_ (by first | omega | (simp; done) | (simp; omega)) _ | with_reducible refine Below.step ?_ (by with_reducible assumption)))))).mono ?_; rintro e w1 ⟨rfl, hb⟩
    go_wp2_with fail
    go_ret
    exact ⟨rfl, (show Below w.heap.size w _ by (repeat (first | with_reducible exact Below.refl _ _ | with_reducible assumption | with_reducible refine Below.drew ?_ | with_reducible refine Below.drewN ?_ _ | with_reducible refine Below.alloc1 ?_ _ | with_reducible refine Below.setCell1 ?_ (by first | omega | (simp; done) | (simp; omega)) _ | with_reducible refine Below.step ?_ (by with_reducible assumption)))).step hb⟩
  have i2 : (r.size : Int) ≤ 50 := by omega
  by_cases z3 : 50 < n2.size
  · have hI : (50 : Int) < (n2.size : Int) := by omega
    go_enter Try.func4, Try.ntmps4
    go_wp2_with fail
    refine (awake09 _ (hm.step (by (repeat (first | with_reducible exact Below.refl _ _ | with_reducible assumption | with_reducible refine Below.drew ?_ | with_reducible refine Below.drewN ?_ _ | with_reducible refine Below.alloc1 ?_ _ | with_reducible refine Below.setCell1 ?_ (by first | omega | (simp; done) | (simp; omega)) _ | with_reducible refine Below.step ?_ (by with_reducible assumption)))))).mono ?_; rintro e w1 ⟨rfl, hb⟩
    go_wp2_with fail
    go_ret
    exact ⟨rfl, (show Below w.heap.size w _ by (repeat (first | with_reducible exact Below.refl _ _ | with_reducible assumption | with_reducible refine Below.drew ?_ | with_reducible refine Below.drewN ?_ _ | with_reducible refine Below.alloc1 ?_ _ | with_reducible refine Below.setCell1 ?_ (by first | omega | (simp; done) | (simp; omega)) _ | with_reducible refine Below.step ?_ (by with_reducible assumption)))).step hb⟩
  have i3 : (n2.size : Int) ≤ 50 := by omega
  by_cases z4 : 50 < h2.size
  · have hI : (50 : Int) < (h2.size : Int) := by omega
    go_enter Try.func4, Try.ntmps4
    go_wp2_with fail
    refine (awake09 _ (hm.step (by (repeat (first | with_reducible exact Below.refl _ _ | with_reducible assumption | with_reducible refine Below.drew ?_ | with_reducible refine Below.drewN ?_ _ | with_reducible refine Below.alloc1 ?_ _ | with_reducible refine Below.setCell1 ?_ (by first | omega | (simp; done) | (simp; omega)) _ | with_reducible refine Below.step ?_ (by with_reducible assumption)))))).mono ?_; rintro e w1 ⟨rfl, hb⟩
    go_wp2_with fail
    go_ret
    exact ⟨rfl, (show Below w.heap.size w _ by (repeat (first | with_reducible exact Below.refl _ _ | with_reducible assumption | with_reducible refine Below.drew ?_ | with_reducible refine Below.drewN ?_ _ | with_reducible refine Below.alloc1 ?_ _ | with_reducible refine Below.setCell1 ?_ (by first | omega | (simp; done) | (simp; omega)) _ | with_reducible refine Below.step ?_ (by with_reducible assumption)))).step hb⟩
  have i4 : (h2.size : Int) ≤ 50 := by omega
  by_cases z5 : 50 < r2.size
  · have hI : (50 : Int) < (r2.size : Int) := by omega
    go_enter Try.func4, Try.ntmps4
    go_wp2_with fail
    refine (awake09 _ (hm.step (by (repeat (first | with_reducible exact Below.refl _ _ | with_reducible assumption | with_reducible refine Below.drew ?_ | with_reducible refine Below.drewN ?_ _ | with_reducible refine Below.alloc1 ?_ _ | with_reducible refine Below.setCell1 ?_ (by first | omega | (simp; done) | (simp; omega)) _ | with_reducible refine Below.step ?_ (by with_reducible assumption)))))).mono ?_; rintro e w1 ⟨rfl, hb⟩
    go_wp2_with fail
    go_ret
    exact ⟨rfl, (show Below w.heap.size w _ by (repeat (first | with_reducible exact Below.refl _ _ | with_reducible assumption | with_reducible refine Below.drew ?_ | with_reducible refine Below.drewN ?_ _ | with_reducible refine Below.alloc1 ?_ _ | with_reducible refine Below.setCell1 ?_ (by first | omega | (simp; done) | (simp; omega)) _ | with_reducible refine Below.step ?_ (by with_reducible assumption)))).step hb⟩
  have i5 : (r2.size : Int) ≤ 50 := by omega
  clear z0 z1 z2 z3 z4 z5
  have j0 := hide i0
  go_enter Try.func4, Try.ntmps4
  go_upto_region 3 with fail
  generalize hV : World.alloc (World.alloc w _) _ = w1
  have hb1 : Below w.heap.size w w1 := by subst hV; (repeat (first | with_reducible exact Below.refl _ _ | with_reducible assumption | with_reducible refine Below.drew ?_ | with_reducible refine Below.drewN ?_ _ | with_reducible refine Below.alloc1 ?_ _ | with_reducible refine Below.setCell1 ?_ (by first | omega | (simp; done) | (simp; omega)) _ | with_reducible refine Below.step ?_ (by with_reducible assumption)))
  have q0 : Bk w1 w.heap.size 28 (aC n h r) := by subst hV; exact (Bk.new w _ (aC n h r)).alloc _
  have q1 : Bk w1 (w.heap.size + 1) 28 (aC n2 h2 r2) := by subst hV; exact Bk.new' _ _ _ _ (by simp)
  clear hV
  unfold aC at q0 q1
  have q0_0 := q0.cell 0; have q0_f0 := q0.frozen 0; have q0_1 := q0.cell 1; have q0_f1 := q0.frozen 1; have q0_2 := q0.cell 2; have q0_f2 := q0.frozen 2; simp only [List.set_cons_zero, List.set_cons_succ, List.getElem?_cons_zero, List.getElem?_cons_succ] at q0_0 q0_1 q0_2; have lt_q0 := q0.lt; have q1_0 := q1.cell 0; have q1_f0 := q1.frozen 0; have q1_1 := q1.cell 1; have q1_f1 := q1.frozen 1; have q1_2 := q1.cell 2; have q1_f2 := q1.frozen 2; simp only [List.set_cons_zero, List.set_cons_succ, List.getElem?_cons_zero, List.getElem?_cons_succ] at q1_0 q1_1 q1_2; have lt_q1 := q1.lt
  go_cut [5, 6] (fun p q w' => ∃ g g' : Nat, p = .pointer (some ⟨g, 0, none⟩) ∧ q = .pointer (some ⟨g', 0, none⟩) ∧ Bk w' g 24 (aC n h r) ∧ Bk w' g' 24 (aC n2 h2 r2) ∧ Below w1.heap.size w1 w')
  case first =>
    have HS : Hid (∀ w' : World, Below (w1.heap.size) w1 w' → (w'.cell? ⟨w.heap.size, 0, none⟩ = some (.string n) ∧ w'.cell? ⟨w.heap.size, 1, none⟩ = some (.string h) ∧ w'.cell? ⟨w.heap.size, 2, none⟩ = some (.string r) ∧ w'.cell? ⟨w.heap.size + 1, 0, none⟩ = some (.string n2) ∧ w'.cell? ⟨w.heap.size + 1, 1, none⟩ = some (.string h2) ∧ w'.cell? ⟨w.heap.size + 1, 2, none⟩ = some (.string r2)) ∧ w1.heap.size ≤ w'.heap.size ∧ Below (w1.heap.size) w1 w') := fun w' hB => ⟨⟨(hB.cell (p := ⟨w.heap.size, 0, none⟩) (by dsimp only; omega)).trans (q0_0), (hB.cell (p := ⟨w.heap.size, 1, none⟩) (by dsimp only; omega)).trans (q0_1), (hB.cell (p := ⟨w.heap.size, 2, none⟩) (by dsimp only; omega)).trans (q0_2), (hB.cell (p := ⟨w.heap.size + 1, 0, none⟩) (by dsimp only; omega)).trans (q1_0), (hB.cell (p := ⟨w.heap.size + 1, 1, none⟩) (by dsimp only; omega)).trans (q1_1), (hB.cell (p := ⟨w.heap.size + 1, 2, none⟩) (by dsimp only; omega)).trans (q1_2)⟩, hB.size, hB⟩; go_region_held3 (fun w' => (w'.cell? ⟨w.heap.size, 0, none⟩ = some (.string n) ∧ w'.cell? ⟨w.heap.size, 1, none⟩ = some (.string h) ∧ w'.cell? ⟨w.heap.size, 2, none⟩ = some (.string r) ∧ w'.cell? ⟨w.heap.size + 1, 0, none⟩ = some (.string n2) ∧ w'.cell? ⟨w.heap.size + 1, 1, none⟩ = some (.string h2) ∧ w'.cell? ⟨w.heap.size + 1, 2, none⟩ = some (.string r2)) ∧ w1.heap.size ≤ w'.heap.size ∧ Below (w1.heap.size) w1 w') ((go_split_ands; exact HS.out _ (by (repeat (first | with_reducible exact Below.refl _ _ | with_reducible assumption | with_reducible refine Below.drew ?_ | with_reducible refine Below.drewN ?_ _ | with_reducible refine Below.alloc ?_ (by first | omega | (simp; done) | (simp; omega)) _ | with_reducible refine Below.setCell ?_ (by first | omega | (simp; done) | (simp; omega)) _ | with_reducible refine Below.then_ ?_ (by with_reducible assumption) (by first | omega | (simp; done) | (simp; omega))))))) ((fail))
    all_goals (go_wp2_with fail)
    all_goals go_meet
    all_goals refine ⟨_, _, rfl, rfl, ?_, ?_, ?_⟩
    all_goals first
      | (show Bk _ _ _ [_, _, _]
         (repeat (first
           | (with_reducible refine Bk.new' _ _ _ _ ?_; simp; done)
           | with_reducible assumption
           | with_reducible refine Bk.alloc ?_ _
           | with_reducible refine Bk.drew ?_
           | with_reducible refine Bk.drewN ?_ _
           | with_reducible refine bk_set3 _ _ _ ?_
           | (with_reducible refine Bk.far ?_ ?_ _; rotate_left; (focus (first | omega | (dsimp only; omega) | (simp; done) | (simp; omega))))
           | with_reducible refine Bk.step ?_ (by with_reducible assumption)))
         done)
      | (repeat (first | with_reducible exact Below.refl _ _ | with_reducible assumption | with_reducible refine Below.drew ?_ | with_reducible refine Below.drewN ?_ _ | with_reducible refine Below.alloc1 ?_ _ | with_reducible refine Below.setCell1 ?_ (by first | omega | (simp; done) | (simp; omega)) _ | with_reducible refine Below.step ?_ (by with_reducible assumption)))
  case rest =>
    obtain ⟨g, g', rfl, rfl, kg, kh, hbc⟩ := hcut
    replace q0 := q0.step hbc; (try clear q0_0 q0_f0 q0_1 q0_f1 q0_2 q0_f2); have q0_0 := q0.cell 0; have q0_f0 := q0.frozen 0; have q0_1 := q0.cell 1; have q0_f1 := q0.frozen 1; have q0_2 := q0.cell 2; have q0_f2 := q0.frozen 2; simp only [List.set_cons_zero, List.set_cons_succ, List.getElem?_cons_zero, List.getElem?_cons_succ] at q0_0 q0_1 q0_2; (try clear lt_q0); have lt_q0 := q0.lt; replace q1 := q1.step hbc; (try clear q1_0 q1_f0 q1_1 q1_f1 q1_2 q1_f2); have q1_0 := q1.cell 0; have q1_f0 := q1.frozen 0; have q1_1 := q1.cell 1; have q1_f1 := q1.frozen 1; have q1_2 := q1.cell 2; have q1_f2 := q1.frozen 2; simp only [List.set_cons_zero, List.set_cons_succ, List.getElem?_cons_zero, List.getElem?_cons_succ] at q1_0 q1_1 q1_2; (try clear lt_q1); have lt_q1 := q1.lt
    have hb := hb1.step hbc
    clear hb1 hbc
    replace hm := hm.step hb
    unfold aC at kg kh
    have kg_0 := kg.cell 0; have kg_f0 := kg.frozen 0; have kg_1 := kg.cell 1; have kg_f1 := kg.frozen 1; have kg_2 := kg.cell 2; have kg_f2 := kg.frozen 2; simp only [List.set_cons_zero, List.set_cons_succ, List.getElem?_cons_zero, List.getElem?_cons_succ] at kg_0 kg_1 kg_2; have lt_kg := kg.lt; have kh_0 := kh.cell 0; have kh_f0 := kh.frozen 0; have kh_1 := kh.cell 1; have kh_f1 := kh.frozen 1; have kh_2 := kh.cell 2; have kh_f2 := kh.frozen 2; simp only [List.set_cons_zero, List.set_cons_succ, List.getElem?_cons_zero, List.getElem?_cons_succ] at kh_0 kh_1 kh_2; have lt_kh := kh.lt
    have c1 := fun W hW => addr_Check_any n h r (by omega) (by omega) (by omega) W hW
    have c2 := fun W => ref09_Check_any n h r (by omega) (by omega) (by omega) W
    have p1 := fun W hW => addr_Print_any n h r (by omega) (by omega) (by omega) W hW
    have p2 := fun W => ref09_Print_any n h r (by omega) (by omega) (by omega) W
    have l1 := fun W => addr_Less_any n h r n2 h2 r2 W
    have l2 := fun W => ref09_Less_any n h r n2 h2 r2 W
    have s1 := fun W => addr_Same_any n h r n2 h2 r2 W
    clear i0 i1 i2 i3 i4 i5 j0
    generalize aCheck n.data.toList h.data.toList r.data.toList = C at *
    generalize aPrint (n.data.toList, h.data.toList, r.data.toList) = P at *
    generalize aLess _ _ = L at *
    unfold aV at *
    go_wp2_with fail
    refine (p1 _ hm).mono ?_; rintro e w2 ⟨rfl, h2⟩
    replace hb := hb.step h2
    replace hm := hm.step h2
    replace q0 := q0.step h2; (try clear q0_0 q0_f0 q0_1 q0_f1 q0_2 q0_f2); have q0_0 := q0.cell 0; have q0_f0 := q0.frozen 0; have q0_1 := q0.cell 1; have q0_f1 := q0.frozen 1; have q0_2 := q0.cell 2; have q0_f2 := q0.frozen 2; simp only [List.set_cons_zero, List.set_cons_succ, List.getElem?_cons_zero, List.getElem?_cons_succ] at q0_0 q0_1 q0_2; (try clear lt_q0); have lt_q0 := q0.lt; replace q1 := q1.step h2; (try clear q1_0 q1_f0 q1_1 q1_f1 q1_2 q1_f2); have q1_0 := q1.cell 0; have q1_f0 := q1.frozen 0; have q1_1 := q1.cell 1; have q1_f1 := q1.frozen 1; have q1_2 := q1.cell 2; have q1_f2 := q1.frozen 2; simp only [List.set_cons_zero, List.set_cons_succ, List.getElem?_cons_zero, List.getElem?_cons_succ] at q1_0 q1_1 q1_2; (try clear lt_q1); have lt_q1 := q1.lt; replace kg := kg.step h2; (try clear kg_0 kg_f0 kg_1 kg_f1 kg_2 kg_f2); have kg_0 := kg.cell 0; have kg_f0 := kg.frozen 0; have kg_1 := kg.cell 1; have kg_f1 := kg.frozen 1; have kg_2 := kg.cell 2; have kg_f2 := kg.frozen 2; simp only [List.set_cons_zero, List.set_cons_succ, List.getElem?_cons_zero, List.getElem?_cons_succ] at kg_0 kg_1 kg_2; (try clear lt_kg); have lt_kg := kg.lt; replace kh := kh.step h2; (try clear kh_0 kh_f0 kh_1 kh_f1 kh_2 kh_f2); have kh_0 := kh.cell 0; have kh_f0 := kh.frozen 0; have kh_1 := kh.cell 1; have kh_f1 := kh.frozen 1; have kh_2 := kh.cell 2; have kh_f2 := kh.frozen 2; simp only [List.set_cons_zero, List.set_cons_succ, List.getElem?_cons_zero, List.getElem?_cons_succ] at kh_0 kh_1 kh_2; (try clear lt_kh); have lt_kh := kh.lt
    clear h2
    go_wp2_with fail
    refine (p2 _).mono ?_; rintro e w3 ⟨rfl, h3⟩
    replace hb := hb.step h3
    replace hm := hm.step h3
    replace q0 := q0.step h3; (try clear q0_0 q0_f0 q0_1 q0_f1 q0_2 q0_f2); have q0_0 := q0.cell 0; have q0_f0 := q0.frozen 0; have q0_1 := q0.cell 1; have q0_f1 := q0.frozen 1; have q0_2 := q0.cell 2; have q0_f2 := q0.frozen 2; simp only [List.set_cons_zero, List.set_cons_succ, List.getElem?_cons_zero, List.getElem?_cons_succ] at q0_0 q0_1 q0_2; (try clear lt_q0); have lt_q0 := q0.lt; replace q1 := q1.step h3; (try clear q1_0 q1_f0 q1_1 q1_f1 q1_2 q1_f2); have q1_0 := q1.cell 0; have q1_f0 := q1.frozen 0; have q1_1 := q1.cell 1; have q1_f1 := q1.frozen 1; have q1_2 := q1.cell 2; have q1_f2 := q1.frozen 2; simp only [List.set_cons_zero, List.set_cons_succ, List.getElem?_cons_zero, List.getElem?_cons_succ] at q1_0 q1_1 q1_2; (try clear lt_q1); have lt_q1 := q1.lt; replace kg := kg.step h3; (try clear kg_0 kg_f0 kg_1 kg_f1 kg_2 kg_f2); have kg_0 := kg.cell 0; have kg_f0 := kg.frozen 0; have kg_1 := kg.cell 1; have kg_f1 := kg.frozen 1; have kg_2 := kg.cell 2; have kg_f2 := kg.frozen 2; simp only [List.set_cons_zero, List.set_cons_succ, List.getElem?_cons_zero, List.getElem?_cons_succ] at kg_0 kg_1 kg_2; (try clear lt_kg); have lt_kg := kg.lt; replace kh := kh.step h3; (try clear kh_0 kh_f0 kh_1 kh_f1 kh_2 kh_f2); have kh_0 := kh.cell 0; have kh_f0 := kh.frozen 0; have kh_1 := kh.cell 1; have kh_f1 := kh.frozen 1; have kh_2 := kh.cell 2; have kh_f2 := kh.frozen 2; simp only [List.set_cons_zero, List.set_cons_succ, List.getElem?_cons_zero, List.getElem?_cons_succ] at kh_0 kh_1 kh_2; (try clear lt_kh); have lt_kh := kh.lt
    clear h3 p1 p2
    go_wp2_with fail
    obtain ⟨D, hD⟩ : ∃ D, D = decide (n.data.toList = n2.data.toList ∧ h.data.toList = h2.data.toList ∧ r.data.toList = r2.data.toList) := ⟨_, rfl⟩
    rw [← hD] at s1
    by_cases d0 : n.data = n2.data
    · obtain rfl : n = n2 := ByteArray.ext d0
      clear d0
      by_cases d1 : h.data = h2.data
      · obtain rfl : h = h2 := ByteArray.ext d1
        clear d1
        by_cases d2 : r.data = r2.data
        · obtain rfl : r = r2 := ByteArray.ext d2
          clear d2
          obtain rfl : D = true := by rw [hD]; simp
          clear hD
          (refine wp_region_qb (by kernel_rfl) (by kernel_rfl) (fun kq => ?_); (try dsimp only [List.append]); (repeat (go_big_quiet_step ((first | (go_at_call 20; exact (c1 _ (hm.step (below_regrown _ _ _))).qb) | (go_at_call 21; exact (c2 _).qb) | (go_at_call 22; exact (l1 _).qb) | (go_at_call 23; exact (l2 _).qb) | (go_at_call 24; exact (s1 _).qb) | (go_at_call 7; exact (awake09 _ (hm.step (below_regrown _ _ _))).qb))))); refine wpQuiet_nil ?_; intro wq hwq; have hbq := below_of_class hwq; clear hwq kq)
          go_wp2_with fail
          go_ret
          exact ⟨by simp, hb.step hbq⟩
        · obtain rfl : D = false := by rw [hD, decide_eq_false]; intro h; exact d2 (Array.toList_inj.1 h.2.2)
          have ee := str_beq r r2
          rw [decide_eq_false (fun h => d2 (Array.toList_inj.1 h))] at ee
          clear hD
          (refine wp_region_qb (by kernel_rfl) (by kernel_rfl) (fun kq => ?_); (try dsimp only [List.append]); (repeat (go_big_quiet_step ((first | (go_at_call 20; exact (c1 _ (hm.step (below_regrown _ _ _))).qb) | (go_at_call 21; exact (c2 _).qb) | (go_at_call 22; exact (l1 _).qb) | (go_at_call 23; exact (l2 _).qb) | (go_at_call 24; exact (s1 _).qb) | (go_at_call 7; exact (awake09 _ (hm.step (below_regrown _ _ _))).qb))))); refine wpQuiet_nil ?_; intro wq hwq; have hbq := below_of_class hwq; clear hwq kq)
          go_wp2_with fail
          go_ret
          exact ⟨by simp, hb.step hbq⟩
      · obtain rfl : D = false := by rw [hD, decide_eq_false]; intro h; exact d1 (Array.toList_inj.1 h.2.1)
        have ee := str_beq h h2
        rw [decide_eq_false (fun h => d1 (Array.toList_inj.1 h))] at ee
        clear hD
        (refine wp_region_qb (by kernel_rfl) (by kernel_rfl) (fun kq => ?_); (try dsimp only [List.append]); (repeat (go_big_quiet_step ((first | (go_at_call 20; exact (c1 _ (hm.step (below_regrown _ _ _))).qb) | (go_at_call 21; exact (c2 _).qb) | (go_at_call 22; exact (l1 _).qb) | (go_at_call 23; exact (l2 _).qb) | (go_at_call 24; exact (s1 _).qb) | (go_at_call 7; exact (awake09 _ (hm.step (below_regrown _ _ _))).qb))))); refine wpQuiet_nil ?_; intro wq hwq; have hbq := below_of_class hwq; clear hwq kq)
        go_wp2_with fail
        go_ret
        exact ⟨by simp, hb.step hbq⟩
    · obtain rfl : D = false := by rw [hD, decide_eq_false]; intro h; exact d0 (Array.toList_inj.1 h.1)
      have ee := str_beq n n2
      rw [decide_eq_false (fun h => d0 (Array.toList_inj.1 h))] at ee
      clear hD
      (refine wp_region_qb (by kernel_rfl) (by kernel_rfl) (fun kq => ?_); (try dsimp only [List.append]); (repeat (go_big_quiet_step ((first | (go_at_call 20; exact (c1 _ (hm.step (below_regrown _ _ _))).qb) | (go_at_call 21; exact (c2 _).qb) | (go_at_call 22; exact (l1 _).qb) | (go_at_call 23; exact (l2 _).qb) | (go_at_call 24; exact (s1 _).qb) | (go_at_call 7; exact (awake09 _ (hm.step (below_regrown _ _ _))).qb))))); refine wpQuiet_nil ?_; intro wq hwq; have hbq := below_of_class hwq; clear hwq kq)
      go_wp2_with fail
      go_ret
      exact ⟨by simp, hb.step hbq⟩
end Go.Proofs.Ytmncjoihhdefcaa

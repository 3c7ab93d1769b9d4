/- Package addr: Less, Same. -/
import Derived.Test.YtmncjoihhdefcaaAd6
import Derived.Deep.RegionHeld3
import Derived.Deep.DeepCutAuto
namespace Go.Proofs.Ytmncjoihhdefcaa
open Go.RowKit Go.Shelf
set_option linter.unusedSimpArgs false
set_option linter.unusedVariables false

theorem bytesLess_self (l : List UInt8) : Op.bytesLess l l = false := by
  induction l with
  | nil => rfl
  | cons a l ih => unfold Op.bytesLess; simp [ih]
theorem bk_set3 {w : World} {g : Nat} {t : TypeId} (a b c : Value) (h : Bk w g t [.string ⟨#[]⟩, .string ⟨#[]⟩, .string ⟨#[]⟩]) : Bk (((w.setCell ⟨g, 0, none⟩ a).setCell ⟨g, 1, none⟩ b).setCell ⟨g, 2, none⟩ c) g t [a, b, c] :=
  ((h.set_ 0 a).set_ 1 b).set_ 2 c
set_option maxRecDepth 100000 in
set_option maxHeartbeats 4000000 in
theorem addr_Less_any (n h r n2 h2 r2 : ByteArray) (w : World) : Calls Try.prog 22 #[aV n h r, aV n2 h2 r2] w fun e w' =>
    e = .returned (.bool (aLess (n.data.toList, h.data.toList, r.data.toList) (n2.data.toList, h2.data.toList, r2.data.toList))) ∧ Below w.heap.size w w' := by
  have k0 := fun W => addr_parts_any n h r W
  have k1 := fun W => addr_parts_any n2 h2 r2 W
  obtain ⟨R, hR⟩ : ∃ R, R = aLess (n.data.toList, h.data.toList, r.data.toList) (n2.data.toList, h2.data.toList, r2.data.toList) := ⟨_, rfl⟩
  rw [← hR]
  replace hR := hide hR
  unfold aV at *
  go_enter Try.func22, Try.ntmps22
  go_upto_region 1 with fail
  generalize hV : World.alloc (World.alloc w _) _ = w1
  have hb1 : Below w.heap.size w w1 := by subst hV; (repeat (first | with_reducible exact Below.refl _ _ | with_reducible assumption | with_reducible refine Below.drew ?_ | with_reducible refine Below.drewN ?_ _ | with_reducible refine Below.alloc1 ?_ _ | with_reducible refine Below.setCell1 ?_ (by first | omega | (simp; done) | (simp; omega)) _ | with_reducible refine Below.step ?_ (by with_reducible assumption)))
  have q0 : Bk w1 w.heap.size 24 (aC n h r) := by subst hV; exact (Bk.new w _ (aC n h r)).alloc _
  have q1 : Bk w1 (w.heap.size + 1) 24 (aC n2 h2 r2) := by subst hV; exact Bk.new' _ _ _ _ (by simp)
  clear hV
  unfold aC at q0 q1
  have q0_0 := q0.cell 0; have q0_f0 := q0.frozen 0; have q0_1 := q0.cell 1; have q0_f1 := q0.frozen 1; have q0_2 := q0.cell 2; have q0_f2 := q0.frozen 2; simp only [List.set_cons_zero, List.set_cons_succ, List.getElem?_cons_zero, List.getElem?_cons_succ] at q0_0 q0_1 q0_2; have lt_q0 := q0.lt; have q1_0 := q1.cell 0; have q1_f0 := q1.frozen 0; have q1_1 := q1.cell 1; have q1_f1 := q1.frozen 1; have q1_2 := q1.cell 2; have q1_f2 := q1.frozen 2; simp only [List.set_cons_zero, List.set_cons_succ, List.getElem?_cons_zero, List.getElem?_cons_succ] at q1_0 q1_1 q1_2; have lt_q1 := q1.lt
  go_cut [5, 6] (fun p q w' => ∃ g g' : Nat, p = .pointer (some ⟨g, 0, none⟩) ∧ q = .pointer (some ⟨g', 0, none⟩) ∧ Bk w' g 56 (aC n h r) ∧ Bk w' g' 56 (aC n2 h2 r2) ∧ Below w1.heap.size w1 w')
  case first =>
    have HS : Hid (∀ w' : World, Below (w1.heap.size) w1 w' → (w'.cell? ⟨w.heap.size, 0, none⟩ = some (.string n) ∧ w'.cell? ⟨w.heap.size, 1, none⟩ = some (.string h) ∧ w'.cell? ⟨w.heap.size, 2, none⟩ = some (.string r) ∧ w'.cell? ⟨w.heap.size + 1, 0, none⟩ = some (.string n2) ∧ w'.cell? ⟨w.heap.size + 1, 1, none⟩ = some (.string h2) ∧ w'.cell? ⟨w.heap.size + 1, 2, none⟩ = some (.string r2)) ∧ w1.heap.size ≤ w'.heap.size ∧ Below (w1.heap.size) w1 w') := fun w' hB => ⟨⟨(hB.cell (p := ⟨w.heap.size, 0, none⟩) (by dsimp only; omega)).trans (q0_0), (hB.cell (p := ⟨w.heap.size, 1, none⟩) (by dsimp only; omega)).trans (q0_1), (hB.cell (p := ⟨w.heap.size, 2, none⟩) (by dsimp only; omega)).trans (q0_2), (hB.cell (p := ⟨w.heap.size + 1, 0, none⟩) (by dsimp only; omega)).trans (q1_0), (hB.cell (p := ⟨w.heap.size + 1, 1, none⟩) (by dsimp only; omega)).trans (q1_1), (hB.cell (p := ⟨w.heap.size + 1, 2, none⟩) (by dsimp only; omega)).trans (q1_2)⟩, hB.size, hB⟩; go_region_held3 (fun w' => (w'.cell? ⟨w.heap.size, 0, none⟩ = some (.string n) ∧ w'.cell? ⟨w.heap.size, 1, none⟩ = some (.string h) ∧ w'.cell? ⟨w.heap.size, 2, none⟩ = some (.string r) ∧ w'.cell? ⟨w.heap.size + 1, 0, none⟩ = some (.string n2) ∧ w'.cell? ⟨w.heap.size + 1, 1, none⟩ = some (.string h2) ∧ w'.cell? ⟨w.heap.size + 1, 2, none⟩ = some (.string r2)) ∧ w1.heap.size ≤ w'.heap.size ∧ Below (w1.heap.size) w1 w') ((go_split_ands; exact HS.out _ (by (repeat (first | with_reducible exact Below.refl _ _ | with_reducible assumption | with_reducible refine Below.drew ?_ | with_reducible refine Below.drewN ?_ _ | with_reducible refine Below.alloc ?_ (by first | omega | (simp; done) | (simp; omega)) _ | with_reducible refine Below.setCell ?_ (by first | omega | (simp; done) | (simp; omega)) _ | with_reducible refine Below.then_ ?_ (by with_reducible assumption) (by first | omega | (simp; done) | (simp; omega))))))) ((go_at_call 32; first | (with_reducible refine (k0 _).mono ?_; rintro e w2 ⟨rfl, hb2⟩; obtain ⟨hc_hb2, hf_hb2⟩ := bcell hb2; have hz_hb2 := hb2.size; (try simp at hz_hb2); (try have lt_w2_w1_0 : w1.heap.size < w2.heap.size := by omega); (try have lt_w2_w1_1 : w1.heap.size + 1 < w2.heap.size := by omega); (try have lt_w2_w1_2 : w1.heap.size + 1 + 1 < w2.heap.size := by omega)) | (with_reducible refine (k1 _).mono ?_; rintro e w3 ⟨rfl, hb3⟩; obtain ⟨hc_hb3, hf_hb3⟩ := bcell hb3; have hz_hb3 := hb3.size; (try simp at hz_hb3); (try have lt_w3_w1_0 : w1.heap.size < w3.heap.size := by omega); (try have lt_w3_w1_1 : w1.heap.size + 1 < w3.heap.size := by omega); (try have lt_w3_w1_2 : w1.heap.size + 1 + 1 < w3.heap.size := by omega); (try have lt_w3_w2_0 : w2.heap.size < w3.heap.size := by omega); (try have lt_w3_w2_1 : w2.heap.size + 1 < w3.heap.size := by omega); (try have lt_w3_w2_2 : w2.heap.size + 1 + 1 < w3.heap.size := by omega))))
    all_goals (go_wp2_with fail)
    all_goals go_meet
    all_goals refine ⟨_, _, rfl, rfl, ?_, ?_, ?_⟩
    all_goals first
      | (show Bk _ _ _ [_, _, _]
         (repeat (first
           | (with_reducible refine Bk.new' _ _ _ _ ?_; simp; done)
           | with_reducible assumption
           | with_reducible refine Bk.alloc ?_ _
           | with_reducible refine Bk.drew ?_
           | with_reducible refine Bk.drewN ?_ _
           | with_reducible refine bk_set3 _ _ _ ?_
           | (with_reducible refine Bk.far ?_ ?_ _; rotate_left; (focus (first | omega | (dsimp only; omega) | (simp; done) | (simp; omega))))
           | with_reducible refine Bk.step ?_ (by with_reducible assumption)))
         done)
      | (repeat (first | with_reducible exact Below.refl _ _ | with_reducible assumption | with_reducible refine Below.drew ?_ | with_reducible refine Below.drewN ?_ _ | with_reducible refine Below.alloc1 ?_ _ | with_reducible refine Below.setCell1 ?_ (by first | omega | (simp; done) | (simp; omega)) _ | with_reducible refine Below.step ?_ (by with_reducible assumption)))
  case rest =>
    obtain ⟨g, g', rfl, rfl, kg, kh, hbc⟩ := hcut
    (try clear q0_0 q0_f0 q0_1 q0_f1 q0_2 q0_f2 lt_q0) ; (try clear q1_0 q1_f0 q1_1 q1_f1 q1_2 q1_f2 lt_q1)
    clear q0 q1 k0 k1
    have hb := hb1.step hbc
    clear hb1 hbc
    unfold aC at kg kh
    have kg_0 := kg.cell 0; have kg_f0 := kg.frozen 0; have kg_1 := kg.cell 1; have kg_f1 := kg.frozen 1; have kg_2 := kg.cell 2; have kg_f2 := kg.frozen 2; simp only [List.set_cons_zero, List.set_cons_succ, List.getElem?_cons_zero, List.getElem?_cons_succ] at kg_0 kg_1 kg_2; have lt_kg := kg.lt; have kh_0 := kh.cell 0; have kh_f0 := kh.frozen 0; have kh_1 := kh.cell 1; have kh_f1 := kh.frozen 1; have kh_2 := kh.cell 2; have kh_f2 := kh.frozen 2; simp only [List.set_cons_zero, List.set_cons_succ, List.getElem?_cons_zero, List.getElem?_cons_succ] at kh_0 kh_1 kh_2; have lt_kh := kh.lt
    have e0 := str_beq n n2
    have e1 := str_beq h h2
    have e2 := str_beq r r2
    unfold aLess at hR
    replace hR := hR.out
    dsimp only at hR
    replace hR := hide hR
    go_wp2_with fail
    go_loopw [12] (fun i wr => ∃ k : Nat, k ≤ 3 ∧ i = .int .i64 k ∧ (0 < k → n.data.toList = n2.data.toList) ∧ (1 < k → h.data.toList = h2.data.toList) ∧ (2 < k → r.data.toList = r2.data.toList) ∧ Below wc.heap.size wc wr) (fun i _ => 3 - (intOf i).toNat)
    case atStart => exact ⟨0, by omega, rfl, by omega, by omega, by omega, Below.refl _ _⟩
    case round =>
      obtain ⟨k, hk, rfl, l0, l1, l2, hbr⟩ := hrel
      replace hb := hb.step hbr
      replace kg := kg.step hbr; (try clear kg_0 kg_f0 kg_1 kg_f1 kg_2 kg_f2); have kg_0 := kg.cell 0; have kg_f0 := kg.frozen 0; have kg_1 := kg.cell 1; have kg_f1 := kg.frozen 1; have kg_2 := kg.cell 2; have kg_f2 := kg.frozen 2; simp only [List.set_cons_zero, List.set_cons_succ, List.getElem?_cons_zero, List.getElem?_cons_succ] at kg_0 kg_1 kg_2; (try clear lt_kg); have lt_kg := kg.lt; replace kh := kh.step hbr; (try clear kh_0 kh_f0 kh_1 kh_f1 kh_2 kh_f2); have kh_0 := kh.cell 0; have kh_f0 := kh.frozen 0; have kh_1 := kh.cell 1; have kh_f1 := kh.frozen 1; have kh_2 := kh.cell 2; have kh_f2 := kh.frozen 2; simp only [List.set_cons_zero, List.set_cons_succ, List.getElem?_cons_zero, List.getElem?_cons_succ] at kh_0 kh_1 kh_2; (try clear lt_kh); have lt_kh := kh.lt
      by_cases h3 : k = 3
      case pos =>
        subst h3
        have hR2 : R = false := by rw [hR.out, l0 (by omega), l1 (by omega), l2 (by omega)]; simp [bytesLess_self]
        subst hR2
        clear hR l0 l1 l2 e0 e1 e2
        go_wp2_with fail
        go_ret
        exact ⟨rfl, hb⟩
      obtain rfl | rfl | rfl : k = 0 ∨ k = 1 ∨ k = 2 := by omega
      · rw [show ((0 : Nat) : Int) = 0 from rfl]
        by_cases ee : n.data.toList = n2.data.toList
        · rw [decide_eq_true ee] at e0
          go_wp2_with fail
          (refine wp_region_qb (by kernel_rfl) (by kernel_rfl) (fun kq => ?_); (try dsimp only [List.append]); (repeat (go_big_quiet_step ((fail)))); refine wpQuiet_nil ?_; intro wq hwq; have hbq := below_of_class hwq; clear hwq kq)
          go_wp2_with fail
          go_roundw
          case rel => exact ⟨1, by omega, by simp, fun _ => ee, fun h => by omega, fun h => by omega, hbr.step hbq⟩
          case measure => simp [intOf]
        · rw [decide_eq_false ee] at e0
          have hR2 : R = Op.bytesLess n.data.toList n2.data.toList := by
            rw [hR.out]
            rw [if_pos ee]
          generalize hB : Op.bytesLess n.data.toList n2.data.toList = B at *
          rw [← ByteArray.toList_eq, ← ByteArray.toList_eq] at hB
          subst hR2
          clear hR ee
          go_wp2_with fail
          (refine wp_region_qb (by kernel_rfl) (by kernel_rfl) (fun kq => ?_); (try dsimp only [List.append]); (repeat (go_big_quiet_step ((fail)))); refine wpQuiet_nil ?_; intro wq hwq; have hbq := below_of_class hwq; clear hwq kq)
          replace kg := kg.step hbq; (try clear kg_0 kg_f0 kg_1 kg_f1 kg_2 kg_f2); have kg_0 := kg.cell 0; have kg_f0 := kg.frozen 0; have kg_1 := kg.cell 1; have kg_f1 := kg.frozen 1; have kg_2 := kg.cell 2; have kg_f2 := kg.frozen 2; simp only [List.set_cons_zero, List.set_cons_succ, List.getElem?_cons_zero, List.getElem?_cons_succ] at kg_0 kg_1 kg_2; (try clear lt_kg); have lt_kg := kg.lt; replace kh := kh.step hbq; (try clear kh_0 kh_f0 kh_1 kh_f1 kh_2 kh_f2); have kh_0 := kh.cell 0; have kh_f0 := kh.frozen 0; have kh_1 := kh.cell 1; have kh_f1 := kh.frozen 1; have kh_2 := kh.cell 2; have kh_f2 := kh.frozen 2; simp only [List.set_cons_zero, List.set_cons_succ, List.getElem?_cons_zero, List.getElem?_cons_succ] at kh_0 kh_1 kh_2; (try clear lt_kh); have lt_kh := kh.lt
          go_wp2_with fail
          have hbq1 := hb.step hbq
          clear hbq
          (refine wp_region_qb (by kernel_rfl) (by kernel_rfl) (fun kq => ?_); (try dsimp only [List.append]); (repeat (go_big_quiet_step ((fail)))); refine wpQuiet_nil ?_; intro wq hwq; have hbq := below_of_class hwq; clear hwq kq)
          go_wp2_with fail
          go_ret
          exact ⟨rfl, hbq1.step hbq⟩
      · rw [show ((1 : Nat) : Int) = 1 from rfl]
        by_cases ee : h.data.toList = h2.data.toList
        · rw [decide_eq_true ee] at e1
          go_wp2_with fail
          (refine wp_region_qb (by kernel_rfl) (by kernel_rfl) (fun kq => ?_); (try dsimp only [List.append]); (repeat (go_big_quiet_step ((fail)))); refine wpQuiet_nil ?_; intro wq hwq; have hbq := below_of_class hwq; clear hwq kq)
          go_wp2_with fail
          go_roundw
          case rel => exact ⟨2, by omega, by simp, fun _ => l0 (by omega), fun _ => ee, fun h => by omega, hbr.step hbq⟩
          case measure => simp [intOf]
        · rw [decide_eq_false ee] at e1
          have hR2 : R = Op.bytesLess h.data.toList h2.data.toList := by
            rw [hR.out]
            rw [if_neg (by simpa using l0 (by omega))]
            rw [if_pos ee]
          generalize hB : Op.bytesLess h.data.toList h2.data.toList = B at *
          rw [← ByteArray.toList_eq, ← ByteArray.toList_eq] at hB
          subst hR2
          clear hR ee
          go_wp2_with fail
          (refine wp_region_qb (by kernel_rfl) (by kernel_rfl) (fun kq => ?_); (try dsimp only [List.append]); (repeat (go_big_quiet_step ((fail)))); refine wpQuiet_nil ?_; intro wq hwq; have hbq := below_of_class hwq; clear hwq kq)
          replace kg := kg.step hbq; (try clear kg_0 kg_f0 kg_1 kg_f1 kg_2 kg_f2); have kg_0 := kg.cell 0; have kg_f0 := kg.frozen 0; have kg_1 := kg.cell 1; have kg_f1 := kg.frozen 1; have kg_2 := kg.cell 2; have kg_f2 := kg.frozen 2; simp only [List.set_cons_zero, List.set_cons_succ, List.getElem?_cons_zero, List.getElem?_cons_succ] at kg_0 kg_1 kg_2; (try clear lt_kg); have lt_kg := kg.lt; replace kh := kh.step hbq; (try clear kh_0 kh_f0 kh_1 kh_f1 kh_2 kh_f2); have kh_0 := kh.cell 0; have kh_f0 := kh.frozen 0; have kh_1 := kh.cell 1; have kh_f1 := kh.frozen 1; have kh_2 := kh.cell 2; have kh_f2 := kh.frozen 2; simp only [List.set_cons_zero, List.set_cons_succ, List.getElem?_cons_zero, List.getElem?_cons_succ] at kh_0 kh_1 kh_2; (try clear lt_kh); have lt_kh := kh.lt
          go_wp2_with fail
          have hbq1 := hb.step hbq
          clear hbq
          (refine wp_region_qb (by kernel_rfl) (by kernel_rfl) (fun kq => ?_); (try dsimp only [List.append]); (repeat (go_big_quiet_step ((fail)))); refine wpQuiet_nil ?_; intro wq hwq; have hbq := below_of_class hwq; clear hwq kq)
          go_wp2_with fail
          go_ret
          exact ⟨rfl, hbq1.step hbq⟩
      · rw [show ((2 : Nat) : Int) = 2 from rfl]
        by_cases ee : r.data.toList = r2.data.toList
        · rw [decide_eq_true ee] at e2
          go_wp2_with fail
          (refine wp_region_qb (by kernel_rfl) (by kernel_rfl) (fun kq => ?_); (try dsimp only [List.append]); (repeat (go_big_quiet_step ((fail)))); refine wpQuiet_nil ?_; intro wq hwq; have hbq := below_of_class hwq; clear hwq kq)
          go_wp2_with fail
          go_roundw
          case rel => exact ⟨3, by omega, by simp, fun _ => l0 (by omega), fun _ => l1 (by omega), fun _ => ee, hbr.step hbq⟩
          case measure => simp [intOf]
        · rw [decide_eq_false ee] at e2
          have hR2 : R = Op.bytesLess r.data.toList r2.data.toList := by
            rw [hR.out]
            rw [if_neg (by simpa using l0 (by omega))]
            rw [if_neg (by simpa using l1 (by omega))]
          generalize hB : Op.bytesLess r.data.toList r2.data.toList = B at *
          rw [← ByteArray.toList_eq, ← ByteArray.toList_eq] at hB
          subst hR2
          clear hR ee
          go_wp2_with fail
          (refine wp_region_qb (by kernel_rfl) (by kernel_rfl) (fun kq => ?_); (try dsimp only [List.append]); (repeat (go_big_quiet_step ((fail)))); refine wpQuiet_nil ?_; intro wq hwq; have hbq := below_of_class hwq; clear hwq kq)
          replace kg := kg.step hbq; (try clear kg_0 kg_f0 kg_1 kg_f1 kg_2 kg_f2); have kg_0 := kg.cell 0; have kg_f0 := kg.frozen 0; have kg_1 := kg.cell 1; have kg_f1 := kg.frozen 1; have kg_2 := kg.cell 2; have kg_f2 := kg.frozen 2; simp only [List.set_cons_zero, List.set_cons_succ, List.getElem?_cons_zero, List.getElem?_cons_succ] at kg_0 kg_1 kg_2; (try clear lt_kg); have lt_kg := kg.lt; replace kh := kh.step hbq; (try clear kh_0 kh_f0 kh_1 kh_f1 kh_2 kh_f2); have kh_0 := kh.cell 0; have kh_f0 := kh.frozen 0; have kh_1 := kh.cell 1; have kh_f1 := kh.frozen 1; have kh_2 := kh.cell 2; have kh_f2 := kh.frozen 2; simp only [List.set_cons_zero, List.set_cons_succ, List.getElem?_cons_zero, List.getElem?_cons_succ] at kh_0 kh_1 kh_2; (try clear lt_kh); have lt_kh := kh.lt
          go_wp2_with fail
          have hbq1 := hb.step hbq
          clear hbq
          (refine wp_region_qb (by kernel_rfl) (by kernel_rfl) (fun kq => ?_); (try dsimp only [List.append]); (repeat (go_big_quiet_step ((fail)))); refine wpQuiet_nil ?_; intro wq hwq; have hbq := below_of_class hwq; clear hwq kq)
          go_wp2_with fail
          go_ret
          exact ⟨rfl, hbq1.step hbq⟩
end Go.Proofs.Ytmncjoihhdefcaa

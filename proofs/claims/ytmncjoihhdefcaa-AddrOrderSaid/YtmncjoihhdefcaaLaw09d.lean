/- AddrOrder: the walk. -/
import Derived.Test.YtmncjoihhdefcaaAwake09
import Derived.Deep.DeepCutAuto
namespace Go.Proofs.Ytmncjoihhdefcaa
open Go.RowKit Go.Shelf
set_option linter.unusedSimpArgs false
set_option linter.unusedVariables false

theorem order_law (a b c : A3) : ((aLess a b && aLess b a) = false) ∧ ((aLess a b || aLess b a) = !decide (a.1 = b.1 ∧ a.2.1 = b.2.1 ∧ a.2.2 = b.2.2)) ∧ (aLess a b = true → aLess b c = true → aLess a c = true) := by
  refine ⟨?_, ?_, aLess_trans a b c⟩
  · by_cases h : aLess a b = true
    · rw [h, aLess_asym a b h]; rfl
    · rw [Bool.not_eq_true] at h; rw [h]; rfl
  · by_cases e : a = b
    · subst e; rw [aLess_irr]; simp
    · have : decide (a.1 = b.1 ∧ a.2.1 = b.2.1 ∧ a.2.2 = b.2.2) = false := by
        rw [decide_eq_false]
        intro h
        exact e (Prod.ext h.1 (Prod.ext h.2.1 h.2.2))
      rw [this]
      rcases aLess_tot a b e with h | h <;> simp [h]
set_option maxRecDepth 1000000 in
set_option maxHeartbeats 8000000 in
theorem AddrOrder_walk (n h r n2 h2 r2 n3 h3 r3 : ByteArray) (w : World) (hm : MW w) :
    Calls Try.prog 6 #[aV n h r, aV n2 h2 r2, aV n3 h3 r3] w fun e w' => e = .returned (.bool true) ∧ Below w.heap.size w w' := by
  unfold aV
  go_enter Try.func6, Try.ntmps6
  go_upto_region 2 with fail
  generalize hV : World.alloc (World.alloc (World.alloc (World.alloc w _) _) _) _ = w1
  have hb : Below w.heap.size w w1 := by subst hV; (repeat (first | with_reducible exact Below.refl _ _ | with_reducible assumption | with_reducible refine Below.drew ?_ | with_reducible refine Below.drewN ?_ _ | with_reducible refine Below.alloc1 ?_ _ | with_reducible refine Below.setCell1 ?_ (by first | omega | (simp; done) | (simp; omega)) _ | with_reducible refine Below.step ?_ (by with_reducible assumption)))
  have q0 : Bk w1 w.heap.size 28 (aC n h r) := by subst hV; exact (((Bk.new w _ (aC n h r)).alloc _).alloc _).alloc _
  have q1 : Bk w1 (w.heap.size + 1) 28 (aC n2 h2 r2) := by subst hV; exact ((Bk.new' _ _ (aC n2 h2 r2) _ (by simp)).alloc _).alloc _
  have q2 : Bk w1 (w.heap.size + 1 + 1) 28 (aC n3 h3 r3) := by subst hV; exact (Bk.new' _ _ (aC n3 h3 r3) _ (by simp)).alloc _
  have kl : Bk w1 (w.heap.size + 1 + 1 + 1) 28 [.string n, .string h, .string r, .string n2, .string h2, .string r2, .string n3, .string h3, .string r3] := by subst hV; exact Bk.new' _ _ _ _ (by simp)
  clear hV
  have kl_0 := kl.cell 0; have kl_f0 := kl.frozen 0; have kl_1 := kl.cell 1; have kl_f1 := kl.frozen 1; have kl_2 := kl.cell 2; have kl_f2 := kl.frozen 2; have kl_3 := kl.cell 3; have kl_f3 := kl.frozen 3; have kl_4 := kl.cell 4; have kl_f4 := kl.frozen 4; have kl_5 := kl.cell 5; have kl_f5 := kl.frozen 5; have kl_6 := kl.cell 6; have kl_f6 := kl.frozen 6; have kl_7 := kl.cell 7; have kl_f7 := kl.frozen 7; have kl_8 := kl.cell 8; have kl_f8 := kl.frozen 8; simp only [List.set_cons_zero, List.set_cons_succ, List.getElem?_cons_zero, List.getElem?_cons_succ] at kl_0 kl_1 kl_2 kl_3 kl_4 kl_5 kl_6 kl_7 kl_8; have lt_kl := kl.lt
  replace hm := hm.step hb
  have hlt := q0.lt
  go_wp2_with fail
  go_loopw [8] (fun i wr => ∃ k : Nat, k ≤ 3 ∧ i = .int .i64 k ∧ (0 < k → n.size ≤ 50 ∧ h.size ≤ 50 ∧ r.size ≤ 50) ∧ (1 < k → n2.size ≤ 50 ∧ h2.size ≤ 50 ∧ r2.size ≤ 50) ∧ (2 < k → n3.size ≤ 50 ∧ h3.size ≤ 50 ∧ r3.size ≤ 50) ∧ wr = w1) (fun i _ => 3 - (intOf i).toNat)
  case atStart => exact ⟨0, by omega, rfl, by omega, by omega, by omega, rfl⟩
  case round =>
    obtain ⟨k, hk, rfl, l0, l1, l2, rfl⟩ := hrel
    by_cases hk3 : k = 3
    case pos =>
      subst hk3
      clear l0 l1 l2
      (try clear kl_0 kl_f0 kl_1 kl_f1 kl_2 kl_f2 kl_3 kl_f3 kl_4 kl_f4 kl_5 kl_f5 kl_6 kl_f6 kl_7 kl_f7 kl_8 kl_f8 lt_kl)
      clear kl hlt
      unfold aC at q0 q1 q2
      have q0_0 := q0.cell 0; have q0_f0 := q0.frozen 0; have q0_1 := q0.cell 1; have q0_f1 := q0.frozen 1; have q0_2 := q0.cell 2; have q0_f2 := q0.frozen 2; simp only [List.set_cons_zero, List.set_cons_succ, List.getElem?_cons_zero, List.getElem?_cons_succ] at q0_0 q0_1 q0_2; have lt_q0 := q0.lt; have q1_0 := q1.cell 0; have q1_f0 := q1.frozen 0; have q1_1 := q1.cell 1; have q1_f1 := q1.frozen 1; have q1_2 := q1.cell 2; have q1_f2 := q1.frozen 2; simp only [List.set_cons_zero, List.set_cons_succ, List.getElem?_cons_zero, List.getElem?_cons_succ] at q1_0 q1_1 q1_2; have lt_q1 := q1.lt; have q2_0 := q2.cell 0; have q2_f0 := q2.frozen 0; have q2_1 := q2.cell 1; have q2_f1 := q2.frozen 1; have q2_2 := q2.cell 2; have q2_f2 := q2.frozen 2; simp only [List.set_cons_zero, List.set_cons_succ, List.getElem?_cons_zero, List.getElem?_cons_succ] at q2_0 q2_1 q2_2; have lt_q2 := q2.lt
      go_upto_region 7 with fail
      go_cut [9, 10, 11] (fun p q t w' => ∃ g g' g2 : Nat, p = .pointer (some ⟨g, 0, none⟩) ∧ q = .pointer (some ⟨g', 0, none⟩) ∧ t = .pointer (some ⟨g2, 0, none⟩) ∧ Bk w' g 24 (aC n h r) ∧ Bk w' g' 24 (aC n2 h2 r2) ∧ Bk w' g2 24 (aC n3 h3 r3) ∧ Below wr.heap.size wr w')
      case first =>
        have HS : Hid (∀ w' : World, Below (wr.heap.size) wr w' → (w'.cell? ⟨w.heap.size, 0, none⟩ = some (.string n) ∧ w'.cell? ⟨w.heap.size, 1, none⟩ = some (.string h) ∧ w'.cell? ⟨w.heap.size, 2, none⟩ = some (.string r) ∧ w'.cell? ⟨w.heap.size + 1, 0, none⟩ = some (.string n2) ∧ w'.cell? ⟨w.heap.size + 1, 1, none⟩ = some (.string h2) ∧ w'.cell? ⟨w.heap.size + 1, 2, none⟩ = some (.string r2) ∧ w'.cell? ⟨w.heap.size + 1 + 1, 0, none⟩ = some (.string n3) ∧ w'.cell? ⟨w.heap.size + 1 + 1, 1, none⟩ = some (.string h3) ∧ w'.cell? ⟨w.heap.size + 1 + 1, 2, none⟩ = some (.string r3)) ∧ wr.heap.size ≤ w'.heap.size ∧ Below (wr.heap.size) wr w') := fun w' hB => ⟨⟨(hB.cell (p := ⟨w.heap.size, 0, none⟩) (by dsimp only; omega)).trans (q0_0), (hB.cell (p := ⟨w.heap.size, 1, none⟩) (by dsimp only; omega)).trans (q0_1), (hB.cell (p := ⟨w.heap.size, 2, none⟩) (by dsimp only; omega)).trans (q0_2), (hB.cell (p := ⟨w.heap.size + 1, 0, none⟩) (by dsimp only; omega)).trans (q1_0), (hB.cell (p := ⟨w.heap.size + 1, 1, none⟩) (by dsimp only; omega)).trans (q1_1), (hB.cell (p := ⟨w.heap.size + 1, 2, none⟩) (by dsimp only; omega)).trans (q1_2), (hB.cell (p := ⟨w.heap.size + 1 + 1, 0, none⟩) (by dsimp only; omega)).trans (q2_0), (hB.cell (p := ⟨w.heap.size + 1 + 1, 1, none⟩) (by dsimp only; omega)).trans (q2_1), (hB.cell (p := ⟨w.heap.size + 1 + 1, 2, none⟩) (by dsimp only; omega)).trans (q2_2)⟩, hB.size, hB⟩; go_region_held3 (fun w' => (w'.cell? ⟨w.heap.size, 0, none⟩ = some (.string n) ∧ w'.cell? ⟨w.heap.size, 1, none⟩ = some (.string h) ∧ w'.cell? ⟨w.heap.size, 2, none⟩ = some (.string r) ∧ w'.cell? ⟨w.heap.size + 1, 0, none⟩ = some (.string n2) ∧ w'.cell? ⟨w.heap.size + 1, 1, none⟩ = some (.string h2) ∧ w'.cell? ⟨w.heap.size + 1, 2, none⟩ = some (.string r2) ∧ w'.cell? ⟨w.heap.size + 1 + 1, 0, none⟩ = some (.string n3) ∧ w'.cell? ⟨w.heap.size + 1 + 1, 1, none⟩ = some (.string h3) ∧ w'.cell? ⟨w.heap.size + 1 + 1, 2, none⟩ = some (.string r3)) ∧ wr.heap.size ≤ w'.heap.size ∧ Below (wr.heap.size) wr w') ((go_split_ands; exact HS.out _ (by (repeat (first | with_reducible exact Below.refl _ _ | with_reducible assumption | with_reducible refine Below.drew ?_ | with_reducible refine Below.drewN ?_ _ | with_reducible refine Below.alloc ?_ (by first | omega | (simp; done) | (simp; omega)) _ | with_reducible refine Below.setCell ?_ (by first | omega | (simp; done) | (simp; omega)) _ | with_reducible refine Below.then_ ?_ (by with_reducible assumption) (by first | omega | (simp; done) | (simp; omega))))))) ((fail))
        all_goals (go_wp2_with fail)
        all_goals go_meet
        all_goals refine ⟨_, _, _, rfl, rfl, rfl, ?_, ?_, ?_, ?_⟩
        all_goals first
          | (show Bk _ _ _ [_, _, _]
             (repeat (first
               | (with_reducible refine Bk.new' _ _ _ _ ?_; simp; done)
               | with_reducible assumption
               | with_reducible refine Bk.alloc ?_ _
               | with_reducible refine Bk.drew ?_
               | with_reducible refine Bk.drewN ?_ _
               | with_reducible refine bk_set3 _ _ _ ?_
               | (with_reducible refine Bk.far ?_ ?_ _; rotate_left; (focus (first | omega | (dsimp only; omega) | (simp; done) | (simp; omega))))
               | with_reducible refine Bk.step ?_ (by with_reducible assumption)))
             done)
          | (repeat (first | with_reducible exact Below.refl _ _ | with_reducible assumption | with_reducible refine Below.drew ?_ | with_reducible refine Below.drewN ?_ _ | with_reducible refine Below.alloc1 ?_ _ | with_reducible refine Below.setCell1 ?_ (by first | omega | (simp; done) | (simp; omega)) _ | with_reducible refine Below.step ?_ (by with_reducible assumption)))
      case rest =>
        obtain ⟨g, g', g2, rfl, rfl, rfl, kg, kh, ki, hbc⟩ := hcut
        (try clear q0_0 q0_f0 q0_1 q0_f1 q0_2 q0_f2 lt_q0) ; (try clear q1_0 q1_f0 q1_1 q1_f1 q1_2 q1_f2 lt_q1) ; (try clear q2_0 q2_f0 q2_1 q2_f1 q2_2 q2_f2 lt_q2)
        clear q0 q1 q2
        replace hb := hb.step hbc
        replace hm := hm.step hbc
        clear hbc
        unfold aC at kg kh ki
        have kg_0 := kg.cell 0; have kg_f0 := kg.frozen 0; have kg_1 := kg.cell 1; have kg_f1 := kg.frozen 1; have kg_2 := kg.cell 2; have kg_f2 := kg.frozen 2; simp only [List.set_cons_zero, List.set_cons_succ, List.getElem?_cons_zero, List.getElem?_cons_succ] at kg_0 kg_1 kg_2; have lt_kg := kg.lt; have kh_0 := kh.cell 0; have kh_f0 := kh.frozen 0; have kh_1 := kh.cell 1; have kh_f1 := kh.frozen 1; have kh_2 := kh.cell 2; have kh_f2 := kh.frozen 2; simp only [List.set_cons_zero, List.set_cons_succ, List.getElem?_cons_zero, List.getElem?_cons_succ] at kh_0 kh_1 kh_2; have lt_kh := kh.lt; have ki_0 := ki.cell 0; have ki_f0 := ki.frozen 0; have ki_1 := ki.cell 1; have ki_f1 := ki.frozen 1; have ki_2 := ki.cell 2; have ki_f2 := ki.frozen 2; simp only [List.set_cons_zero, List.set_cons_succ, List.getElem?_cons_zero, List.getElem?_cons_succ] at ki_0 ki_1 ki_2; have lt_ki := ki.lt
        have l12 := fun W => addr_Less_any n h r n2 h2 r2 W
        have l21 := fun W => addr_Less_any n2 h2 r2 n h r W
        have l11 := fun W => addr_Less_any n h r n h r W
        have l23 := fun W => addr_Less_any n2 h2 r2 n3 h3 r3 W
        have l13 := fun W => addr_Less_any n h r n3 h3 r3 W
        have s12 := fun W => addr_Same_any n h r n2 h2 r2 W
        have law := order_law (n.data.toList, h.data.toList, r.data.toList) (n2.data.toList, h2.data.toList, r2.data.toList) (n3.data.toList, h3.data.toList, r3.data.toList)
        dsimp only at law
        rw [aLess_irr] at l11
        generalize aLess (n.data.toList, h.data.toList, r.data.toList) (n2.data.toList, h2.data.toList, r2.data.toList) = A at *
        generalize aLess (n2.data.toList, h2.data.toList, r2.data.toList) (n.data.toList, h.data.toList, r.data.toList) = B at *
        generalize aLess (n2.data.toList, h2.data.toList, r2.data.toList) (n3.data.toList, h3.data.toList, r3.data.toList) = C at *
        generalize aLess (n.data.toList, h.data.toList, r.data.toList) (n3.data.toList, h3.data.toList, r3.data.toList) = E at *
        generalize decide (n.data.toList = n2.data.toList ∧ h.data.toList = h2.data.toList ∧ r.data.toList = r2.data.toList) = D at *
        unfold aV at *
        obtain ⟨la, lb, lc⟩ := law
        go_wp2_with fail
        (refine wp_region_qb (by kernel_rfl) (by kernel_rfl) (fun kq => ?_); (try dsimp only [List.append]); (repeat (go_big_quiet_step (((go_at_call 22; first | with_reducible exact (l12 _).qb | with_reducible exact (l21 _).qb))))); refine wpQuiet_nil ?_; intro wq hwq; have hbq := below_of_class hwq; clear hwq kq)
        replace hb := hb.step hbq
        replace hm := hm.step hbq
        replace kg := kg.step hbq; (try clear kg_0 kg_f0 kg_1 kg_f1 kg_2 kg_f2); have kg_0 := kg.cell 0; have kg_f0 := kg.frozen 0; have kg_1 := kg.cell 1; have kg_f1 := kg.frozen 1; have kg_2 := kg.cell 2; have kg_f2 := kg.frozen 2; simp only [List.set_cons_zero, List.set_cons_succ, List.getElem?_cons_zero, List.getElem?_cons_succ] at kg_0 kg_1 kg_2; (try clear lt_kg); have lt_kg := kg.lt; replace kh := kh.step hbq; (try clear kh_0 kh_f0 kh_1 kh_f1 kh_2 kh_f2); have kh_0 := kh.cell 0; have kh_f0 := kh.frozen 0; have kh_1 := kh.cell 1; have kh_f1 := kh.frozen 1; have kh_2 := kh.cell 2; have kh_f2 := kh.frozen 2; simp only [List.set_cons_zero, List.set_cons_succ, List.getElem?_cons_zero, List.getElem?_cons_succ] at kh_0 kh_1 kh_2; (try clear lt_kh); have lt_kh := kh.lt; replace ki := ki.step hbq; (try clear ki_0 ki_f0 ki_1 ki_f1 ki_2 ki_f2); have ki_0 := ki.cell 0; have ki_f0 := ki.frozen 0; have ki_1 := ki.cell 1; have ki_f1 := ki.frozen 1; have ki_2 := ki.cell 2; have ki_f2 := ki.frozen 2; simp only [List.set_cons_zero, List.set_cons_succ, List.getElem?_cons_zero, List.getElem?_cons_succ] at ki_0 ki_1 ki_2; (try clear lt_ki); have lt_ki := ki.lt
        clear hbq l12 l21
        rcases A with _ | _
        · rcases B with _ | _
          · obtain rfl : D = true := by simpa using lb
            clear la lb lc
            go_wp2_with fail
            refine (s12 _).mono ?_; rintro e v1 ⟨rfl, hx⟩
            replace hb := hb.step hx
            replace hm := hm.step hx
            replace kg := kg.step hx; (try clear kg_0 kg_f0 kg_1 kg_f1 kg_2 kg_f2); have kg_0 := kg.cell 0; have kg_f0 := kg.frozen 0; have kg_1 := kg.cell 1; have kg_f1 := kg.frozen 1; have kg_2 := kg.cell 2; have kg_f2 := kg.frozen 2; simp only [List.set_cons_zero, List.set_cons_succ, List.getElem?_cons_zero, List.getElem?_cons_succ] at kg_0 kg_1 kg_2; (try clear lt_kg); have lt_kg := kg.lt; replace kh := kh.step hx; (try clear kh_0 kh_f0 kh_1 kh_f1 kh_2 kh_f2); have kh_0 := kh.cell 0; have kh_f0 := kh.frozen 0; have kh_1 := kh.cell 1; have kh_f1 := kh.frozen 1; have kh_2 := kh.cell 2; have kh_f2 := kh.frozen 2; simp only [List.set_cons_zero, List.set_cons_succ, List.getElem?_cons_zero, List.getElem?_cons_succ] at kh_0 kh_1 kh_2; (try clear lt_kh); have lt_kh := kh.lt; replace ki := ki.step hx; (try clear ki_0 ki_f0 ki_1 ki_f1 ki_2 ki_f2); have ki_0 := ki.cell 0; have ki_f0 := ki.frozen 0; have ki_1 := ki.cell 1; have ki_f1 := ki.frozen 1; have ki_2 := ki.cell 2; have ki_f2 := ki.frozen 2; simp only [List.set_cons_zero, List.set_cons_succ, List.getElem?_cons_zero, List.getElem?_cons_succ] at ki_0 ki_1 ki_2; (try clear lt_ki); have lt_ki := ki.lt
            clear hx
            go_wp2_with fail
            refine (l11 _).mono ?_; rintro e v2 ⟨rfl, hx⟩
            replace hb := hb.step hx
            replace hm := hm.step hx
            replace kg := kg.step hx; (try clear kg_0 kg_f0 kg_1 kg_f1 kg_2 kg_f2); have kg_0 := kg.cell 0; have kg_f0 := kg.frozen 0; have kg_1 := kg.cell 1; have kg_f1 := kg.frozen 1; have kg_2 := kg.cell 2; have kg_f2 := kg.frozen 2; simp only [List.set_cons_zero, List.set_cons_succ, List.getElem?_cons_zero, List.getElem?_cons_succ] at kg_0 kg_1 kg_2; (try clear lt_kg); have lt_kg := kg.lt; replace kh := kh.step hx; (try clear kh_0 kh_f0 kh_1 kh_f1 kh_2 kh_f2); have kh_0 := kh.cell 0; have kh_f0 := kh.frozen 0; have kh_1 := kh.cell 1; have kh_f1 := kh.frozen 1; have kh_2 := kh.cell 2; have kh_f2 := kh.frozen 2; simp only [List.set_cons_zero, List.set_cons_succ, List.getElem?_cons_zero, List.getElem?_cons_succ] at kh_0 kh_1 kh_2; (try clear lt_kh); have lt_kh := kh.lt; replace ki := ki.step hx; (try clear ki_0 ki_f0 ki_1 ki_f1 ki_2 ki_f2); have ki_0 := ki.cell 0; have ki_f0 := ki.frozen 0; have ki_1 := ki.cell 1; have ki_f1 := ki.frozen 1; have ki_2 := ki.cell 2; have ki_f2 := ki.frozen 2; simp only [List.set_cons_zero, List.set_cons_succ, List.getElem?_cons_zero, List.getElem?_cons_succ] at ki_0 ki_1 ki_2; (try clear lt_ki); have lt_ki := ki.lt
            clear hx
            go_wp2_with fail
            refine (awake09 _ hm).mono ?_; rintro e v3 ⟨rfl, hx⟩
            replace hb := hb.step hx
            replace hm := hm.step hx
            replace kg := kg.step hx; (try clear kg_0 kg_f0 kg_1 kg_f1 kg_2 kg_f2); have kg_0 := kg.cell 0; have kg_f0 := kg.frozen 0; have kg_1 := kg.cell 1; have kg_f1 := kg.frozen 1; have kg_2 := kg.cell 2; have kg_f2 := kg.frozen 2; simp only [List.set_cons_zero, List.set_cons_succ, List.getElem?_cons_zero, List.getElem?_cons_succ] at kg_0 kg_1 kg_2; (try clear lt_kg); have lt_kg := kg.lt; replace kh := kh.step hx; (try clear kh_0 kh_f0 kh_1 kh_f1 kh_2 kh_f2); have kh_0 := kh.cell 0; have kh_f0 := kh.frozen 0; have kh_1 := kh.cell 1; have kh_f1 := kh.frozen 1; have kh_2 := kh.cell 2; have kh_f2 := kh.frozen 2; simp only [List.set_cons_zero, List.set_cons_succ, List.getElem?_cons_zero, List.getElem?_cons_succ] at kh_0 kh_1 kh_2; (try clear lt_kh); have lt_kh := kh.lt; replace ki := ki.step hx; (try clear ki_0 ki_f0 ki_1 ki_f1 ki_2 ki_f2); have ki_0 := ki.cell 0; have ki_f0 := ki.frozen 0; have ki_1 := ki.cell 1; have ki_f1 := ki.frozen 1; have ki_2 := ki.cell 2; have ki_f2 := ki.frozen 2; simp only [List.set_cons_zero, List.set_cons_succ, List.getElem?_cons_zero, List.getElem?_cons_succ] at ki_0 ki_1 ki_2; (try clear lt_ki); have lt_ki := ki.lt
            clear hx
            go_wp2_with fail
            go_ret
            exact ⟨rfl, hb⟩
          · obtain rfl : D = false := by simpa using lb
            clear la lb lc
            go_wp2_with fail
            refine (s12 _).mono ?_; rintro e v1 ⟨rfl, hx⟩
            replace hb := hb.step hx
            replace hm := hm.step hx
            replace kg := kg.step hx; (try clear kg_0 kg_f0 kg_1 kg_f1 kg_2 kg_f2); have kg_0 := kg.cell 0; have kg_f0 := kg.frozen 0; have kg_1 := kg.cell 1; have kg_f1 := kg.frozen 1; have kg_2 := kg.cell 2; have kg_f2 := kg.frozen 2; simp only [List.set_cons_zero, List.set_cons_succ, List.getElem?_cons_zero, List.getElem?_cons_succ] at kg_0 kg_1 kg_2; (try clear lt_kg); have lt_kg := kg.lt; replace kh := kh.step hx; (try clear kh_0 kh_f0 kh_1 kh_f1 kh_2 kh_f2); have kh_0 := kh.cell 0; have kh_f0 := kh.frozen 0; have kh_1 := kh.cell 1; have kh_f1 := kh.frozen 1; have kh_2 := kh.cell 2; have kh_f2 := kh.frozen 2; simp only [List.set_cons_zero, List.set_cons_succ, List.getElem?_cons_zero, List.getElem?_cons_succ] at kh_0 kh_1 kh_2; (try clear lt_kh); have lt_kh := kh.lt; replace ki := ki.step hx; (try clear ki_0 ki_f0 ki_1 ki_f1 ki_2 ki_f2); have ki_0 := ki.cell 0; have ki_f0 := ki.frozen 0; have ki_1 := ki.cell 1; have ki_f1 := ki.frozen 1; have ki_2 := ki.cell 2; have ki_f2 := ki.frozen 2; simp only [List.set_cons_zero, List.set_cons_succ, List.getElem?_cons_zero, List.getElem?_cons_succ] at ki_0 ki_1 ki_2; (try clear lt_ki); have lt_ki := ki.lt
            clear hx
            go_wp2_with fail
            refine (l11 _).mono ?_; rintro e v2 ⟨rfl, hx⟩
            replace hb := hb.step hx
            replace hm := hm.step hx
            replace kg := kg.step hx; (try clear kg_0 kg_f0 kg_1 kg_f1 kg_2 kg_f2); have kg_0 := kg.cell 0; have kg_f0 := kg.frozen 0; have kg_1 := kg.cell 1; have kg_f1 := kg.frozen 1; have kg_2 := kg.cell 2; have kg_f2 := kg.frozen 2; simp only [List.set_cons_zero, List.set_cons_succ, List.getElem?_cons_zero, List.getElem?_cons_succ] at kg_0 kg_1 kg_2; (try clear lt_kg); have lt_kg := kg.lt; replace kh := kh.step hx; (try clear kh_0 kh_f0 kh_1 kh_f1 kh_2 kh_f2); have kh_0 := kh.cell 0; have kh_f0 := kh.frozen 0; have kh_1 := kh.cell 1; have kh_f1 := kh.frozen 1; have kh_2 := kh.cell 2; have kh_f2 := kh.frozen 2; simp only [List.set_cons_zero, List.set_cons_succ, List.getElem?_cons_zero, List.getElem?_cons_succ] at kh_0 kh_1 kh_2; (try clear lt_kh); have lt_kh := kh.lt; replace ki := ki.step hx; (try clear ki_0 ki_f0 ki_1 ki_f1 ki_2 ki_f2); have ki_0 := ki.cell 0; have ki_f0 := ki.frozen 0; have ki_1 := ki.cell 1; have ki_f1 := ki.frozen 1; have ki_2 := ki.cell 2; have ki_f2 := ki.frozen 2; simp only [List.set_cons_zero, List.set_cons_succ, List.getElem?_cons_zero, List.getElem?_cons_succ] at ki_0 ki_1 ki_2; (try clear lt_ki); have lt_ki := ki.lt
            clear hx
            go_wp2_with fail
            refine (awake09 _ hm).mono ?_; rintro e v3 ⟨rfl, hx⟩
            replace hb := hb.step hx
            replace hm := hm.step hx
            replace kg := kg.step hx; (try clear kg_0 kg_f0 kg_1 kg_f1 kg_2 kg_f2); have kg_0 := kg.cell 0; have kg_f0 := kg.frozen 0; have kg_1 := kg.cell 1; have kg_f1 := kg.frozen 1; have kg_2 := kg.cell 2; have kg_f2 := kg.frozen 2; simp only [List.set_cons_zero, List.set_cons_succ, List.getElem?_cons_zero, List.getElem?_cons_succ] at kg_0 kg_1 kg_2; (try clear lt_kg); have lt_kg := kg.lt; replace kh := kh.step hx; (try clear kh_0 kh_f0 kh_1 kh_f1 kh_2 kh_f2); have kh_0 := kh.cell 0; have kh_f0 := kh.frozen 0; have kh_1 := kh.cell 1; have kh_f1 := kh.frozen 1; have kh_2 := kh.cell 2; have kh_f2 := kh.frozen 2; simp only [List.set_cons_zero, List.set_cons_succ, List.getElem?_cons_zero, List.getElem?_cons_succ] at kh_0 kh_1 kh_2; (try clear lt_kh); have lt_kh := kh.lt; replace ki := ki.step hx; (try clear ki_0 ki_f0 ki_1 ki_f1 ki_2 ki_f2); have ki_0 := ki.cell 0; have ki_f0 := ki.frozen 0; have ki_1 := ki.cell 1; have ki_f1 := ki.frozen 1; have ki_2 := ki.cell 2; have ki_f2 := ki.frozen 2; simp only [List.set_cons_zero, List.set_cons_succ, List.getElem?_cons_zero, List.getElem?_cons_succ] at ki_0 ki_1 ki_2; (try clear lt_ki); have lt_ki := ki.lt
            clear hx
            go_wp2_with fail
            go_ret
            exact ⟨rfl, hb⟩
        · obtain rfl : B = false := by simpa using la
          obtain rfl : D = false := by simpa using lb
          rcases C with _ | _
          · clear la lb lc
            go_wp2_with fail
            refine (s12 _).mono ?_; rintro e v1 ⟨rfl, hx⟩
            replace hb := hb.step hx
            replace hm := hm.step hx
            replace kg := kg.step hx; (try clear kg_0 kg_f0 kg_1 kg_f1 kg_2 kg_f2); have kg_0 := kg.cell 0; have kg_f0 := kg.frozen 0; have kg_1 := kg.cell 1; have kg_f1 := kg.frozen 1; have kg_2 := kg.cell 2; have kg_f2 := kg.frozen 2; simp only [List.set_cons_zero, List.set_cons_succ, List.getElem?_cons_zero, List.getElem?_cons_succ] at kg_0 kg_1 kg_2; (try clear lt_kg); have lt_kg := kg.lt; replace kh := kh.step hx; (try clear kh_0 kh_f0 kh_1 kh_f1 kh_2 kh_f2); have kh_0 := kh.cell 0; have kh_f0 := kh.frozen 0; have kh_1 := kh.cell 1; have kh_f1 := kh.frozen 1; have kh_2 := kh.cell 2; have kh_f2 := kh.frozen 2; simp only [List.set_cons_zero, List.set_cons_succ, List.getElem?_cons_zero, List.getElem?_cons_succ] at kh_0 kh_1 kh_2; (try clear lt_kh); have lt_kh := kh.lt; replace ki := ki.step hx; (try clear ki_0 ki_f0 ki_1 ki_f1 ki_2 ki_f2); have ki_0 := ki.cell 0; have ki_f0 := ki.frozen 0; have ki_1 := ki.cell 1; have ki_f1 := ki.frozen 1; have ki_2 := ki.cell 2; have ki_f2 := ki.frozen 2; simp only [List.set_cons_zero, List.set_cons_succ, List.getElem?_cons_zero, List.getElem?_cons_succ] at ki_0 ki_1 ki_2; (try clear lt_ki); have lt_ki := ki.lt
            clear hx
            go_wp2_with fail
            refine (l11 _).mono ?_; rintro e v2 ⟨rfl, hx⟩
            replace hb := hb.step hx
            replace hm := hm.step hx
            replace kg := kg.step hx; (try clear kg_0 kg_f0 kg_1 kg_f1 kg_2 kg_f2); have kg_0 := kg.cell 0; have kg_f0 := kg.frozen 0; have kg_1 := kg.cell 1; have kg_f1 := kg.frozen 1; have kg_2 := kg.cell 2; have kg_f2 := kg.frozen 2; simp only [List.set_cons_zero, List.set_cons_succ, List.getElem?_cons_zero, List.getElem?_cons_succ] at kg_0 kg_1 kg_2; (try clear lt_kg); have lt_kg := kg.lt; replace kh := kh.step hx; (try clear kh_0 kh_f0 kh_1 kh_f1 kh_2 kh_f2); have kh_0 := kh.cell 0; have kh_f0 := kh.frozen 0; have kh_1 := kh.cell 1; have kh_f1 := kh.frozen 1; have kh_2 := kh.cell 2; have kh_f2 := kh.frozen 2; simp only [List.set_cons_zero, List.set_cons_succ, List.getElem?_cons_zero, List.getElem?_cons_succ] at kh_0 kh_1 kh_2; (try clear lt_kh); have lt_kh := kh.lt; replace ki := ki.step hx; (try clear ki_0 ki_f0 ki_1 ki_f1 ki_2 ki_f2); have ki_0 := ki.cell 0; have ki_f0 := ki.frozen 0; have ki_1 := ki.cell 1; have ki_f1 := ki.frozen 1; have ki_2 := ki.cell 2; have ki_f2 := ki.frozen 2; simp only [List.set_cons_zero, List.set_cons_succ, List.getElem?_cons_zero, List.getElem?_cons_succ] at ki_0 ki_1 ki_2; (try clear lt_ki); have lt_ki := ki.lt
            clear hx
            go_wp2_with fail
            refine (l23 _).mono ?_; rintro e v3 ⟨rfl, hx⟩
            replace hb := hb.step hx
            replace hm := hm.step hx
            replace kg := kg.step hx; (try clear kg_0 kg_f0 kg_1 kg_f1 kg_2 kg_f2); have kg_0 := kg.cell 0; have kg_f0 := kg.frozen 0; have kg_1 := kg.cell 1; have kg_f1 := kg.frozen 1; have kg_2 := kg.cell 2; have kg_f2 := kg.frozen 2; simp only [List.set_cons_zero, List.set_cons_succ, List.getElem?_cons_zero, List.getElem?_cons_succ] at kg_0 kg_1 kg_2; (try clear lt_kg); have lt_kg := kg.lt; replace kh := kh.step hx; (try clear kh_0 kh_f0 kh_1 kh_f1 kh_2 kh_f2); have kh_0 := kh.cell 0; have kh_f0 := kh.frozen 0; have kh_1 := kh.cell 1; have kh_f1 := kh.frozen 1; have kh_2 := kh.cell 2; have kh_f2 := kh.frozen 2; simp only [List.set_cons_zero, List.set_cons_succ, List.getElem?_cons_zero, List.getElem?_cons_succ] at kh_0 kh_1 kh_2; (try clear lt_kh); have lt_kh := kh.lt; replace ki := ki.step hx; (try clear ki_0 ki_f0 ki_1 ki_f1 ki_2 ki_f2); have ki_0 := ki.cell 0; have ki_f0 := ki.frozen 0; have ki_1 := ki.cell 1; have ki_f1 := ki.frozen 1; have ki_2 := ki.cell 2; have ki_f2 := ki.frozen 2; simp only [List.set_cons_zero, List.set_cons_succ, List.getElem?_cons_zero, List.getElem?_cons_succ] at ki_0 ki_1 ki_2; (try clear lt_ki); have lt_ki := ki.lt
            clear hx
            go_wp2_with fail
            refine (awake09 _ hm).mono ?_; rintro e v4 ⟨rfl, hx⟩
            replace hb := hb.step hx
            replace hm := hm.step hx
            replace kg := kg.step hx; (try clear kg_0 kg_f0 kg_1 kg_f1 kg_2 kg_f2); have kg_0 := kg.cell 0; have kg_f0 := kg.frozen 0; have kg_1 := kg.cell 1; have kg_f1 := kg.frozen 1; have kg_2 := kg.cell 2; have kg_f2 := kg.frozen 2; simp only [List.set_cons_zero, List.set_cons_succ, List.getElem?_cons_zero, List.getElem?_cons_succ] at kg_0 kg_1 kg_2; (try clear lt_kg); have lt_kg := kg.lt; replace kh := kh.step hx; (try clear kh_0 kh_f0 kh_1 kh_f1 kh_2 kh_f2); have kh_0 := kh.cell 0; have kh_f0 := kh.frozen 0; have kh_1 := kh.cell 1; have kh_f1 := kh.frozen 1; have kh_2 := kh.cell 2; have kh_f2 := kh.frozen 2; simp only [List.set_cons_zero, List.set_cons_succ, List.getElem?_cons_zero, List.getElem?_cons_succ] at kh_0 kh_1 kh_2; (try clear lt_kh); have lt_kh := kh.lt; replace ki := ki.step hx; (try clear ki_0 ki_f0 ki_1 ki_f1 ki_2 ki_f2); have ki_0 := ki.cell 0; have ki_f0 := ki.frozen 0; have ki_1 := ki.cell 1; have ki_f1 := ki.frozen 1; have ki_2 := ki.cell 2; have ki_f2 := ki.frozen 2; simp only [List.set_cons_zero, List.set_cons_succ, List.getElem?_cons_zero, List.getElem?_cons_succ] at ki_0 ki_1 ki_2; (try clear lt_ki); have lt_ki := ki.lt
            clear hx
            go_wp2_with fail
            go_ret
            exact ⟨rfl, hb⟩
          · obtain rfl : E = true := by simpa using lc
            clear la lb lc
            go_wp2_with fail
            refine (s12 _).mono ?_; rintro e v1 ⟨rfl, hx⟩
            replace hb := hb.step hx
            replace hm := hm.step hx
            replace kg := kg.step hx; (try clear kg_0 kg_f0 kg_1 kg_f1 kg_2 kg_f2); have kg_0 := kg.cell 0; have kg_f0 := kg.frozen 0; have kg_1 := kg.cell 1; have kg_f1 := kg.frozen 1; have kg_2 := kg.cell 2; have kg_f2 := kg.frozen 2; simp only [List.set_cons_zero, List.set_cons_succ, List.getElem?_cons_zero, List.getElem?_cons_succ] at kg_0 kg_1 kg_2; (try clear lt_kg); have lt_kg := kg.lt; replace kh := kh.step hx; (try clear kh_0 kh_f0 kh_1 kh_f1 kh_2 kh_f2); have kh_0 := kh.cell 0; have kh_f0 := kh.frozen 0; have kh_1 := kh.cell 1; have kh_f1 := kh.frozen 1; have kh_2 := kh.cell 2; have kh_f2 := kh.frozen 2; simp only [List.set_cons_zero, List.set_cons_succ, List.getElem?_cons_zero, List.getElem?_cons_succ] at kh_0 kh_1 kh_2; (try clear lt_kh); have lt_kh := kh.lt; replace ki := ki.step hx; (try clear ki_0 ki_f0 ki_1 ki_f1 ki_2 ki_f2); have ki_0 := ki.cell 0; have ki_f0 := ki.frozen 0; have ki_1 := ki.cell 1; have ki_f1 := ki.frozen 1; have ki_2 := ki.cell 2; have ki_f2 := ki.frozen 2; simp only [List.set_cons_zero, List.set_cons_succ, List.getElem?_cons_zero, List.getElem?_cons_succ] at ki_0 ki_1 ki_2; (try clear lt_ki); have lt_ki := ki.lt
            clear hx
            go_wp2_with fail
            refine (l11 _).mono ?_; rintro e v2 ⟨rfl, hx⟩
            replace hb := hb.step hx
            replace hm := hm.step hx
            replace kg := kg.step hx; (try clear kg_0 kg_f0 kg_1 kg_f1 kg_2 kg_f2); have kg_0 := kg.cell 0; have kg_f0 := kg.frozen 0; have kg_1 := kg.cell 1; have kg_f1 := kg.frozen 1; have kg_2 := kg.cell 2; have kg_f2 := kg.frozen 2; simp only [List.set_cons_zero, List.set_cons_succ, List.getElem?_cons_zero, List.getElem?_cons_succ] at kg_0 kg_1 kg_2; (try clear lt_kg); have lt_kg := kg.lt; replace kh := kh.step hx; (try clear kh_0 kh_f0 kh_1 kh_f1 kh_2 kh_f2); have kh_0 := kh.cell 0; have kh_f0 := kh.frozen 0; have kh_1 := kh.cell 1; have kh_f1 := kh.frozen 1; have kh_2 := kh.cell 2; have kh_f2 := kh.frozen 2; simp only [List.set_cons_zero, List.set_cons_succ, List.getElem?_cons_zero, List.getElem?_cons_succ] at kh_0 kh_1 kh_2; (try clear lt_kh); have lt_kh := kh.lt; replace ki := ki.step hx; (try clear ki_0 ki_f0 ki_1 ki_f1 ki_2 ki_f2); have ki_0 := ki.cell 0; have ki_f0 := ki.frozen 0; have ki_1 := ki.cell 1; have ki_f1 := ki.frozen 1; have ki_2 := ki.cell 2; have ki_f2 := ki.frozen 2; simp only [List.set_cons_zero, List.set_cons_succ, List.getElem?_cons_zero, List.getElem?_cons_succ] at ki_0 ki_1 ki_2; (try clear lt_ki); have lt_ki := ki.lt
            clear hx
            go_wp2_with fail
            refine (l23 _).mono ?_; rintro e v3 ⟨rfl, hx⟩
            replace hb := hb.step hx
            replace hm := hm.step hx
            replace kg := kg.step hx; (try clear kg_0 kg_f0 kg_1 kg_f1 kg_2 kg_f2); have kg_0 := kg.cell 0; have kg_f0 := kg.frozen 0; have kg_1 := kg.cell 1; have kg_f1 := kg.frozen 1; have kg_2 := kg.cell 2; have kg_f2 := kg.frozen 2; simp only [List.set_cons_zero, List.set_cons_succ, List.getElem?_cons_zero, List.getElem?_cons_succ] at kg_0 kg_1 kg_2; (try clear lt_kg); have lt_kg := kg.lt; replace kh := kh.step hx; (try clear kh_0 kh_f0 kh_1 kh_f1 kh_2 kh_f2); have kh_0 := kh.cell 0; have kh_f0 := kh.frozen 0; have kh_1 := kh.cell 1; have kh_f1 := kh.frozen 1; have kh_2 := kh.cell 2; have kh_f2 := kh.frozen 2; simp only [List.set_cons_zero, List.set_cons_succ, List.getElem?_cons_zero, List.getElem?_cons_succ] at kh_0 kh_1 kh_2; (try clear lt_kh); have lt_kh := kh.lt; replace ki := ki.step hx; (try clear ki_0 ki_f0 ki_1 ki_f1 ki_2 ki_f2); have ki_0 := ki.cell 0; have ki_f0 := ki.frozen 0; have ki_1 := ki.cell 1; have ki_f1 := ki.frozen 1; have ki_2 := ki.cell 2; have ki_f2 := ki.frozen 2; simp only [List.set_cons_zero, List.set_cons_succ, List.getElem?_cons_zero, List.getElem?_cons_succ] at ki_0 ki_1 ki_2; (try clear lt_ki); have lt_ki := ki.lt
            clear hx
            go_wp2_with fail
            refine (l13 _).mono ?_; rintro e v4 ⟨rfl, hx⟩
            replace hb := hb.step hx
            replace hm := hm.step hx
            replace kg := kg.step hx; (try clear kg_0 kg_f0 kg_1 kg_f1 kg_2 kg_f2); have kg_0 := kg.cell 0; have kg_f0 := kg.frozen 0; have kg_1 := kg.cell 1; have kg_f1 := kg.frozen 1; have kg_2 := kg.cell 2; have kg_f2 := kg.frozen 2; simp only [List.set_cons_zero, List.set_cons_succ, List.getElem?_cons_zero, List.getElem?_cons_succ] at kg_0 kg_1 kg_2; (try clear lt_kg); have lt_kg := kg.lt; replace kh := kh.step hx; (try clear kh_0 kh_f0 kh_1 kh_f1 kh_2 kh_f2); have kh_0 := kh.cell 0; have kh_f0 := kh.frozen 0; have kh_1 := kh.cell 1; have kh_f1 := kh.frozen 1; have kh_2 := kh.cell 2; have kh_f2 := kh.frozen 2; simp only [List.set_cons_zero, List.set_cons_succ, List.getElem?_cons_zero, List.getElem?_cons_succ] at kh_0 kh_1 kh_2; (try clear lt_kh); have lt_kh := kh.lt; replace ki := ki.step hx; (try clear ki_0 ki_f0 ki_1 ki_f1 ki_2 ki_f2); have ki_0 := ki.cell 0; have ki_f0 := ki.frozen 0; have ki_1 := ki.cell 1; have ki_f1 := ki.frozen 1; have ki_2 := ki.cell 2; have ki_f2 := ki.frozen 2; simp only [List.set_cons_zero, List.set_cons_succ, List.getElem?_cons_zero, List.getElem?_cons_succ] at ki_0 ki_1 ki_2; (try clear lt_ki); have lt_ki := ki.lt
            clear hx
            go_wp2_with fail
            refine (awake09 _ hm).mono ?_; rintro e v5 ⟨rfl, hx⟩
            replace hb := hb.step hx
            replace hm := hm.step hx
            replace kg := kg.step hx; (try clear kg_0 kg_f0 kg_1 kg_f1 kg_2 kg_f2); have kg_0 := kg.cell 0; have kg_f0 := kg.frozen 0; have kg_1 := kg.cell 1; have kg_f1 := kg.frozen 1; have kg_2 := kg.cell 2; have kg_f2 := kg.frozen 2; simp only [List.set_cons_zero, List.set_cons_succ, List.getElem?_cons_zero, List.getElem?_cons_succ] at kg_0 kg_1 kg_2; (try clear lt_kg); have lt_kg := kg.lt; replace kh := kh.step hx; (try clear kh_0 kh_f0 kh_1 kh_f1 kh_2 kh_f2); have kh_0 := kh.cell 0; have kh_f0 := kh.frozen 0; have kh_1 := kh.cell 1; have kh_f1 := kh.frozen 1; have kh_2 := kh.cell 2; have kh_f2 := kh.frozen 2; simp only [List.set_cons_zero, List.set_cons_succ, List.getElem?_cons_zero, List.getElem?_cons_succ] at kh_0 kh_1 kh_2; (try clear lt_kh); have lt_kh := kh.lt; replace ki := ki.step hx; (try clear ki_0 ki_f0 ki_1 ki_f1 ki_2 ki_f2); have ki_0 := ki.cell 0; have ki_f0 := ki.frozen 0; have ki_1 := ki.cell 1; have ki_f1 := ki.frozen 1; have ki_2 := ki.cell 2; have ki_f2 := ki.frozen 2; simp only [List.set_cons_zero, List.set_cons_succ, List.getElem?_cons_zero, List.getElem?_cons_succ] at ki_0 ki_1 ki_2; (try clear lt_ki); have lt_ki := ki.lt
            clear hx
            go_wp2_with fail
            go_ret
            exact ⟨rfl, hb⟩
    obtain rfl | rfl | rfl : k = 0 ∨ k = 1 ∨ k = 2 := by omega
    · rw [show ((0 : Nat) : Int) = 0 from rfl]
      by_cases z0 : 50 < n.size
      · have hI : (50 : Int) < (n.size : Int) := by omega
        clear l0 l1 l2 z0
        go_wp2_with fail
        refine (awake09 _ hm).mono ?_; rintro e w3 ⟨rfl, hb2⟩
        go_wp2_with fail
        go_ret
        exact ⟨rfl, hb.step hb2⟩
      have i0 : (n.size : Int) ≤ 50 := by omega
      by_cases z1 : 50 < h.size
      · have hI : (50 : Int) < (h.size : Int) := by omega
        clear l0 l1 l2 z0 z1
        go_wp2_with fail
        refine (awake09 _ hm).mono ?_; rintro e w3 ⟨rfl, hb2⟩
        go_wp2_with fail
        go_ret
        exact ⟨rfl, hb.step hb2⟩
      have i1 : (h.size : Int) ≤ 50 := by omega
      by_cases z2 : 50 < r.size
      · have hI : (50 : Int) < (r.size : Int) := by omega
        clear l0 l1 l2 z0 z1 z2
        go_wp2_with fail
        refine (awake09 _ hm).mono ?_; rintro e w3 ⟨rfl, hb2⟩
        go_wp2_with fail
        go_ret
        exact ⟨rfl, hb.step hb2⟩
      have i2 : (r.size : Int) ≤ 50 := by omega
      go_wp2_with fail
      go_roundw
      case rel => exact ⟨1, by omega, by simp, fun _ => ⟨by omega, by omega, by omega⟩, fun h => by omega, fun h => by omega, by first | rfl | trivial⟩
      case measure => simp [intOf]
    · rw [show ((1 : Nat) : Int) = 1 from rfl]
      by_cases z0 : 50 < n2.size
      · have hI : (50 : Int) < (n2.size : Int) := by omega
        clear l0 l1 l2 z0
        go_wp2_with fail
        refine (awake09 _ hm).mono ?_; rintro e w3 ⟨rfl, hb2⟩
        go_wp2_with fail
        go_ret
        exact ⟨rfl, hb.step hb2⟩
      have i0 : (n2.size : Int) ≤ 50 := by omega
      by_cases z1 : 50 < h2.size
      · have hI : (50 : Int) < (h2.size : Int) := by omega
        clear l0 l1 l2 z0 z1
        go_wp2_with fail
        refine (awake09 _ hm).mono ?_; rintro e w3 ⟨rfl, hb2⟩
        go_wp2_with fail
        go_ret
        exact ⟨rfl, hb.step hb2⟩
      have i1 : (h2.size : Int) ≤ 50 := by omega
      by_cases z2 : 50 < r2.size
      · have hI : (50 : Int) < (r2.size : Int) := by omega
        clear l0 l1 l2 z0 z1 z2
        go_wp2_with fail
        refine (awake09 _ hm).mono ?_; rintro e w3 ⟨rfl, hb2⟩
        go_wp2_with fail
        go_ret
        exact ⟨rfl, hb.step hb2⟩
      have i2 : (r2.size : Int) ≤ 50 := by omega
      go_wp2_with fail
      go_roundw
      case rel => exact ⟨2, by omega, by simp, fun _ => l0 (by omega), fun _ => ⟨by omega, by omega, by omega⟩, fun h => by omega, by first | rfl | trivial⟩
      case measure => simp [intOf]
    · rw [show ((2 : Nat) : Int) = 2 from rfl]
      by_cases z0 : 50 < n3.size
      · have hI : (50 : Int) < (n3.size : Int) := by omega
        clear l0 l1 l2 z0
        go_wp2_with fail
        refine (awake09 _ hm).mono ?_; rintro e w3 ⟨rfl, hb2⟩
        go_wp2_with fail
        go_ret
        exact ⟨rfl, hb.step hb2⟩
      have i0 : (n3.size : Int) ≤ 50 := by omega
      by_cases z1 : 50 < h3.size
      · have hI : (50 : Int) < (h3.size : Int) := by omega
        clear l0 l1 l2 z0 z1
        go_wp2_with fail
        refine (awake09 _ hm).mono ?_; rintro e w3 ⟨rfl, hb2⟩
        go_wp2_with fail
        go_ret
        exact ⟨rfl, hb.step hb2⟩
      have i1 : (h3.size : Int) ≤ 50 := by omega
      by_cases z2 : 50 < r3.size
      · have hI : (50 : Int) < (r3.size : Int) := by omega
        clear l0 l1 l2 z0 z1 z2
        go_wp2_with fail
        refine (awake09 _ hm).mono ?_; rintro e w3 ⟨rfl, hb2⟩
        go_wp2_with fail
        go_ret
        exact ⟨rfl, hb.step hb2⟩
      have i2 : (r3.size : Int) ≤ 50 := by omega
      go_wp2_with fail
      go_roundw
      case rel => exact ⟨3, by omega, by simp, fun _ => l0 (by omega), fun _ => l1 (by omega), fun _ => ⟨by omega, by omega, by omega⟩, by first | rfl | trivial⟩
      case measure => simp [intOf]
end Go.Proofs.Ytmncjoihhdefcaa

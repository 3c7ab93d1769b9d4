/- Package addr: name, Check, Resource, text, Print. -/
import Derived.Test.YtfgfkiifekeeaaaAd2
import Derived.Test.YtfgfkiifekeeaaaRef02b
namespace Go.Proofs.Ytfgfkiifekeeaaa
open Go.RowKit Go.Shelf
set_option linter.unusedSimpArgs false
set_option linter.unusedVariables false

set_option maxRecDepth 100000 in
set_option maxHeartbeats 4000000 in
theorem addr_name_any (s : ByteArray) (hs : s.size ≤ 1000000) (w : World) : Calls Try.prog 74 #[.string s] w fun e w' => e = .returned (.bool (aName s.data.toList)) ∧ Below w.heap.size w w' := by
  have k0 := fun W => utf_Plain_any s (by unfold maxLen; omega) W
  have k1 : ∀ W, Calls Try.prog 84 #[.string s, .string ⟨#[32, 64, 47]⟩] W fun e w' => e = .returned (.bool (s.data.toList.any bad3)) ∧ Below W.heap.size W w' := fun W => containsAny_any s hs W
  have k2 := fun W => utf_Low_any s (by unfold maxLen; omega) W
  have hE := str_beq (lowS s) s
  have hlow : (lowS s).data.toList = s.data.toList.map uLow := rfl
  rw [hlow] at hE
  unfold aName
  generalize uPlain s.data.toList = p at *
  generalize s.data.toList.any bad3 = b at *
  generalize decide (s.data.toList.map uLow = s.data.toList) = d at *
  clear hlow
  cases p with
  | false =>
    go_enter Try.func74, Try.ntmps74
    go_wp2_with fail
    refine (k0 _).mono ?_; rintro e w1 ⟨rfl, hb⟩
    go_wp2_with fail
    go_ret
    exact ⟨rfl, hb⟩
  | true =>
    cases b with
    | true =>
      go_enter Try.func74, Try.ntmps74
      go_wp2_with fail
      refine (k0 _).mono ?_; rintro e w1 ⟨rfl, hb⟩
      go_wp2_with fail
      refine (k1 _).mono ?_; rintro e w2 ⟨rfl, hb2⟩; replace hb := hb.step hb2; clear hb2
      go_wp2_with fail
      go_ret
      exact ⟨rfl, hb⟩
    | false =>
      go_enter Try.func74, Try.ntmps74
      go_wp2_with fail
      refine (k0 _).mono ?_; rintro e w1 ⟨rfl, hb⟩
      go_wp2_with fail
      refine (k1 _).mono ?_; rintro e w2 ⟨rfl, hb2⟩; replace hb := hb.step hb2; clear hb2
      go_wp2_with fail
      refine (k2 _).mono ?_; rintro e w3 ⟨rfl, hb2⟩; replace hb := hb.step hb2; clear hb2
      go_wp2_with fail
      go_ret
      exact ⟨by simp, hb⟩
set_option maxRecDepth 100000 in
set_option maxHeartbeats 4000000 in
theorem addr_Resource_any (s : ByteArray) (hs : s.size ≤ 1000000) (w : World) : Calls Try.prog 48 #[.string s] w fun e w' => e = .returned (.int .i64 (aRes s.data.toList)) ∧ Below w.heap.size w w' := by
  have k0 := fun W => utf_Plain_any s (by unfold maxLen; omega) W
  unfold aRes
  rw [list_size]
  generalize uPlain s.data.toList = p at *
  by_cases h12 : 12 < s.size
  · have hI : (12 : Int) < (s.size : Int) := by omega
    rw [if_pos h12]
    clear h12
    go_enter Try.func48, Try.ntmps48
    go_wp2_with fail
    go_ret
    exact ⟨rfl, Below.refl _ _⟩
  have hI : (s.size : Int) ≤ 12 := by omega
  rw [if_neg h12]
  clear h12
  cases p with
  | false =>
    rw [if_neg (by simp)]
    go_enter Try.func48, Try.ntmps48
    go_wp2_with fail
    refine (k0 _).mono ?_; rintro e w1 ⟨rfl, hb⟩
    go_wp2_with fail
    go_ret
    exact ⟨rfl, hb⟩
  | true =>
    rw [if_pos rfl]
    go_enter Try.func48, Try.ntmps48
    go_wp2_with fail
    refine (k0 _).mono ?_; rintro e w1 ⟨rfl, hb⟩
    go_wp2_with fail
    go_ret
    exact ⟨rfl, hb⟩
set_option maxRecDepth 100000 in
set_option maxHeartbeats 4000000 in
theorem addr_Check_any (n h r : ByteArray) (hn : n.size ≤ 1000000) (hh : h.size ≤ 1000000) (hr : r.size ≤ 1000000) (w : World) (hm : MW w) : Calls Try.prog 62 #[aV n h r] w fun e w' =>
    e = .returned (.int .i64 (aCheck n.data.toList h.data.toList r.data.toList)) ∧ Below w.heap.size w w' := by
  have k0 := fun W => addr_parts_any n h r W
  have k1 := fun W => addr_name_any n hn W
  have k2 := fun W hW => addr_host_any h hh W hW
  have k3 := fun W => utf_Plain_any r (by unfold maxLen; omega) W
  have hnE := isE2 n
  have hhE := isE2 h
  obtain ⟨R, hR⟩ : ∃ R, R = aCheck n.data.toList h.data.toList r.data.toList := ⟨_, rfl⟩
  rw [← hR]
  unfold aCheck at hR
  rw [list_size, list_size, list_size] at hR
  generalize aName n.data.toList = pn at *
  generalize aHost h.data.toList = ph at *
  generalize uPlain r.data.toList = pr at *
  replace hR := hide hR
  unfold aV at *
  go_enter Try.func62, Try.ntmps62
  go_wp2_with fail
  generalize hV : World.alloc (World.alloc w _) _ = w1
  have hb : Below w.heap.size w w1 := by subst hV; (repeat (first | with_reducible exact Below.refl _ _ | with_reducible assumption | with_reducible refine Below.drew ?_ | with_reducible refine Below.drewN ?_ _ | with_reducible refine Below.alloc1 ?_ _ | with_reducible refine Below.setCell1 ?_ (by first | omega | (simp; done) | (simp; omega)) _ | with_reducible refine Below.step ?_ (by with_reducible assumption)))
  have q0 : Bk w1 w.heap.size 94 (aC n h r) := by subst hV; exact (Bk.new w _ (aC n h r)).alloc _
  have q1 : Bk w1 (w.heap.size + 1) 115 [.int .i64 16, .int .i64 16, .int .i64 12] := by subst hV; exact Bk.new' _ _ _ _ (by simp)
  clear hV
  unfold aC at q0
  have q0_0 := q0.cell 0; have q0_f0 := q0.frozen 0; have q0_1 := q0.cell 1; have q0_f1 := q0.frozen 1; have q0_2 := q0.cell 2; have q0_f2 := q0.frozen 2; simp only [List.set_cons_zero, List.set_cons_succ, List.getElem?_cons_zero, List.getElem?_cons_succ] at q0_0 q0_1 q0_2; have lt_q0 := q0.lt; have q1_0 := q1.cell 0; have q1_f0 := q1.frozen 0; have q1_1 := q1.cell 1; have q1_f1 := q1.frozen 1; have q1_2 := q1.cell 2; have q1_f2 := q1.frozen 2; simp only [List.set_cons_zero, List.set_cons_succ, List.getElem?_cons_zero, List.getElem?_cons_succ] at q1_0 q1_1 q1_2; have lt_q1 := q1.lt
  replace hR := hide hR.out
  go_loopw [6] (fun i wr => ∃ k : Nat, k ≤ 3 ∧ i = .int .i64 k ∧ (0 < k → n.size ≤ 16) ∧ (1 < k → h.size ≤ 16) ∧ (2 < k → r.size ≤ 12) ∧ Below w1.heap.size w1 wr) (fun i _ => 3 - (intOf i).toNat)
  case atStart => exact ⟨0, by omega, rfl, by omega, by omega, by omega, Below.refl _ _⟩
  case round =>
    obtain ⟨k, hk, rfl, l0, l1, l2, hbr⟩ := hrel
    replace q0 := q0.step hbr; (try clear q0_0 q0_f0 q0_1 q0_f1 q0_2 q0_f2); have q0_0 := q0.cell 0; have q0_f0 := q0.frozen 0; have q0_1 := q0.cell 1; have q0_f1 := q0.frozen 1; have q0_2 := q0.cell 2; have q0_f2 := q0.frozen 2; simp only [List.set_cons_zero, List.set_cons_succ, List.getElem?_cons_zero, List.getElem?_cons_succ] at q0_0 q0_1 q0_2; (try clear lt_q0); have lt_q0 := q0.lt; replace q1 := q1.step hbr; (try clear q1_0 q1_f0 q1_1 q1_f1 q1_2 q1_f2); have q1_0 := q1.cell 0; have q1_f0 := q1.frozen 0; have q1_1 := q1.cell 1; have q1_f1 := q1.frozen 1; have q1_2 := q1.cell 2; have q1_f2 := q1.frozen 2; simp only [List.set_cons_zero, List.set_cons_succ, List.getElem?_cons_zero, List.getElem?_cons_succ] at q1_0 q1_1 q1_2; (try clear lt_q1); have lt_q1 := q1.lt
    have hlw : w.heap.size < wr.heap.size := lt_q0
    by_cases h3 : k = 3
    case pos =>
      subst h3
      have z0 := l0 (by omega)
      have z1 := l1 (by omega)
      have z2 := l2 (by omega)
      have hR1 := hide (hR.out.trans (if_neg (by omega)))
      clear l0 l1 l2 hR k0
      have hmr : MW wr := (hm.step hb).step hbr
      replace hb := hb.step hbr
      by_cases en : n.data.toList = []
      · have hR2 := hide (show R = 4 by rw [hR1.out, if_pos (.inl en)])
        rw [decide_eq_true en] at hnE
        clear hR1 en
        go_wp2_with fail
        go_ret
        exact ⟨by rw [hR2.out]; rfl, hb⟩
      rw [decide_eq_false en] at hnE
      by_cases eh : h.data.toList = []
      · have hR2 := hide (show R = 4 by rw [hR1.out, if_pos (.inr eh)])
        rw [decide_eq_true eh] at hhE
        clear hR1 eh
        go_wp2_with fail
        go_ret
        exact ⟨by rw [hR2.out]; rfl, hb⟩
      rw [decide_eq_false eh] at hhE
      have hR2 := hide (hR1.out.trans (if_neg (by rintro (h | h) <;> contradiction)))
      clear hR1 en eh
      cases pn with
      | false =>
        have hR3 := hide (show R = 11 by rw [hR2.out]; rfl)
        go_wp2_with fail
        refine (k1 _).mono ?_; rintro e w3 ⟨rfl, hb2⟩; replace hb := hb.step hb2
        go_wp2_with fail
        go_ret
        exact ⟨by rw [hR3.out]; rfl, hb⟩
      | true =>
      cases ph with
      | false =>
        have hR3 := hide (show R = 11 by rw [hR2.out]; rfl)
        go_wp2_with fail
        refine (k1 _).mono ?_; rintro e w3 ⟨rfl, hb2⟩; replace hb := hb.step hb2
        have hm3 := hmr.step hb2
        replace q0 := q0.step hb2; (try clear q0_0 q0_f0 q0_1 q0_f1 q0_2 q0_f2); have q0_0 := q0.cell 0; have q0_f0 := q0.frozen 0; have q0_1 := q0.cell 1; have q0_f1 := q0.frozen 1; have q0_2 := q0.cell 2; have q0_f2 := q0.frozen 2; simp only [List.set_cons_zero, List.set_cons_succ, List.getElem?_cons_zero, List.getElem?_cons_succ] at q0_0 q0_1 q0_2; (try clear lt_q0); have lt_q0 := q0.lt
        go_wp2_with fail
        refine (k2 _ hm3).mono ?_; rintro e w4 ⟨rfl, hb3⟩; replace hb := hb.step hb3
        go_wp2_with fail
        go_ret
        exact ⟨by rw [hR3.out]; rfl, hb⟩
      | true =>
      cases pr with
      | false =>
        have hR3 := hide (show R = 11 by rw [hR2.out]; rfl)
        go_wp2_with fail
        refine (k1 _).mono ?_; rintro e w3 ⟨rfl, hb2⟩; replace hb := hb.step hb2
        have hm3 := hmr.step hb2
        replace q0 := q0.step hb2; (try clear q0_0 q0_f0 q0_1 q0_f1 q0_2 q0_f2); have q0_0 := q0.cell 0; have q0_f0 := q0.frozen 0; have q0_1 := q0.cell 1; have q0_f1 := q0.frozen 1; have q0_2 := q0.cell 2; have q0_f2 := q0.frozen 2; simp only [List.set_cons_zero, List.set_cons_succ, List.getElem?_cons_zero, List.getElem?_cons_succ] at q0_0 q0_1 q0_2; (try clear lt_q0); have lt_q0 := q0.lt
        go_wp2_with fail
        refine (k2 _ hm3).mono ?_; rintro e w4 ⟨rfl, hb3⟩; replace hb := hb.step hb3
        replace q0 := q0.step hb3; (try clear q0_0 q0_f0 q0_1 q0_f1 q0_2 q0_f2); have q0_0 := q0.cell 0; have q0_f0 := q0.frozen 0; have q0_1 := q0.cell 1; have q0_f1 := q0.frozen 1; have q0_2 := q0.cell 2; have q0_f2 := q0.frozen 2; simp only [List.set_cons_zero, List.set_cons_succ, List.getElem?_cons_zero, List.getElem?_cons_succ] at q0_0 q0_1 q0_2; (try clear lt_q0); have lt_q0 := q0.lt
        go_wp2_with fail
        refine (k3 _).mono ?_; rintro e w5 ⟨rfl, hb4⟩; replace hb := hb.step hb4
        go_wp2_with fail
        go_ret
        exact ⟨by rw [hR3.out]; rfl, hb⟩
      | true =>
        have hR3 := hide (show R = 0 by rw [hR2.out]; rfl)
        go_wp2_with fail
        refine (k1 _).mono ?_; rintro e w3 ⟨rfl, hb2⟩; replace hb := hb.step hb2
        have hm3 := hmr.step hb2
        replace q0 := q0.step hb2; (try clear q0_0 q0_f0 q0_1 q0_f1 q0_2 q0_f2); have q0_0 := q0.cell 0; have q0_f0 := q0.frozen 0; have q0_1 := q0.cell 1; have q0_f1 := q0.frozen 1; have q0_2 := q0.cell 2; have q0_f2 := q0.frozen 2; simp only [List.set_cons_zero, List.set_cons_succ, List.getElem?_cons_zero, List.getElem?_cons_succ] at q0_0 q0_1 q0_2; (try clear lt_q0); have lt_q0 := q0.lt
        go_wp2_with fail
        refine (k2 _ hm3).mono ?_; rintro e w4 ⟨rfl, hb3⟩; replace hb := hb.step hb3
        replace q0 := q0.step hb3; (try clear q0_0 q0_f0 q0_1 q0_f1 q0_2 q0_f2); have q0_0 := q0.cell 0; have q0_f0 := q0.frozen 0; have q0_1 := q0.cell 1; have q0_f1 := q0.frozen 1; have q0_2 := q0.cell 2; have q0_f2 := q0.frozen 2; simp only [List.set_cons_zero, List.set_cons_succ, List.getElem?_cons_zero, List.getElem?_cons_succ] at q0_0 q0_1 q0_2; (try clear lt_q0); have lt_q0 := q0.lt
        go_wp2_with fail
        refine (k3 _).mono ?_; rintro e w5 ⟨rfl, hb4⟩; replace hb := hb.step hb4
        go_wp2_with fail
        go_ret
        exact ⟨by rw [hR3.out]; rfl, hb⟩
    obtain rfl | rfl | rfl : k = 0 ∨ k = 1 ∨ k = 2 := by omega
    · rw [show ((0 : Nat) : Int) = 0 from rfl]
      have hix : ∀ W, (Instr.index 116 (.agg #[.string n, .string h, .string r]) (.int .i64 0)).run Try.prog W = .ok (.string n) W := fun _ => rfl
      by_cases hbig : 16 < n.size
      · have hI : (16 : Int) < (n.size : Int) := by omega
        have hR2 := hide (show R = 5 by rw [hR.out, if_pos (by omega)])
        clear hbig
        go_wp2_with fail
        (refine wp_region_qb (by kernel_rfl) (by kernel_rfl) (fun kq => ?_); (try dsimp only [List.append]); (repeat (go_big_quiet_step (((go_at_call 73; exact (k0 _).qb))))); refine wpQuiet_nil ?_; intro wq hwq; have hbq := below_of_class hwq; clear hwq kq)
        go_wp2_with fail
        go_ret
        exact ⟨by rw [hR2.out]; rfl, hb.step (hbr.step hbq)⟩
      · have hI : (n.size : Int) ≤ 16 := by omega
        go_wp2_with fail
        (refine wp_region_qb (by kernel_rfl) (by kernel_rfl) (fun kq => ?_); (try dsimp only [List.append]); (repeat (go_big_quiet_step (((go_at_call 73; exact (k0 _).qb))))); refine wpQuiet_nil ?_; intro wq hwq; have hbq := below_of_class hwq; clear hwq kq)
        go_wp2_with fail
        go_roundw
        case rel => exact ⟨1, by omega, by simp, fun _ => by omega, fun h => by omega, fun h => by omega, hbr.step hbq⟩
        case measure => simp [intOf]
    · rw [show ((1 : Nat) : Int) = 1 from rfl]
      have hix : ∀ W, (Instr.index 116 (.agg #[.string n, .string h, .string r]) (.int .i64 1)).run Try.prog W = .ok (.string h) W := fun _ => rfl
      by_cases hbig : 16 < h.size
      · have hI : (16 : Int) < (h.size : Int) := by omega
        have hR2 := hide (show R = 5 by rw [hR.out, if_pos (by omega)])
        clear hbig
        go_wp2_with fail
        (refine wp_region_qb (by kernel_rfl) (by kernel_rfl) (fun kq => ?_); (try dsimp only [List.append]); (repeat (go_big_quiet_step (((go_at_call 73; exact (k0 _).qb))))); refine wpQuiet_nil ?_; intro wq hwq; have hbq := below_of_class hwq; clear hwq kq)
        go_wp2_with fail
        go_ret
        exact ⟨by rw [hR2.out]; rfl, hb.step (hbr.step hbq)⟩
      · have hI : (h.size : Int) ≤ 16 := by omega
        go_wp2_with fail
        (refine wp_region_qb (by kernel_rfl) (by kernel_rfl) (fun kq => ?_); (try dsimp only [List.append]); (repeat (go_big_quiet_step (((go_at_call 73; exact (k0 _).qb))))); refine wpQuiet_nil ?_; intro wq hwq; have hbq := below_of_class hwq; clear hwq kq)
        go_wp2_with fail
        go_roundw
        case rel => exact ⟨2, by omega, by simp, fun _ => l0 (by omega), fun _ => by omega, fun h => by omega, hbr.step hbq⟩
        case measure => simp [intOf]
    · rw [show ((2 : Nat) : Int) = 2 from rfl]
      have hix : ∀ W, (Instr.index 116 (.agg #[.string n, .string h, .string r]) (.int .i64 2)).run Try.prog W = .ok (.string r) W := fun _ => rfl
      by_cases hbig : 12 < r.size
      · have hI : (12 : Int) < (r.size : Int) := by omega
        have hR2 := hide (show R = 5 by rw [hR.out, if_pos (by omega)])
        clear hbig
        go_wp2_with fail
        (refine wp_region_qb (by kernel_rfl) (by kernel_rfl) (fun kq => ?_); (try dsimp only [List.append]); (repeat (go_big_quiet_step (((go_at_call 73; exact (k0 _).qb))))); refine wpQuiet_nil ?_; intro wq hwq; have hbq := below_of_class hwq; clear hwq kq)
        go_wp2_with fail
        go_ret
        exact ⟨by rw [hR2.out]; rfl, hb.step (hbr.step hbq)⟩
      · have hI : (r.size : Int) ≤ 12 := by omega
        go_wp2_with fail
        (refine wp_region_qb (by kernel_rfl) (by kernel_rfl) (fun kq => ?_); (try dsimp only [List.append]); (repeat (go_big_quiet_step (((go_at_call 73; exact (k0 _).qb))))); refine wpQuiet_nil ?_; intro wq hwq; have hbq := below_of_class hwq; clear hwq kq)
        go_wp2_with fail
        go_roundw
        case rel => exact ⟨3, by omega, by simp, fun _ => l0 (by omega), fun _ => l1 (by omega), fun _ => by omega, hbr.step hbq⟩
        case measure => simp [intOf]
end Go.Proofs.Ytfgfkiifekeeaaa
